/- Plain arithmetic of the calendar: the day number of a date, month by month and year by year; what a day's date is. No program in sight. No condition. -/
namespace Go.Proofs.Ytljbajnmkkebkaa.Civ

/-- Is a year a leap year? -/
def Leap (y : Int) : Prop := y % 4 = 0 ∧ (y % 100 ≠ 0 ∨ y % 400 = 0)
instance (y : Int) : Decidable (Leap y) := by unfold Leap; exact inferInstance
/-- The days of a month. -/
def md (y m : Int) : Int := if m < 1 then 0 else if 12 < m then 0 else if m = 2 then (if Leap y then 29 else 28) else if m = 4 then 30 else if m = 6 then 30 else if m = 9 then 30 else if m = 11 then 30 else 31
/-- The first day of a month, as the program reckons it: years from March on. -/
def ms (y m : Int) : Int := if m < 3 then -693901 + 365 * (y - 1) + (y - 1) / 4 - (y - 1) / 100 + (y - 1) / 400 + (153 * (m + 9) + 2) / 5 else -693901 + 365 * y + y / 4 - y / 100 + y / 400 + (153 * (m - 3) + 2) / 5
def yd (y : Int) : Int := if Leap y then 366 else 365

theorem md_bd (y m : Int) (h1 : 1 ≤ m) (h2 : m ≤ 12) : 28 ≤ md y m ∧ md y m ≤ 31 := by
  unfold md
  (repeat' split) <;> omega
theorem ms_next (y m : Int) (h1 : 1 ≤ m) (h2 : m < 12) : ms y (m + 1) = ms y m + md y m := by
  obtain rfl | rfl | rfl | rfl | rfl | rfl | rfl | rfl | rfl | rfl | rfl : m = 1 ∨ m = 2 ∨ m = 3 ∨ m = 4 ∨ m = 5 ∨ m = 6 ∨ m = 7 ∨ m = 8 ∨ m = 9 ∨ m = 10 ∨ m = 11 := by omega
  case inr.inl =>
    simp only [ms, md, Leap]
    by_cases c4 : y % 4 = 0 <;> by_cases c100 : y % 100 = 0 <;> by_cases c400 : y % 400 = 0 <;> simp [c4, c100, c400] <;> omega
  all_goals
    simp [ms, md]
    try omega
theorem ms_year (y : Int) : ms (y + 1) 1 = ms y 12 + 31 := by
  simp [ms]
  omega
theorem ms_yd (y : Int) : ms (y + 1) 1 = ms y 1 + yd y := by
  simp only [ms, yd, Leap]
  by_cases c4 : y % 4 = 0 <;> by_cases c100 : y % 100 = 0 <;> by_cases c400 : y % 400 = 0 <;> simp [c4, c100, c400] <;> omega
/-- The first day of the i-th month: i counts months from the year 0 on. -/
def mi (i : Int) : Int := ms (i / 12) (i % 12 + 1)
theorem mi_of (y m : Int) (h1 : 1 ≤ m) (h2 : m ≤ 12) : mi (12 * y + (m - 1)) = ms y m := by
  unfold mi
  have e1 : (12 * y + (m - 1)) / 12 = y := by omega
  have e2 : (12 * y + (m - 1)) % 12 + 1 = m := by omega
  rw [e1, e2]
theorem mi_next (i : Int) : mi (i + 1) = mi i + md (i / 12) (i % 12 + 1) := by
  unfold mi
  by_cases h : i % 12 = 11
  · have e1 : (i + 1) / 12 = i / 12 + 1 := by omega
    have e2 : (i + 1) % 12 + 1 = 1 := by omega
    have e3 : i % 12 + 1 = 12 := by omega
    rw [e1, e2, e3, ms_year]
    rfl
  · have e1 : (i + 1) / 12 = i / 12 := by omega
    have e2 : (i + 1) % 12 + 1 = (i % 12 + 1) + 1 := by omega
    rw [e1, e2, ms_next _ _ (by omega) (by omega)]
theorem mi_step (i : Int) : mi i + 28 ≤ mi (i + 1) ∧ mi (i + 1) ≤ mi i + 31 := by
  have h := mi_next i
  have := md_bd (i / 12) (i % 12 + 1) (by omega) (by omega)
  omega
theorem mi_up (i : Int) : ∀ d : Nat, mi i + 28 * (d : Int) ≤ mi (i + d) := by
  intro d
  induction d with
  | zero => simp
  | succ d ih =>
    have h := mi_step (i + d)
    have e : i + ((d + 1 : Nat) : Int) = i + (d : Int) + 1 := by omega
    rw [e]
    omega
theorem mi_mono {i j : Int} (h : i ≤ j) : mi i + 28 * (j - i) ≤ mi j := by
  have := mi_up i (j - i).toNat
  have e : i + ((j - i).toNat : Int) = j := by omega
  rw [e] at this
  omega
/-- A date. -/
structure Date (y m d : Int) : Prop where
  m1 : 1 ≤ m
  m2 : m ≤ 12
  d1 : 1 ≤ d
  d2 : d ≤ md y m
/-- The number of a date. -/
def dn (y m d : Int) : Int := ms y m + d - 1
theorem Date.le {y m d y' m' d' : Int} (h : Date y m d) (h' : Date y' m' d') (hlt : 12 * y + m < 12 * y' + m') : dn y m d < dn y' m' d' := by
  have a1 := h.m1
  have a2 := h.m2
  have a3 := h.d2
  have b1 := h'.m1
  have b2 := h'.m2
  have b3 := h'.d1
  have e1 := mi_of y m a1 a2
  have e2 := mi_of y' m' b1 b2
  have e3 := mi_next (12 * y + (m - 1))
  have e4 : (12 * y + (m - 1)) / 12 = y := by omega
  have e5 : (12 * y + (m - 1)) % 12 + 1 = m := by omega
  rw [e4, e5, e1] at e3
  have e6 := mi_mono (i := 12 * y + (m - 1) + 1) (j := 12 * y' + (m' - 1)) (by omega)
  rw [e2, e3] at e6
  unfold dn
  omega
/-- A number has one date. -/
theorem Date.one {y m d y' m' d' : Int} (h : Date y m d) (h' : Date y' m' d') (e : dn y m d = dn y' m' d') : y = y' ∧ m = m' ∧ d = d' := by
  have a1 := h.m1
  have a2 := h.m2
  have b1 := h'.m1
  have b2 := h'.m2
  rcases Int.lt_trichotomy (12 * y + m) (12 * y' + m') with c | c | c
  · have := h.le h' c
    omega
  · have hy : y = y' := by omega
    have hm : m = m' := by omega
    subst hy hm
    unfold dn at e
    exact ⟨rfl, rfl, by omega⟩
  · have := h'.le h c
    omega
theorem Date.next {y m d : Int} (h : Date y m d) : dn y m d + 1 = (if d = md y m then (if m = 12 then dn (y + 1) 1 1 else dn y (m + 1) 1) else dn y m (d + 1)) := by
  have a1 := h.m1
  have a2 := h.m2
  split
  · split
    · rename_i h1 h2
      subst h2
      unfold dn
      rw [ms_year, h1]
      have : md y 12 = 31 := rfl
      omega
    · unfold dn
      rw [ms_next y m a1 (by omega)]
      omega
  · unfold dn
    omega

/-! ### The date of a day, as the program reckons it -/
def cC (n : Int) : Int := (n + 693901) / 146097
def cd (n : Int) : Int := (n + 693901) % 146097
def cY (n : Int) : Int := (cd n - cd n / 1460 + cd n / 36524 - cd n / 146096) / 365
def ce (n : Int) : Int := cd n - (365 * cY n + cY n / 4 - cY n / 100)
def cM (n : Int) : Int := (5 * ce n + 2) / 153
def oy (n : Int) : Int := if 12 < cM n + 3 then 400 * cC n + cY n + 1 else 400 * cC n + cY n
def om (n : Int) : Int := if 12 < cM n + 3 then cM n + 3 - 12 else cM n + 3
def od (n : Int) : Int := ce n - (153 * cM n + 2) / 5 + 1
/-- The parts of a cycle's day: centuries, fours of years, days, years. -/
theorem parts (d : Int) (h0 : 0 ≤ d) (h1 : d ≤ 146095) : ∃ c f u g : Int, d = 36524 * c + 1461 * f + u ∧ 0 ≤ c ∧ c ≤ 3 ∧ 0 ≤ f ∧ f ≤ 24 ∧ 0 ≤ u ∧ u ≤ 1460 ∧ 1461 * f + u ≤ 36523 ∧ 0 ≤ g ∧ g ≤ 3 ∧ 365 * g ≤ u ∧ u ≤ 365 * g + 365 ∧ (g ≤ 2 → u ≤ 365 * g + 364) := by
  refine ⟨d / 36524, d % 36524 / 1461, d % 36524 % 1461, if d % 36524 % 1461 / 365 ≤ 3 then d % 36524 % 1461 / 365 else 3, ?_⟩
  split <;> omega
structure Year (d Y e : Int) : Prop where
  y0 : 0 ≤ Y
  y1 : Y ≤ 399
  e0 : 0 ≤ e
  e1 : e ≤ 365
  lp : e = 365 → (Y + 1) % 4 = 0 ∧ ((Y + 1) % 100 ≠ 0 ∨ Y + 1 = 400)
theorem year_of (n : Int) : Year (cd n) (cY n) (ce n) := by
  have hd0 : 0 ≤ cd n := by unfold cd; omega
  have hd1 : cd n ≤ 146096 := by unfold cd; omega
  unfold ce cY
  generalize cd n = d at *
  by_cases h : d = 146096
  · subst h
    exact ⟨by decide, by decide, by decide, by decide, fun _ => by decide⟩
  · obtain ⟨c, f, u, g, e, c0, c1, f0, f1, u0, u1, fu, g0, g1, gu, ug, g2⟩ := parts d hd0 (by omega)
    have q1 : d / 36524 = c := by omega
    have q2 : d / 146096 = 0 := by omega
    have q3 : d - d / 1460 + c - 0 = 365 * (100 * c + 4 * f + g) + (u - 365 * g - (24 * c + f + u) / 1460) := by omega
    have q4 : (d - d / 1460 + c - 0) / 365 = 100 * c + 4 * f + g := by
      rw [q3]
      have : 0 ≤ u - 365 * g - (24 * c + f + u) / 1460 ∧ u - 365 * g - (24 * c + f + u) / 1460 ≤ 364 := by
        obtain rfl | rfl | rfl | rfl : g = 0 ∨ g = 1 ∨ g = 2 ∨ g = 3 := by omega
        all_goals omega
      omega
    have q5 : (100 * c + 4 * f + g) / 4 = 25 * c + f := by omega
    have q6 : (100 * c + 4 * f + g) / 100 = c := by omega
    have q7 : d - (365 * (100 * c + 4 * f + g) + (25 * c + f) - c) = u - 365 * g := by omega
    rw [q1, q2, q4, q5, q6, q7]
    exact ⟨by omega, by omega, by omega, by omega, fun he => by
      obtain rfl : g = 3 := by omega
      have q8 : f ≤ 23 := by omega
      exact ⟨by omega, by omega⟩⟩
theorem month_of (n : Int) : 0 ≤ cM n ∧ cM n ≤ 11 := by
  have y := year_of n
  have := y.e0
  have := y.e1
  unfold cM
  omega
theorem of_month (n : Int) : 1 ≤ om n ∧ om n ≤ 12 := by
  have := month_of n
  unfold om
  split <;> omega
theorem of_dn (n : Int) : dn (oy n) (om n) (od n) = n := by
  have y := year_of n
  have hm := month_of n
  have := y.y0
  have := y.y1
  have e1 : ce n = cd n - (365 * cY n + cY n / 4 - cY n / 100) := rfl
  have e2 : cd n = n + 693901 - 146097 * cC n := by unfold cd cC; omega
  unfold dn oy om od
  generalize ce n = e at *
  generalize cM n = M at *
  generalize cY n = Y at *
  generalize cC n = C at *
  generalize cd n = d at *
  subst e1 e2
  unfold ms
  split
  · rw [if_pos (by omega)]
    have a1 : (400 * C + Y + 1 - 1) / 4 = 100 * C + Y / 4 := by omega
    have a2 : (400 * C + Y + 1 - 1) / 100 = 4 * C + Y / 100 := by omega
    have a3 : (400 * C + Y + 1 - 1) / 400 = C := by omega
    have a4 : M + 3 - 12 + 9 = M := by omega
    rw [a1, a2, a3, a4]
    omega
  · rw [if_neg (by omega)]
    have a1 : (400 * C + Y) / 4 = 100 * C + Y / 4 := by omega
    have a2 : (400 * C + Y) / 100 = 4 * C + Y / 100 := by omega
    have a3 : (400 * C + Y) / 400 = C := by omega
    have a4 : M + 3 - 3 = M := by omega
    rw [a1, a2, a3, a4]
    omega
theorem of_date (n : Int) : Date (oy n) (om n) (od n) := by
  have y := year_of n
  have hm := month_of n
  have ho := of_month n
  have y0 := y.y0
  have y1 := y.y1
  have e0 := y.e0
  have e1 := y.e1
  have lp := y.lp
  have hM : cM n = (5 * ce n + 2) / 153 := rfl
  refine ⟨ho.1, ho.2, ?_, ?_⟩
  · unfold od
    omega
  · unfold oy om od
    generalize ce n = e at *
    generalize cM n = M at *
    generalize cY n = Y at *
    generalize cC n = C at *
    clear ho y
    obtain rfl | rfl | rfl | rfl | rfl | rfl | rfl | rfl | rfl | rfl | rfl | rfl : M = 0 ∨ M = 1 ∨ M = 2 ∨ M = 3 ∨ M = 4 ∨ M = 5 ∨ M = 6 ∨ M = 7 ∨ M = 8 ∨ M = 9 ∨ M = 10 ∨ M = 11 := by omega
    case inr.inr.inr.inr.inr.inr.inr.inr.inr.inr.inr =>
      have b1 : e ≤ 364 ∨ e = 365 := by omega
      simp only [md, Leap]
      rcases b1 with b1 | b1
      · have : (if (400 * C + Y + 1) % 4 = 0 ∧ ((400 * C + Y + 1) % 100 ≠ 0 ∨ (400 * C + Y + 1) % 400 = 0) then (29 : Int) else 28) ≥ 28 := by split <;> omega
        simp only [show (12 : Int) < 11 + 3 from by decide, if_true]
        simp
        simp at this
        omega
      · have l := lp b1
        have : (400 * C + Y + 1) % 4 = 0 ∧ ((400 * C + Y + 1) % 100 ≠ 0 ∨ (400 * C + Y + 1) % 400 = 0) := by omega
        simp only [show (12 : Int) < 11 + 3 from by decide, if_true]
        simp
        simp at this
        rw [if_pos this]
        omega
    all_goals
      simp [md]
      omega
/-- A number's date is the one that is reckoned. -/
theorem of_one {n y m d : Int} (h : Date y m d) (e : dn y m d = n) : y = oy n ∧ m = om n ∧ d = od n := h.one (of_date n) (e.trans (of_dn n).symm)
end Go.Proofs.Ytljbajnmkkebkaa.Civ
