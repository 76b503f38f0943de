/- What the Go functions named below answer, each as a plain Lean function, and that its call comes to just that answer. No condition. Written by a program of this session (wip/myprint.py), which runs the kit's print with changes of its own. -/
import Derived.Test.YtpchlfjfambgoaaAll0
import Derived.Test.YtpchlfjfambgoaaAll5
import Derived.Test.YtpchlfjfambgoaaAll6
import Derived.Test.YtpchlfjfambgoaaAll7
namespace Go.Proofs.Ytpchlfjfambgoaa.All
open Go.RowKit Go.Proofs.YtpchlfjfambgoaaW.PrintWords Go.Proofs.YtpchlfjfambgoaaW.PrintLast Go.Proofs.YtpchlfjfambgoaaW.PrintMore
attribute [local go_sem] max2_int min2_int max_two min_two max_three min_three max_four min_four   -- for this text's walks alone
set_option linter.unusedVariables false
set_option linter.unusedSimpArgs false

/-! ### timesyncref05_Parse: function 15 (typed by hand) -/
def timesyncref05_Parse.f (a0 : ByteArray) : Option (Int × Int × Int × Int × Int × Int × Int × Int) :=
 if a0.size ≠ 30 then some (0, 0, 0, 0, 0, 0, 0, 19) else if civil_Parse.ok a0 = false then some (0, 0, 0, 0, 0, 0, 0, 19)
 else (timesyncref05_Check.f 9 (civil_Parse.fld a0 0 4) (civil_Parse.fld a0 5 2) (civil_Parse.fld a0 8 2) (civil_Parse.fld a0 11 2) (civil_Parse.fld a0 14 2) (civil_Parse.fld a0 17 2) (civil_Parse.fld a0 20 9)).bind fun e =>
  if e = 0 then some (civil_Parse.fld a0 0 4, civil_Parse.fld a0 5 2, civil_Parse.fld a0 8 2, civil_Parse.fld a0 11 2, civil_Parse.fld a0 14 2, civil_Parse.fld a0 17 2, civil_Parse.fld a0 20 9, 0) else some (0, 0, 0, 0, 0, 0, 0, 3)
theorem timesyncref05_Parse.num (t s : ByteArray) (i n : Nat) (ht : t.size = n) (hn : n ≤ 9) (he : ∀ j, j < n → bt t (j : Int) = bt s ((i + j : Nat) : Int)) (hd : ∀ j, j < n → 48 ≤ bt s ((i + j : Nat) : Int) ∧ bt s ((i + j : Nat) : Int) ≤ 57) :
  timesyncref05_number.l0 11 t (civil_Parse.fld s i 0) ((0 : Nat) : Int) = some (civil_Parse.fld s i n) := by
 suffices h : ∀ (m j k : Nat), j + m = n → m + 1 ≤ k → timesyncref05_number.l0 k t (civil_Parse.fld s i j) (j : Int) = some (civil_Parse.fld s i n) by
  have e := h n 0 11 (by omega) (by omega)
  exact e
 intro m
 induction m with
 | zero =>
  intro j k hj hk
  obtain ⟨k, rfl⟩ : ∃ q, k = q + 1 := ⟨k - 1, by omega⟩
  obtain rfl : j = n := by omega
  have c1 : ¬ (j : Int) < (t.size : Int) := by omega
  rw [timesyncref05_number.l0, if_neg c1]
 | succ m ih =>
  intro j k hj hk
  obtain ⟨k, rfl⟩ : ∃ q, k = q + 1 := ⟨k - 1, by omega⟩
  have h1 := hd j (by omega)
  have hb := civil_Parse.fld_bd s i n hd hn j (by omega)
  have hp := civil_Parse.P10_9 j (by omega)
  have e : civil_Parse.fld s i (j + 1) = civil_Parse.fld s i j * 10 + (bt s ((i + j : Nat) : Int) - 48) := rfl
  have e1 : wrap64 (10 * civil_Parse.fld s i j) = 10 * civil_Parse.fld s i j := by unfold wrap64; omega
  have e2 : wrap64 (10 * civil_Parse.fld s i j + (bt s ((i + j : Nat) : Int) - 48) % 256) = civil_Parse.fld s i (j + 1) := by rw [e]; unfold wrap64; omega
  have e3 : wrap64 ((j : Int) + 1) = ((j + 1 : Nat) : Int) := by unfold wrap64; omega
  have c1 : (j : Int) < (t.size : Int) := by omega
  have c2 : (0 : Int) ≤ (j : Int) := Int.natCast_nonneg j
  have c3 := he j (by omega)
  clear e hp hb h1
  rw [timesyncref05_number.l0, if_pos c1, if_pos c2, c3, e1, e2, e3]
  exact ih (j + 1) k (by omega) (by omega)
theorem timesyncref05_Parse.numf (t s : ByteArray) (i n : Nat) (ht : t.size = n) (hn : n ≤ 9) (he : ∀ j, j < n → bt t (j : Int) = bt s ((i + j : Nat) : Int)) (hd : ∀ j, j < n → 48 ≤ bt s ((i + j : Nat) : Int) ∧ bt s ((i + j : Nat) : Int) ≤ 57) : timesyncref05_number.f 11 t = some (civil_Parse.fld s i n) :=
 timesyncref05_Parse.num t s i n ht hn he hd
theorem timesyncref05_Parse.number (s : ByteArray) (i n : Nat) (w : World) (t : ByteArray) (ht : t.size = n) (hn : n ≤ 9) (he : ∀ j, j < n → bt t (j : Int) = bt s ((i + j : Nat) : Int)) (hd : ∀ j, j < n → 48 ≤ bt s ((i + j : Nat) : Int) ∧ bt s ((i + j : Nat) : Int) ≤ 57) :
  Calls Try.prog 33 #[.string t] w fun e w' => e = .returned (.int .i64 (civil_Parse.fld s i n)) ∧ Drawn0 w w' :=
 timesyncref05_number.calls 11 t _ w (timesyncref05_Parse.num t s i n ht hn he hd)
theorem timesyncref05_Parse.cut (s : ByteArray) (i n : Nat) (h : i + n ≤ s.size) : (s.extract i (i + n)).size = n ∧ ∀ j, j < n → bt (s.extract i (i + n)) (j : Int) = bt s ((i + j : Nat) : Int) := by
 have e : (s.extract i (i + n)).size = n := by rw [ByteArray.size_extract]; omega
 refine ⟨e, fun j hj => ?_⟩
 rw [← civil_Parse.bt_nat _ j (by omega), ← civil_Parse.bt_nat s (i + j) (by omega)]
 congr 2
 exact ByteArray.getElem_extract _
abbrev timesyncref05_Parse.zero : Array Value := #[.int .i64 0, .int .i64 0, .int .i64 0, .int .i64 0, .int .i64 0, .int .i64 0, .int .i64 0]
def timesyncref05_Parse.Post (w : World) (s : ByteArray) (e : Ending) (w' : World) : Prop :=
 ∀ r1 r2 r3 r4 r5 r6 r7 r8, timesyncref05_Parse.f s = some (r1, r2, r3, r4, r5, r6, r7, r8) → e = .returned (.tuple #[.agg #[.int .i64 r1, .int .i64 r2, .int .i64 r3, .int .i64 r4, .int .i64 r5, .int .i64 r6, .int .i64 r7], .int .i64 r8]) ∧ Below w.heap.size w w'
theorem timesyncref05_Parse.post {w w' : World} {s : ByteArray} {e : Ending} (q1 q2 q3 q4 q5 q6 q7 q8 : Int) (hf : timesyncref05_Parse.f s = some (q1, q2, q3, q4, q5, q6, q7, q8)) (he : e = .returned (.tuple #[.agg #[.int .i64 q1, .int .i64 q2, .int .i64 q3, .int .i64 q4, .int .i64 q5, .int .i64 q6, .int .i64 q7], .int .i64 q8])) (hb : Below w.heap.size w w') : timesyncref05_Parse.Post w s e w' := by
 intro r1 r2 r3 r4 r5 r6 r7 r8 h
 rw [hf] at h
 simp only [Option.some.injEq, Prod.mk.injEq] at h
 obtain ⟨rfl, rfl, rfl, rfl, rfl, rfl, rfl, rfl⟩ := h
 exact ⟨he, hb⟩
/-- The result's cells. -/
structure timesyncref05_Parse.At (w0 w : World) : Prop where
 k1 : w.heap[w0.heap.size]? = some (.cells #[.int .i64 0, .int .i64 0, .int .i64 0, .int .i64 0, .int .i64 0, .int .i64 0, .int .i64 0] 23 (0, 0))
 hb : Below w0.heap.size w0 w
theorem timesyncref05_Parse.At.start (w : World) : timesyncref05_Parse.At w (w.alloc (.cells #[.int .i64 0, .int .i64 0, .int .i64 0, .int .i64 0, .int .i64 0, .int .i64 0, .int .i64 0] 23)) :=
 ⟨blk_new w _, below_alloc (Below.refl _ _) _⟩
theorem timesyncref05_Parse.At.drewN {w0 w : World} (h : timesyncref05_Parse.At w0 w) (n : Nat) : timesyncref05_Parse.At w0 (w.drewN n) := ⟨h.k1, pw_below_drewN h.hb n⟩
theorem timesyncref05_Parse.At.step {w0 w w' : World} (h : timesyncref05_Parse.At w0 w) (hb : Below w.heap.size w w') : timesyncref05_Parse.At w0 w' := ⟨blk_below h.k1 hb, below_step h.hb hb⟩
theorem timesyncref05_Parse.At.put {w0 w : World} (h : timesyncref05_Parse.At w0 w) {g : Nat} (hg : w0.heap.size < g) (i : Nat) (v : Value) : timesyncref05_Parse.At w0 (w.setCell ⟨g, i, none⟩ v) :=
 ⟨blk_far h.k1 (p := ⟨g, i, none⟩) (Nat.ne_of_lt hg) v, h.hb.setCell (Nat.le_of_lt hg) v⟩
theorem timesyncref05_Parse.At.put7 {w0 w : World} (h : timesyncref05_Parse.At w0 w) {g : Nat} (hg : w0.heap.size < g) (v0 v1 v2 v3 v4 v5 v6 : Value) : timesyncref05_Parse.At w0 (((((((w.setCell ⟨g, 0, none⟩ v0).setCell ⟨g, 1, none⟩ v1).setCell ⟨g, 2, none⟩ v2).setCell ⟨g, 3, none⟩ v3).setCell ⟨g, 4, none⟩ v4).setCell ⟨g, 5, none⟩ v5).setCell ⟨g, 6, none⟩ v6) :=
 ((((((h.put hg 0 v0).put hg 1 v1).put hg 2 v2).put hg 3 v3).put hg 4 v4).put hg 5 v5).put hg 6 v6
theorem timesyncref05_Parse.below7 {w W : World} (h : Below w.heap.size w W) (v0 v1 v2 v3 v4 v5 v6 : Value) : Below w.heap.size w (((((((W.setCell ⟨w.heap.size, 0, none⟩ v0).setCell ⟨w.heap.size, 1, none⟩ v1).setCell ⟨w.heap.size, 2, none⟩ v2).setCell ⟨w.heap.size, 3, none⟩ v3).setCell ⟨w.heap.size, 4, none⟩ v4).setCell ⟨w.heap.size, 5, none⟩ v5).setCell ⟨w.heap.size, 6, none⟩ v6) :=
 ((((((h.setCell (Nat.le_refl _) v0).setCell (Nat.le_refl _) v1).setCell (Nat.le_refl _) v2).setCell (Nat.le_refl _) v3).setCell (Nat.le_refl _) v4).setCell (Nat.le_refl _) v5).setCell (Nat.le_refl _) v6
def timesyncref05_Parse.T8 : Bool × List (List Nat × List Nat) := (true, [([], []), ([0], [0]), ([1], [1]), ([], []), ([3], [3]), ([4, 2], [4]), ([], []), ([6], [6]), ([7, 5], [7]), ([], []), ([9], [9]), ([10, 8], [10]), ([], []), ([12], [12]), ([13, 11], [13]), ([], []), ([15], [15]), ([16, 14], [16]), ([], []), ([18], [18]), ([19, 17], [19]), ([2, 5, 8, 11, 14, 17, 20], [2, 5, 8, 11, 14, 17, 20]), ([], []), ([22, 21, 20, 0, 1, 2, 3, 4, 5, 6, 7, 8, 9, 10, 11, 12, 13, 14, 15, 16, 17, 18, 19, 20, 21, 22], [21, 22])])
def timesyncref05_Parse.B8 : List Nat := [0, 1, 3, 0, 8, 31, 0, 64, 255, 0, 512, 2047, 0, 4096, 16383, 0, 32768, 131071, 0, 262144, 1048575, 2097151, 0, 8388607]
theorem timesyncref05_Parse.tab8 : rtab .any (opsOf Try.f15 8) = timesyncref05_Parse.T8 := by kernel_rfl
theorem timesyncref05_Parse.bits8 : waitsOk timesyncref05_Parse.T8.2 timesyncref05_Parse.B8 = true := by kernel_rfl
set_option maxHeartbeats 3200000 in
set_option maxRecDepth 100000 in
theorem timesyncref05_Parse.walk (s : ByteArray) (w : World) (hsome : ∃ r, timesyncref05_Parse.f s = some r) : Calls Try.prog 15 #[.string s] w (timesyncref05_Parse.Post w s) := by
 have hu := Try.underlying23
 have HSM := Aside0.mk hsome
 clear hsome
 by_cases hsz : s.size = 30
 ·have HS := Aside0.mk hsz
  have hn : ((s.size : Int) != 30) = false := by rw [hsz]; rfl
  clear hsz
  go_enter Try.func15, Try.ntmps15
  go_wp2
  go_loopw [4] (fun q W => ∃ k : Nat, k ≤ 30 ∧ q = .int .i64 k ∧ Aside0 (∀ j, j < k → civil_Parse.okc s j = true) ∧ Aside0 (timesyncref05_Parse.At w W)) (fun q _ => 30 - (intOf q).toNat)
  case atStart => exact ⟨0, by omega, rfl, ⟨fun j hj => absurd hj (Nat.not_lt_zero _)⟩, ⟨timesyncref05_Parse.At.start w⟩⟩
  case round =>
   obtain ⟨k, hk, rfl, HK, HA⟩ := hrel
   by_cases hk2 : k < 30
   ·have hk3 : (k : Int) < 30 := by omega
    have hk4 : k < s.size := by have := HS.out; omega
    have hk5 : (k : Int) < (s.size : Int) := by omega
    obtain ⟨F, hF⟩ : ∃ F : Int, (((⟨#[48, 48, 48, 48, 45, 48, 48, 45, 48, 48, 84, 48, 48, 58, 48, 48, 58, 48, 48, 46, 48, 48, 48, 48, 48, 48, 48, 48, 48, 90]⟩ : ByteArray)[k]'hk2).toNat : Int) = F := ⟨_, rfl⟩
    obtain ⟨C, hC⟩ : ∃ C : Int, ((s[k]'hk4).toNat : Int) = C := ⟨_, rfl⟩
    have HO := Aside0.mk (show civil_Parse.okc s k = (if F = 48 then decide (48 ≤ C ∧ C ≤ 57) else decide (C = F)) from by
     unfold civil_Parse.okc
     rw [← civil_Parse.bt_nat s k hk4, ← civil_Parse.bt_nat civil_Parse.form k hk2, hC, ← hF]
     rfl)
    have HR : civil_Parse.okc s k = false → Aside0 (timesyncref05_Parse.f s = some (0, 0, 0, 0, 0, 0, 0, 19)) := fun h => ⟨by
     have hb : civil_Parse.ok s = false := by
      unfold civil_Parse.ok
      rw [List.all_eq_false]
      exact ⟨k, List.mem_range.2 hk2, by rw [h]; decide⟩
     unfold timesyncref05_Parse.f
     rw [if_neg (by rw [HS.out]; decide), if_pos hb]⟩
    have k10 := blk_cell HA.out.k1 0
    have f10 := blk_frozen HA.out.k1 0
    have k11 := blk_cell HA.out.k1 1
    have f11 := blk_frozen HA.out.k1 1
    have k12 := blk_cell HA.out.k1 2
    have f12 := blk_frozen HA.out.k1 2
    have k13 := blk_cell HA.out.k1 3
    have f13 := blk_frozen HA.out.k1 3
    have k14 := blk_cell HA.out.k1 4
    have f14 := blk_frozen HA.out.k1 4
    have k15 := blk_cell HA.out.k1 5
    have f15 := blk_frozen HA.out.k1 5
    have k16 := blk_cell HA.out.k1 6
    have f16 := blk_frozen HA.out.k1 6
    cases hd : (F == 48)
    ·have hd2 : F ≠ 48 := by simpa using hd
     have hd3 : (F != 48) = true := by simp [bne, hd]
     cases he : (C != F)
     ·have he2 : C = F := by simpa using he
      have HG := Aside0.mk (show civil_Parse.okc s k = true from by rw [HO.out, if_neg hd2, decide_eq_true he2])
      clear he2 hd2 HO HR
      go_wp2_with fail
      go_quiet (fail)
      go_wp2
      go_roundw
      case rel => exact ⟨k + 1, by omega, by go_num, ⟨fun j hj => by
       by_cases e : j = k
       ·subst e; exact HG.out
       ·exact HK.out j (by omega)⟩, ⟨HA.out.drewN _⟩⟩
      case measure => simp [intOf]; omega
     ·have he2 : C ≠ F := by simpa using he
      have HG := Aside0.mk (show civil_Parse.okc s k = false from by rw [HO.out, if_neg hd2, decide_eq_false he2])
      clear he2 hd2 HO
      have HZ := HR HG.out
      clear HR
      go_wp2_with fail
      go_quiet (fail)
      go_wp2
      refine bodyPost_ret (v := .tuple #[.agg #[.int .i64 0, .int .i64 0, .int .i64 0, .int .i64 0, .int .i64 0, .int .i64 0, .int .i64 0], .int .i64 19]) (by simp [results, Try.results15, go_sem, k10, k11, k12, k13, k14, k15, k16]) rfl ?_
      exact timesyncref05_Parse.post 0 0 0 0 0 0 0 19 HZ.out rfl (timesyncref05_Parse.below7 (pw_below_drewN HA.out.hb _) _ _ _ _ _ _ _)
    ·have hd2 : F = 48 := by simpa using hd
     have hd3 : (F != 48) = false := by simp [bne, hd]
     cases hl : decide (C < 48)
     ·have hl2 : ¬ C < 48 := of_decide_eq_false hl
      cases hh : decide (57 < C)
      ·have hh2 : ¬ 57 < C := of_decide_eq_false hh
       have HG := Aside0.mk (show civil_Parse.okc s k = true from by rw [HO.out, if_pos hd2, decide_eq_true (by omega)])
       clear hl2 hh2 hd2 HO HR
       go_wp2_with fail
       go_quiet (fail)
       go_wp2
       go_roundw
       case rel => exact ⟨k + 1, by omega, by go_num, ⟨fun j hj => by
        by_cases e : j = k
        ·subst e; exact HG.out
        ·exact HK.out j (by omega)⟩, ⟨HA.out.drewN _⟩⟩
       case measure => simp [intOf]; omega
      ·have hh2 : 57 < C := of_decide_eq_true hh
       have HG := Aside0.mk (show civil_Parse.okc s k = false from by rw [HO.out, if_pos hd2, decide_eq_false (by omega)])
       clear hl2 hh2 hd2 HO
       have HZ := HR HG.out
       clear HR
       go_wp2_with fail
       go_quiet (fail)
       go_wp2
       refine bodyPost_ret (v := .tuple #[.agg #[.int .i64 0, .int .i64 0, .int .i64 0, .int .i64 0, .int .i64 0, .int .i64 0, .int .i64 0], .int .i64 19]) (by simp [results, Try.results15, go_sem, k10, k11, k12, k13, k14, k15, k16]) rfl ?_
       exact timesyncref05_Parse.post 0 0 0 0 0 0 0 19 HZ.out rfl (timesyncref05_Parse.below7 (pw_below_drewN HA.out.hb _) _ _ _ _ _ _ _)
     ·have hl2 : C < 48 := of_decide_eq_true hl
      have HG := Aside0.mk (show civil_Parse.okc s k = false from by rw [HO.out, if_pos hd2, decide_eq_false (by omega)])
      clear hl2 hd2 HO
      have HZ := HR HG.out
      clear HR
      go_wp2_with fail
      go_quiet (fail)
      go_wp2
      refine bodyPost_ret (v := .tuple #[.agg #[.int .i64 0, .int .i64 0, .int .i64 0, .int .i64 0, .int .i64 0, .int .i64 0, .int .i64 0], .int .i64 19]) (by simp [results, Try.results15, go_sem, k10, k11, k12, k13, k14, k15, k16]) rfl ?_
      exact timesyncref05_Parse.post 0 0 0 0 0 0 0 19 HZ.out rfl (timesyncref05_Parse.below7 (pw_below_drewN HA.out.hb _) _ _ _ _ _ _ _)
   ·obtain rfl : k = 30 := by omega
    clear hk hk2
    have HO := Aside0.mk (show civil_Parse.ok s = true from by unfold civil_Parse.ok; rw [List.all_eq_true]; exact fun j hj => HK.out j (List.mem_range.1 hj))
    have HD := Aside0.mk (civil_Parse.digits s)
    have hsz : s.size = 30 := HS.out
    have hn3 : ¬ (30 : Int) < (s.size : Int) := by omega
    have hn4 : (30 : Nat) ≤ s.size := by omega
    have et141 := timesyncref05_Parse.numf (s.extract 0 4) s 0 4 (timesyncref05_Parse.cut s 0 4 (by omega)).1 (by omega) (timesyncref05_Parse.cut s 0 4 (by omega)).2 (HD.out 0 4 HK.out (by decide +kernel) (by omega))
    have et142 := timesyncref05_Parse.numf (s.extract 5 7) s 5 2 (timesyncref05_Parse.cut s 5 2 (by omega)).1 (by omega) (timesyncref05_Parse.cut s 5 2 (by omega)).2 (HD.out 5 2 HK.out (by decide +kernel) (by omega))
    have et143 := timesyncref05_Parse.numf (s.extract 8 10) s 8 2 (timesyncref05_Parse.cut s 8 2 (by omega)).1 (by omega) (timesyncref05_Parse.cut s 8 2 (by omega)).2 (HD.out 8 2 HK.out (by decide +kernel) (by omega))
    have et144 := timesyncref05_Parse.numf (s.extract 11 13) s 11 2 (timesyncref05_Parse.cut s 11 2 (by omega)).1 (by omega) (timesyncref05_Parse.cut s 11 2 (by omega)).2 (HD.out 11 2 HK.out (by decide +kernel) (by omega))
    have et145 := timesyncref05_Parse.numf (s.extract 14 16) s 14 2 (timesyncref05_Parse.cut s 14 2 (by omega)).1 (by omega) (timesyncref05_Parse.cut s 14 2 (by omega)).2 (HD.out 14 2 HK.out (by decide +kernel) (by omega))
    have et146 := timesyncref05_Parse.numf (s.extract 17 19) s 17 2 (timesyncref05_Parse.cut s 17 2 (by omega)).1 (by omega) (timesyncref05_Parse.cut s 17 2 (by omega)).2 (HD.out 17 2 HK.out (by decide +kernel) (by omega))
    have et147 := timesyncref05_Parse.numf (s.extract 20 29) s 20 9 (timesyncref05_Parse.cut s 20 9 (by omega)).1 (by omega) (timesyncref05_Parse.cut s 20 9 (by omega)).2 (HD.out 20 9 HK.out (by decide +kernel) (by omega))
    have HF : ∀ e, timesyncref05_Check.f 9 (civil_Parse.fld s 0 4) (civil_Parse.fld s 5 2) (civil_Parse.fld s 8 2) (civil_Parse.fld s 11 2) (civil_Parse.fld s 14 2) (civil_Parse.fld s 17 2) (civil_Parse.fld s 20 9) = some e → timesyncref05_Parse.f s = (if e = 0 then some (civil_Parse.fld s 0 4, civil_Parse.fld s 5 2, civil_Parse.fld s 8 2, civil_Parse.fld s 11 2, civil_Parse.fld s 14 2, civil_Parse.fld s 17 2, civil_Parse.fld s 20 9, 0) else some (0, 0, 0, 0, 0, 0, 0, 3)) := by
     intro e he
     unfold timesyncref05_Parse.f
     rw [if_neg (by rw [HS.out]; decide), if_neg (by rw [HO.out]; decide), he, Option.bind_some]
    have HP := Aside0.mk (show timesyncref05_Check.f 9 (civil_Parse.fld s 0 4) (civil_Parse.fld s 5 2) (civil_Parse.fld s 8 2) (civil_Parse.fld s 11 2) (civil_Parse.fld s 14 2) (civil_Parse.fld s 17 2) (civil_Parse.fld s 20 9) = none → timesyncref05_Parse.f s = none from by
     intro he
     unfold timesyncref05_Parse.f
     rw [if_neg (by rw [HS.out]; decide), if_neg (by rw [HO.out]; decide), he]
     rfl)
    generalize civil_Parse.fld s 0 4 = t141 at *
    generalize civil_Parse.fld s 5 2 = t142 at *
    generalize civil_Parse.fld s 8 2 = t143 at *
    generalize civil_Parse.fld s 11 2 = t144 at *
    generalize civil_Parse.fld s 14 2 = t145 at *
    generalize civil_Parse.fld s 17 2 = t146 at *
    generalize civil_Parse.fld s 20 9 = t147 at *
    have A28 := Aside0.mk et141
    have A31 := Aside0.mk et142
    have A34 := Aside0.mk et143
    have A37 := Aside0.mk et144
    have A40 := Aside0.mk et145
    have A43 := Aside0.mk et146
    have A46 := Aside0.mk et147
    clear et141 et142 et143 et144 et145 et146 et147 HD HK HO
    have HFF := Aside0.mk HF
    clear HF
    have BK140 := Aside0.mk (blk_drew HA.out.k1)
    have HB := Aside0.mk (below_drew1 HA.out.hb)
    have GE140 : Aside0 (w.heap.size ≤ w.heap.size) := ⟨Nat.le_refl _⟩
    clear HA
    go_wp2_with fail
    refine start_ (n := 24) (S := fun w' => True) (ds := []) #[false, false, false, false, false, false, false, false, false, false, false, false, false, false, false, false, false, false, false, false, false, false, false, false] (by kernel_rfl) rfl rfl trivial (fun hHeld => ?_); refine with_tabW timesyncref05_Parse.tab8 timesyncref05_Parse.bits8 (fun HT_ HW_ => ?_)
    generalize wr.drew = w64 at BK140 HB hHeld ⊢
    refine pure_ (i := 0) (N := some 45) (v := ?_) (a' := ?_) #[true, false, false, false, false, false, false, false, false, false, false, false, false, false, false, false, false, false, false, false, false, false, false, false] rfl rfl (any_of HT_.out (by kernel_rfl)) (fun _ _ _ h => h) (Or.inl ⟨by rfl, ?_⟩) ?_ ?_
    rotate_left
    ·intro w'
     go_simp
     with_reducible rfl
    rotate_left
    ·simp only [Act.put, List.setIfInBounds_toArray, List.set_cons_zero, List.set_cons_succ, i64_w, i32_w]
     rfl
    refine pure_ (i := 1) (N := some 46) (v := ?_) (a' := ?_) #[true, true, false, false, false, false, false, false, false, false, false, false, false, false, false, false, false, false, false, false, false, false, false, false] rfl rfl (any_of HT_.out (by kernel_rfl)) (fun _ _ _ h => h) (Or.inl ⟨by rfl, ?_⟩) ?_ ?_
    rotate_left
    ·intro w'
     go_simp
     with_reducible rfl
    rotate_left
    ·simp only [Act.put, List.setIfInBounds_toArray, List.set_cons_zero, List.set_cons_succ, i64_w, i32_w]
     rfl
    refine pure_ (i := 3) (N := some 48) (v := ?_) (a' := ?_) #[true, true, false, true, false, false, false, false, false, false, false, false, false, false, false, false, false, false, false, false, false, false, false, false] rfl rfl (any_of HT_.out (by kernel_rfl)) (fun _ _ _ h => h) (Or.inl ⟨by rfl, ?_⟩) ?_ ?_
    rotate_left
    ·intro w'
     go_simp
     with_reducible rfl
    rotate_left
    ·simp only [Act.put, List.setIfInBounds_toArray, List.set_cons_zero, List.set_cons_succ, i64_w, i32_w]
     rfl
    refine pure_ (i := 4) (N := some 49) (v := ?_) (a' := ?_) #[true, true, false, true, true, false, false, false, false, false, false, false, false, false, false, false, false, false, false, false, false, false, false, false] rfl rfl (any_of HT_.out (by kernel_rfl)) (fun _ _ _ h => h) (Or.inl ⟨by rfl, ?_⟩) ?_ ?_
    rotate_left
    ·intro w'
     go_simp
     with_reducible rfl
    rotate_left
    ·simp only [Act.put, List.setIfInBounds_toArray, List.set_cons_zero, List.set_cons_succ, i64_w, i32_w]
     rfl
    refine pure_ (i := 6) (N := some 51) (v := ?_) (a' := ?_) #[true, true, false, true, true, false, true, false, false, false, false, false, false, false, false, false, false, false, false, false, false, false, false, false] rfl rfl (any_of HT_.out (by kernel_rfl)) (fun _ _ _ h => h) (Or.inl ⟨by rfl, ?_⟩) ?_ ?_
    rotate_left
    ·intro w'
     go_simp
     with_reducible rfl
    rotate_left
    ·simp only [Act.put, List.setIfInBounds_toArray, List.set_cons_zero, List.set_cons_succ, i64_w, i32_w]
     rfl
    refine pure_ (i := 7) (N := some 52) (v := ?_) (a' := ?_) #[true, true, false, true, true, false, true, true, false, false, false, false, false, false, false, false, false, false, false, false, false, false, false, false] rfl rfl (any_of HT_.out (by kernel_rfl)) (fun _ _ _ h => h) (Or.inl ⟨by rfl, ?_⟩) ?_ ?_
    rotate_left
    ·intro w'
     go_simp
     with_reducible rfl
    rotate_left
    ·simp only [Act.put, List.setIfInBounds_toArray, List.set_cons_zero, List.set_cons_succ, i64_w, i32_w]
     rfl
    refine pure_ (i := 9) (N := some 54) (v := ?_) (a' := ?_) #[true, true, false, true, true, false, true, true, false, true, false, false, false, false, false, false, false, false, false, false, false, false, false, false] rfl rfl (any_of HT_.out (by kernel_rfl)) (fun _ _ _ h => h) (Or.inl ⟨by rfl, ?_⟩) ?_ ?_
    rotate_left
    ·intro w'
     go_simp
     with_reducible rfl
    rotate_left
    ·simp only [Act.put, List.setIfInBounds_toArray, List.set_cons_zero, List.set_cons_succ, i64_w, i32_w]
     rfl
    refine pure_ (i := 10) (N := some 55) (v := ?_) (a' := ?_) #[true, true, false, true, true, false, true, true, false, true, true, false, false, false, false, false, false, false, false, false, false, false, false, false] rfl rfl (any_of HT_.out (by kernel_rfl)) (fun _ _ _ h => h) (Or.inl ⟨by rfl, ?_⟩) ?_ ?_
    rotate_left
    ·intro w'
     go_simp
     with_reducible rfl
    rotate_left
    ·simp only [Act.put, List.setIfInBounds_toArray, List.set_cons_zero, List.set_cons_succ, i64_w, i32_w]
     rfl
    refine pure_ (i := 12) (N := some 57) (v := ?_) (a' := ?_) #[true, true, false, true, true, false, true, true, false, true, true, false, true, false, false, false, false, false, false, false, false, false, false, false] rfl rfl (any_of HT_.out (by kernel_rfl)) (fun _ _ _ h => h) (Or.inl ⟨by rfl, ?_⟩) ?_ ?_
    rotate_left
    ·intro w'
     go_simp
     with_reducible rfl
    rotate_left
    ·simp only [Act.put, List.setIfInBounds_toArray, List.set_cons_zero, List.set_cons_succ, i64_w, i32_w]
     rfl
    refine pure_ (i := 13) (N := some 58) (v := ?_) (a' := ?_) #[true, true, false, true, true, false, true, true, false, true, true, false, true, true, false, false, false, false, false, false, false, false, false, false] rfl rfl (any_of HT_.out (by kernel_rfl)) (fun _ _ _ h => h) (Or.inl ⟨by rfl, ?_⟩) ?_ ?_
    rotate_left
    ·intro w'
     go_simp
     with_reducible rfl
    rotate_left
    ·simp only [Act.put, List.setIfInBounds_toArray, List.set_cons_zero, List.set_cons_succ, i64_w, i32_w]
     rfl
    refine pure_ (i := 15) (N := some 60) (v := ?_) (a' := ?_) #[true, true, false, true, true, false, true, true, false, true, true, false, true, true, false, true, false, false, false, false, false, false, false, false] rfl rfl (any_of HT_.out (by kernel_rfl)) (fun _ _ _ h => h) (Or.inl ⟨by rfl, ?_⟩) ?_ ?_
    rotate_left
    ·intro w'
     go_simp
     with_reducible rfl
    rotate_left
    ·simp only [Act.put, List.setIfInBounds_toArray, List.set_cons_zero, List.set_cons_succ, i64_w, i32_w]
     rfl
    refine pure_ (i := 16) (N := some 61) (v := ?_) (a' := ?_) #[true, true, false, true, true, false, true, true, false, true, true, false, true, true, false, true, true, false, false, false, false, false, false, false] rfl rfl (any_of HT_.out (by kernel_rfl)) (fun _ _ _ h => h) (Or.inl ⟨by rfl, ?_⟩) ?_ ?_
    rotate_left
    ·intro w'
     go_simp
     with_reducible rfl
    rotate_left
    ·simp only [Act.put, List.setIfInBounds_toArray, List.set_cons_zero, List.set_cons_succ, i64_w, i32_w]
     rfl
    refine pure_ (i := 18) (N := some 63) (v := ?_) (a' := ?_) #[true, true, false, true, true, false, true, true, false, true, true, false, true, true, false, true, true, false, true, false, false, false, false, false] rfl rfl (any_of HT_.out (by kernel_rfl)) (fun _ _ _ h => h) (Or.inl ⟨by rfl, ?_⟩) ?_ ?_
    rotate_left
    ·intro w'
     go_simp
     with_reducible rfl
    rotate_left
    ·simp only [Act.put, List.setIfInBounds_toArray, List.set_cons_zero, List.set_cons_succ, i64_w, i32_w]
     rfl
    refine pure_ (i := 19) (N := some 64) (v := ?_) (a' := ?_) #[true, true, false, true, true, false, true, true, false, true, true, false, true, true, false, true, true, false, true, true, false, false, false, false] rfl rfl (any_of HT_.out (by kernel_rfl)) (fun _ _ _ h => h) (Or.inl ⟨by rfl, ?_⟩) ?_ ?_
    rotate_left
    ·intro w'
     go_simp
     with_reducible rfl
    rotate_left
    ·simp only [Act.put, List.setIfInBounds_toArray, List.set_cons_zero, List.set_cons_succ, i64_w, i32_w]
     rfl
    refine join_ (σ := Nat) 1 #[true, true, true, true, true, true, true, true, true, true, true, true, true, true, true, true, true, true, true, true, true, true, true, false] (fun s_ => [(47, .int .i64 t141), (50, .int .i64 t142), (53, .int .i64 t143), (56, .int .i64 t144), (59, .int .i64 t145), (62, .int .i64 t146), (65, .int .i64 t147), (5, .pointer (some ⟨s_, 0, none⟩)), (66, .agg #[.int .i64 t141, .int .i64 t142, .int .i64 t143, .int .i64 t144, .int .i64 t145, .int .i64 t146, .int .i64 t147])]) (fun s_ w' => (w'.heap[w.heap.size]? = some (.cells #[.int .i64 0, .int .i64 0, .int .i64 0, .int .i64 0, .int .i64 0, .int .i64 0, .int .i64 0] 23 (0, 0))) ∧ (w'.heap[s_]? = some (.cells #[.int .i64 0, .int .i64 0, .int .i64 0, .int .i64 0, .int .i64 0, .int .i64 0, .int .i64 0] 23 (0, 0))) ∧ (w.heap.size ≤ s_) ∧ (w.heap.size ≤ s_) ∧ (w.heap.size ≠ s_) ∧ (s_ ≠ w.heap.size) ∧ (Below w.heap.size w w')) ?_ ?_
    rotate_left
    ·intro hJ2_5_8_11_14_17_20_22
     refine join_ (σ := Unit) 2 #[true, true, true, true, true, true, true, true, true, true, true, true, true, true, true, true, true, true, true, true, true, true, false, false] (fun s_ => [(47, .int .i64 t141), (50, .int .i64 t142), (53, .int .i64 t143), (56, .int .i64 t144), (59, .int .i64 t145), (62, .int .i64 t146), (65, .int .i64 t147), (66, .agg #[.int .i64 t141, .int .i64 t142, .int .i64 t143, .int .i64 t144, .int .i64 t145, .int .i64 t146, .int .i64 t147])]) (fun s_ w' => (w'.heap[w.heap.size]? = some (.cells #[.int .i64 0, .int .i64 0, .int .i64 0, .int .i64 0, .int .i64 0, .int .i64 0, .int .i64 0] 23 (0, 0))) ∧ (Below w.heap.size w w')) ?_ ?_
     rotate_left
     ·intro hJ2_5_8_11_14_17_20
      refine join_ (σ := Nat) 3 #[true, true, true, true, true, true, true, true, true, true, true, true, true, true, true, true, true, true, true, true, false, false, true, false] (fun s_ => [(47, .int .i64 t141), (50, .int .i64 t142), (53, .int .i64 t143), (56, .int .i64 t144), (59, .int .i64 t145), (62, .int .i64 t146), (5, .pointer (some ⟨s_, 0, none⟩))]) (fun s_ w' => (w'.heap[w.heap.size]? = some (.cells #[.int .i64 0, .int .i64 0, .int .i64 0, .int .i64 0, .int .i64 0, .int .i64 0, .int .i64 0] 23 (0, 0))) ∧ (w'.heap[s_]? = some (.cells #[.int .i64 0, .int .i64 0, .int .i64 0, .int .i64 0, .int .i64 0, .int .i64 0, .int .i64 0] 23 (0, 0))) ∧ (w.heap.size ≤ s_) ∧ (w.heap.size ≤ s_) ∧ (w.heap.size ≠ s_) ∧ (s_ ≠ w.heap.size) ∧ (Below w.heap.size w w')) ?_ ?_
      rotate_left
      ·intro hJ2_5_8_11_14_17_22
       refine join_ (σ := Unit) 4 #[true, true, true, true, true, true, true, true, true, true, true, true, true, true, true, true, true, true, true, true, false, false, false, false] (fun s_ => [(47, .int .i64 t141), (50, .int .i64 t142), (53, .int .i64 t143), (56, .int .i64 t144), (59, .int .i64 t145), (62, .int .i64 t146)]) (fun s_ w' => (w'.heap[w.heap.size]? = some (.cells #[.int .i64 0, .int .i64 0, .int .i64 0, .int .i64 0, .int .i64 0, .int .i64 0, .int .i64 0] 23 (0, 0))) ∧ (Below w.heap.size w w')) ?_ ?_
       rotate_left
       ·intro hJ2_5_8_11_14_17
        refine join_ (σ := Nat) 4 #[true, true, true, true, true, true, true, true, true, true, true, true, true, true, true, true, true, false, true, true, false, false, true, false] (fun s_ => [(47, .int .i64 t141), (50, .int .i64 t142), (53, .int .i64 t143), (56, .int .i64 t144), (59, .int .i64 t145), (5, .pointer (some ⟨s_, 0, none⟩))]) (fun s_ w' => (w'.heap[w.heap.size]? = some (.cells #[.int .i64 0, .int .i64 0, .int .i64 0, .int .i64 0, .int .i64 0, .int .i64 0, .int .i64 0] 23 (0, 0))) ∧ (w'.heap[s_]? = some (.cells #[.int .i64 0, .int .i64 0, .int .i64 0, .int .i64 0, .int .i64 0, .int .i64 0, .int .i64 0] 23 (0, 0))) ∧ (w.heap.size ≤ s_) ∧ (w.heap.size ≤ s_) ∧ (w.heap.size ≠ s_) ∧ (s_ ≠ w.heap.size) ∧ (Below w.heap.size w w')) ?_ ?_
        rotate_left
        ·intro hJ2_5_8_11_14_22
         refine join_ (σ := Unit) 5 #[true, true, true, true, true, true, true, true, true, true, true, true, true, true, true, true, true, false, true, true, false, false, false, false] (fun s_ => [(47, .int .i64 t141), (50, .int .i64 t142), (53, .int .i64 t143), (56, .int .i64 t144), (59, .int .i64 t145)]) (fun s_ w' => (w'.heap[w.heap.size]? = some (.cells #[.int .i64 0, .int .i64 0, .int .i64 0, .int .i64 0, .int .i64 0, .int .i64 0, .int .i64 0] 23 (0, 0))) ∧ (Below w.heap.size w w')) ?_ ?_
         rotate_left
         ·intro hJ2_5_8_11_14
          refine join_ (σ := Nat) 5 #[true, true, true, true, true, true, true, true, true, true, true, true, true, true, false, true, true, false, true, true, false, false, true, false] (fun s_ => [(47, .int .i64 t141), (50, .int .i64 t142), (53, .int .i64 t143), (56, .int .i64 t144), (5, .pointer (some ⟨s_, 0, none⟩))]) (fun s_ w' => (w'.heap[w.heap.size]? = some (.cells #[.int .i64 0, .int .i64 0, .int .i64 0, .int .i64 0, .int .i64 0, .int .i64 0, .int .i64 0] 23 (0, 0))) ∧ (w'.heap[s_]? = some (.cells #[.int .i64 0, .int .i64 0, .int .i64 0, .int .i64 0, .int .i64 0, .int .i64 0, .int .i64 0] 23 (0, 0))) ∧ (w.heap.size ≤ s_) ∧ (w.heap.size ≤ s_) ∧ (w.heap.size ≠ s_) ∧ (s_ ≠ w.heap.size) ∧ (Below w.heap.size w w')) ?_ ?_
          rotate_left
          ·intro hJ2_5_8_11_22
           refine join_ (σ := Unit) 6 #[true, true, true, true, true, true, true, true, true, true, true, true, true, true, false, true, true, false, true, true, false, false, false, false] (fun s_ => [(47, .int .i64 t141), (50, .int .i64 t142), (53, .int .i64 t143), (56, .int .i64 t144)]) (fun s_ w' => (w'.heap[w.heap.size]? = some (.cells #[.int .i64 0, .int .i64 0, .int .i64 0, .int .i64 0, .int .i64 0, .int .i64 0, .int .i64 0] 23 (0, 0))) ∧ (Below w.heap.size w w')) ?_ ?_
           rotate_left
           ·intro hJ2_5_8_11
            refine join_ (σ := Nat) 6 #[true, true, true, true, true, true, true, true, true, true, true, false, true, true, false, true, true, false, true, true, false, false, true, false] (fun s_ => [(47, .int .i64 t141), (50, .int .i64 t142), (53, .int .i64 t143), (5, .pointer (some ⟨s_, 0, none⟩))]) (fun s_ w' => (w'.heap[w.heap.size]? = some (.cells #[.int .i64 0, .int .i64 0, .int .i64 0, .int .i64 0, .int .i64 0, .int .i64 0, .int .i64 0] 23 (0, 0))) ∧ (w'.heap[s_]? = some (.cells #[.int .i64 0, .int .i64 0, .int .i64 0, .int .i64 0, .int .i64 0, .int .i64 0, .int .i64 0] 23 (0, 0))) ∧ (w.heap.size ≤ s_) ∧ (w.heap.size ≤ s_) ∧ (w.heap.size ≠ s_) ∧ (s_ ≠ w.heap.size) ∧ (Below w.heap.size w w')) ?_ ?_
            rotate_left
            ·intro hJ2_5_8_22
             refine join_ (σ := Unit) 7 #[true, true, true, true, true, true, true, true, true, true, true, false, true, true, false, true, true, false, true, true, false, false, false, false] (fun s_ => [(47, .int .i64 t141), (50, .int .i64 t142), (53, .int .i64 t143)]) (fun s_ w' => (w'.heap[w.heap.size]? = some (.cells #[.int .i64 0, .int .i64 0, .int .i64 0, .int .i64 0, .int .i64 0, .int .i64 0, .int .i64 0] 23 (0, 0))) ∧ (Below w.heap.size w w')) ?_ ?_
             rotate_left
             ·intro hJ2_5_8
              refine join_ (σ := Nat) 7 #[true, true, true, true, true, true, true, true, false, true, true, false, true, true, false, true, true, false, true, true, false, false, true, false] (fun s_ => [(47, .int .i64 t141), (50, .int .i64 t142), (5, .pointer (some ⟨s_, 0, none⟩))]) (fun s_ w' => (w'.heap[w.heap.size]? = some (.cells #[.int .i64 0, .int .i64 0, .int .i64 0, .int .i64 0, .int .i64 0, .int .i64 0, .int .i64 0] 23 (0, 0))) ∧ (w'.heap[s_]? = some (.cells #[.int .i64 0, .int .i64 0, .int .i64 0, .int .i64 0, .int .i64 0, .int .i64 0, .int .i64 0] 23 (0, 0))) ∧ (w.heap.size ≤ s_) ∧ (w.heap.size ≤ s_) ∧ (w.heap.size ≠ s_) ∧ (s_ ≠ w.heap.size) ∧ (Below w.heap.size w w')) ?_ ?_
              rotate_left
              ·intro hJ2_5_22
               refine join_ (σ := Unit) 8 #[true, true, true, true, true, true, true, true, false, true, true, false, true, true, false, true, true, false, true, true, false, false, false, false] (fun s_ => [(47, .int .i64 t141), (50, .int .i64 t142)]) (fun s_ w' => (w'.heap[w.heap.size]? = some (.cells #[.int .i64 0, .int .i64 0, .int .i64 0, .int .i64 0, .int .i64 0, .int .i64 0, .int .i64 0] 23 (0, 0))) ∧ (Below w.heap.size w w')) ?_ ?_
               rotate_left
               ·intro hJ2_5
                refine join_ (σ := Nat) 8 #[true, true, true, true, true, false, true, true, false, true, true, false, true, true, false, true, true, false, true, true, false, false, true, false] (fun s_ => [(47, .int .i64 t141), (5, .pointer (some ⟨s_, 0, none⟩))]) (fun s_ w' => (w'.heap[w.heap.size]? = some (.cells #[.int .i64 0, .int .i64 0, .int .i64 0, .int .i64 0, .int .i64 0, .int .i64 0, .int .i64 0] 23 (0, 0))) ∧ (w'.heap[s_]? = some (.cells #[.int .i64 0, .int .i64 0, .int .i64 0, .int .i64 0, .int .i64 0, .int .i64 0, .int .i64 0] 23 (0, 0))) ∧ (w.heap.size ≤ s_) ∧ (w.heap.size ≤ s_) ∧ (w.heap.size ≠ s_) ∧ (s_ ≠ w.heap.size) ∧ (Below w.heap.size w w')) ?_ ?_
                rotate_left
                ·intro hJ2_22
                 refine join_ (σ := Unit) 9 #[true, true, true, true, true, false, true, true, false, true, true, false, true, true, false, true, true, false, true, true, false, false, false, false] (fun s_ => [(47, .int .i64 t141)]) (fun s_ w' => (w'.heap[w.heap.size]? = some (.cells #[.int .i64 0, .int .i64 0, .int .i64 0, .int .i64 0, .int .i64 0, .int .i64 0, .int .i64 0] 23 (0, 0))) ∧ (Below w.heap.size w w')) ?_ ?_
                 rotate_left
                 ·intro hJ2
                  refine join_ (σ := Nat) 9 #[true, true, false, true, true, false, true, true, false, true, true, false, true, true, false, true, true, false, true, true, false, false, true, false] (fun s_ => [(5, .pointer (some ⟨s_, 0, none⟩))]) (fun s_ w' => (w'.heap[w.heap.size]? = some (.cells #[.int .i64 0, .int .i64 0, .int .i64 0, .int .i64 0, .int .i64 0, .int .i64 0, .int .i64 0] 23 (0, 0))) ∧ (w'.heap[s_]? = some (.cells #[.int .i64 0, .int .i64 0, .int .i64 0, .int .i64 0, .int .i64 0, .int .i64 0, .int .i64 0] 23 (0, 0))) ∧ (w.heap.size ≤ s_) ∧ (w.heap.size ≤ s_) ∧ (w.heap.size ≠ s_) ∧ (s_ ≠ w.heap.size) ∧ (Below w.heap.size w w')) ?_ ?_
                  rotate_left
                  ·intro hJ22
                   refine two_ (i := 2) (j := 22) (Ni := some 47) (Nj := some 5) #[true, true, true, true, true, false, true, true, false, true, true, false, true, true, false, true, true, false, true, true, false, false, false, false] #[true, true, false, true, true, false, true, true, false, true, true, false, true, true, false, true, true, false, true, true, false, false, true, false] rfl rfl rfl rfl (two_of HT_.out (by kernel_rfl)) (by decide) (by decide) (fun K hK => ?_) (fun K hK => ?_)
                   ·skip
                    refine goes_ Try.func33 (by kernel_rfl) rfl #[.string (s.extract 0 4)] (by rfl) rfl rfl (by (try simp only [List.map_toArray, List.map_cons, List.map_nil]); first | done | rfl | (simp only [List.length_drop, List.length_take]; rfl)) ?_
                    with_reducible refine (timesyncref05_number.calls 11 (s.extract 0 4) t141 _ A28.out).mono ?_
                    rintro e w' ⟨rfl, ⟨nd, rfl⟩⟩
                    refine ⟨_, rfl, ?_⟩
                    refine hK.out _ _ trivial (fun hHeld => ?_)
                    clear hK K
                    refine norm_ (a' := ?_) ?_ ?_
                    rotate_left
                    ·show Act.put _ (some 47) _ = _
                     simp only [Act.put, List.setIfInBounds_toArray, List.set_cons_zero, List.set_cons_succ, i64_w, i32_w]
                     rfl
                    exact norm_ (by first | (simp only [putAll, Act.put, List.setIfInBounds_toArray, List.set_cons_zero, List.set_cons_succ]; done) | (simp only [putAll, Act.put, List.setIfInBounds_toArray, List.set_cons_zero, List.set_cons_succ]; rfl)) (hJ2 () _ ⟨(by (with_reducible repeat (first | refine blk_drewN ?_ _ | refine blk_drew ?_ | refine blk_alloc ?_ _)); exact BK140.out), (by repeat (first | (with_reducible first | exact HB.out | apply below_alloc | apply pw_below_drewN | apply below_drew1 | refine below_set ?_ GE140.out) | exact HB.out))⟩)
                   ·skip
                    refine box_step ?hg (N := 5) ?hd (cs := #[.int .i64 0, .int .i64 0, .int .i64 0, .int .i64 0, .int .i64 0, .int .i64 0, .int .i64 0]) (t := 23) ?hr ?_; (case hd => rfl); (case hg => rfl); (case hr => first | (go_simp; done) | (go_simp; rfl))
                    intro gb148 hg w65 hbox hb
                    have n0_ := Aside0.mk (blk_below (g := w.heap.size) (o := .cells #[.int .i64 0, .int .i64 0, .int .i64 0, .int .i64 0, .int .i64 0, .int .i64 0, .int .i64 0] 23 (0, 0)) (by (with_reducible repeat (first | refine blk_drewN ?_ _ | refine blk_drew ?_ | refine blk_alloc ?_ _)); exact BK140.out) hb)
                    have n1_ := Aside0.mk (below_step (by repeat (first | (with_reducible first | exact HB.out | apply below_alloc | apply pw_below_drewN | apply below_drew1 | refine below_set ?_ GE140.out) | exact HB.out)) hb)
                    have n2_ := Aside0.mk (hbox)
                    have n3_ := Aside0.mk ((by rw [hg]; exact (below_size (by repeat (first | (with_reducible first | exact HB.out | apply below_alloc | apply pw_below_drewN | apply below_drew1 | refine below_set ?_ GE140.out) | exact HB.out))) : w.heap.size ≤ gb148))
                    have n4_ := Aside0.mk ((by rw [hg]; exact (below_size (by repeat (first | (with_reducible first | exact HB.out | apply below_alloc | apply pw_below_drewN | apply below_drew1 | refine below_set ?_ GE140.out) | exact HB.out))) : w.heap.size ≤ gb148))
                    have n5_ := Aside0.mk ((by rw [hg]; exact Nat.ne_of_lt (blk_lt (g := w.heap.size) (o := .cells #[.int .i64 0, .int .i64 0, .int .i64 0, .int .i64 0, .int .i64 0, .int .i64 0, .int .i64 0] 23 (0, 0)) (by (with_reducible repeat (first | refine blk_drewN ?_ _ | refine blk_drew ?_ | refine blk_alloc ?_ _)); exact BK140.out)) : w.heap.size ≠ gb148))
                    have n6_ := Aside0.mk ((by rw [hg]; exact Nat.ne_of_gt (blk_lt (g := w.heap.size) (o := .cells #[.int .i64 0, .int .i64 0, .int .i64 0, .int .i64 0, .int .i64 0, .int .i64 0, .int .i64 0] 23 (0, 0)) (by (with_reducible repeat (first | refine blk_drewN ?_ _ | refine blk_drew ?_ | refine blk_alloc ?_ _)); exact BK140.out)) : gb148 ≠ w.heap.size))
                    clear BK140
                    clear HB
                    have BK140 := n0_
                    have HB := n1_
                    have BK148 := n2_
                    have GW148 := n3_
                    have GE148 := n4_
                    have NB140_148 := n5_
                    have NB148_140 := n6_
                    clear n0_ n1_ n2_ n3_ n4_ n5_ n6_
                    clear hb hbox hg
                    refine hK.out _ _ trivial (fun hHeld => ?_)
                    clear hK K
                    refine norm_ (a' := ?_) ?_ ?_
                    rotate_left
                    ·show Act.put _ (some 5) _ = _
                     simp only [Act.put, List.setIfInBounds_toArray, List.set_cons_zero, List.set_cons_succ, i64_w, i32_w]
                     rfl
                    exact norm_ (by first | (simp only [putAll, Act.put, List.setIfInBounds_toArray, List.set_cons_zero, List.set_cons_succ]; done) | (simp only [putAll, Act.put, List.setIfInBounds_toArray, List.set_cons_zero, List.set_cons_succ]; rfl)) (hJ22 (gb148) _ ⟨(by (with_reducible repeat (first | refine blk_drewN ?_ _ | refine blk_drew ?_ | refine blk_alloc ?_ _)); exact BK140.out), (by (with_reducible repeat (first | refine blk_drewN ?_ _ | refine blk_drew ?_ | refine blk_alloc ?_ _)); exact BK148.out), GW148.out, GE148.out, NB140_148.out, NB148_140.out, (by repeat (first | (with_reducible first | exact HB.out | apply below_alloc | apply pw_below_drewN | apply below_drew1 | refine below_set ?_ GE140.out | refine below_set ?_ GE148.out) | exact HB.out))⟩)
                  ·skip
                   rintro gb148 w66 ⟨h0_, h1_, h2_, h3_, h4_, h5_, h6_⟩
                   have n0_ : Aside0 (w66.heap[w.heap.size]? = some (.cells #[.int .i64 0, .int .i64 0, .int .i64 0, .int .i64 0, .int .i64 0, .int .i64 0, .int .i64 0] 23 (0, 0))) := ⟨h0_⟩
                   have n1_ : Aside0 (w66.heap[gb148]? = some (.cells #[.int .i64 0, .int .i64 0, .int .i64 0, .int .i64 0, .int .i64 0, .int .i64 0, .int .i64 0] 23 (0, 0))) := ⟨h1_⟩
                   have n2_ : Aside0 (w.heap.size ≤ gb148) := ⟨h2_⟩
                   have n3_ : Aside0 (w.heap.size ≤ gb148) := ⟨h3_⟩
                   have n4_ : Aside0 (w.heap.size ≠ gb148) := ⟨h4_⟩
                   have n5_ : Aside0 (gb148 ≠ w.heap.size) := ⟨h5_⟩
                   have n6_ : Aside0 (Below w.heap.size w w66) := ⟨h6_⟩
                   clear BK140
                   clear HB
                   clear h0_ h1_ h2_ h3_ h4_ h5_ h6_
                   have BK140 := n0_
                   have BK148 := n1_
                   have GW148 := n2_
                   have GE148 := n3_
                   have NB140_148 := n4_
                   have NB148_140 := n5_
                   have HB := n6_
                   clear n0_ n1_ n2_ n3_ n4_ n5_ n6_
                   have hHeld := trivial
                   refine norm_ (a' := ?_) ?_ ?_
                   rotate_left
                   ·simp only [putAll, Act.put, List.setIfInBounds_toArray, List.set_cons_zero, List.set_cons_succ]
                    rfl
                   refine one_ (i := 2) (N := some 47) #[true, true, true, true, true, false, true, true, false, true, true, false, true, true, false, true, true, false, true, true, false, false, true, false] rfl rfl (one_of HT_.out (by kernel_rfl)) (by decide) (fun K hK => ?_)
                   refine goes_ Try.func33 (by kernel_rfl) rfl #[.string (s.extract 0 4)] (by rfl) rfl rfl (by (try simp only [List.map_toArray, List.map_cons, List.map_nil]); first | done | rfl | (simp only [List.length_drop, List.length_take]; rfl)) ?_
                   with_reducible refine (timesyncref05_number.calls 11 (s.extract 0 4) t141 _ A28.out).mono ?_
                   rintro e w' ⟨rfl, ⟨nd, rfl⟩⟩
                   refine ⟨_, rfl, ?_⟩
                   refine hK.out _ _ trivial (fun hHeld => ?_)
                   clear hK K
                   refine norm_ (a' := ?_) ?_ ?_
                   rotate_left
                   ·show Act.put _ (some 47) _ = _
                    simp only [Act.put, List.setIfInBounds_toArray, List.set_cons_zero, List.set_cons_succ, i64_w, i32_w]
                    rfl
                   exact norm_ (by first | (simp only [putAll, Act.put, List.setIfInBounds_toArray, List.set_cons_zero, List.set_cons_succ]; done) | (simp only [putAll, Act.put, List.setIfInBounds_toArray, List.set_cons_zero, List.set_cons_succ]; rfl)) (hJ2_22 (gb148) _ ⟨(by (with_reducible repeat (first | refine blk_drewN ?_ _ | refine blk_drew ?_ | refine blk_alloc ?_ _)); exact BK140.out), (by (with_reducible repeat (first | refine blk_drewN ?_ _ | refine blk_drew ?_ | refine blk_alloc ?_ _)); exact BK148.out), GW148.out, GE148.out, NB140_148.out, NB148_140.out, (by repeat (first | (with_reducible first | exact HB.out | apply below_alloc | apply pw_below_drewN | apply below_drew1 | refine below_set ?_ GE140.out | refine below_set ?_ GE148.out) | exact HB.out))⟩)
                 ·skip
                  rintro _ w65 ⟨h0_, h1_⟩
                  have n0_ : Aside0 (w65.heap[w.heap.size]? = some (.cells #[.int .i64 0, .int .i64 0, .int .i64 0, .int .i64 0, .int .i64 0, .int .i64 0, .int .i64 0] 23 (0, 0))) := ⟨h0_⟩
                  have n1_ : Aside0 (Below w.heap.size w w65) := ⟨h1_⟩
                  clear BK140
                  clear HB
                  clear h0_ h1_
                  have BK140 := n0_
                  have HB := n1_
                  clear n0_ n1_
                  have hHeld := trivial
                  refine norm_ (a' := ?_) ?_ ?_
                  rotate_left
                  ·simp only [putAll, Act.put, List.setIfInBounds_toArray, List.set_cons_zero, List.set_cons_succ]
                   rfl
                  refine two_ (i := 5) (j := 22) (Ni := some 50) (Nj := some 5) #[true, true, true, true, true, true, true, true, false, true, true, false, true, true, false, true, true, false, true, true, false, false, false, false] #[true, true, true, true, true, false, true, true, false, true, true, false, true, true, false, true, true, false, true, true, false, false, true, false] rfl rfl rfl rfl (two_of HT_.out (by kernel_rfl)) (by decide) (by decide) (fun K hK => ?_) (fun K hK => ?_)
                  ·skip
                   refine goes_ Try.func33 (by kernel_rfl) rfl #[.string (s.extract 5 7)] (by rfl) rfl rfl (by (try simp only [List.map_toArray, List.map_cons, List.map_nil]); first | done | rfl | (simp only [List.length_drop, List.length_take]; rfl)) ?_
                   with_reducible refine (timesyncref05_number.calls 11 (s.extract 5 7) t142 _ A31.out).mono ?_
                   rintro e w' ⟨rfl, ⟨nd, rfl⟩⟩
                   refine ⟨_, rfl, ?_⟩
                   refine hK.out _ _ trivial (fun hHeld => ?_)
                   clear hK K
                   refine norm_ (a' := ?_) ?_ ?_
                   rotate_left
                   ·show Act.put _ (some 50) _ = _
                    simp only [Act.put, List.setIfInBounds_toArray, List.set_cons_zero, List.set_cons_succ, i64_w, i32_w]
                    rfl
                   exact norm_ (by first | (simp only [putAll, Act.put, List.setIfInBounds_toArray, List.set_cons_zero, List.set_cons_succ]; done) | (simp only [putAll, Act.put, List.setIfInBounds_toArray, List.set_cons_zero, List.set_cons_succ]; rfl)) (hJ2_5 () _ ⟨(by (with_reducible repeat (first | refine blk_drewN ?_ _ | refine blk_drew ?_ | refine blk_alloc ?_ _)); exact BK140.out), (by repeat (first | (with_reducible first | exact HB.out | apply below_alloc | apply pw_below_drewN | apply below_drew1 | refine below_set ?_ GE140.out) | exact HB.out))⟩)
                  ·skip
                   refine box_step ?hg (N := 5) ?hd (cs := #[.int .i64 0, .int .i64 0, .int .i64 0, .int .i64 0, .int .i64 0, .int .i64 0, .int .i64 0]) (t := 23) ?hr ?_; (case hd => rfl); (case hg => rfl); (case hr => first | (go_simp; done) | (go_simp; rfl))
                   intro gb148 hg w66 hbox hb
                   have n0_ := Aside0.mk (blk_below (g := w.heap.size) (o := .cells #[.int .i64 0, .int .i64 0, .int .i64 0, .int .i64 0, .int .i64 0, .int .i64 0, .int .i64 0] 23 (0, 0)) (by (with_reducible repeat (first | refine blk_drewN ?_ _ | refine blk_drew ?_ | refine blk_alloc ?_ _)); exact BK140.out) hb)
                   have n1_ := Aside0.mk (below_step (by repeat (first | (with_reducible first | exact HB.out | apply below_alloc | apply pw_below_drewN | apply below_drew1 | refine below_set ?_ GE140.out) | exact HB.out)) hb)
                   have n2_ := Aside0.mk (hbox)
                   have n3_ := Aside0.mk ((by rw [hg]; exact (below_size (by repeat (first | (with_reducible first | exact HB.out | apply below_alloc | apply pw_below_drewN | apply below_drew1 | refine below_set ?_ GE140.out) | exact HB.out))) : w.heap.size ≤ gb148))
                   have n4_ := Aside0.mk ((by rw [hg]; exact (below_size (by repeat (first | (with_reducible first | exact HB.out | apply below_alloc | apply pw_below_drewN | apply below_drew1 | refine below_set ?_ GE140.out) | exact HB.out))) : w.heap.size ≤ gb148))
                   have n5_ := Aside0.mk ((by rw [hg]; exact Nat.ne_of_lt (blk_lt (g := w.heap.size) (o := .cells #[.int .i64 0, .int .i64 0, .int .i64 0, .int .i64 0, .int .i64 0, .int .i64 0, .int .i64 0] 23 (0, 0)) (by (with_reducible repeat (first | refine blk_drewN ?_ _ | refine blk_drew ?_ | refine blk_alloc ?_ _)); exact BK140.out)) : w.heap.size ≠ gb148))
                   have n6_ := Aside0.mk ((by rw [hg]; exact Nat.ne_of_gt (blk_lt (g := w.heap.size) (o := .cells #[.int .i64 0, .int .i64 0, .int .i64 0, .int .i64 0, .int .i64 0, .int .i64 0, .int .i64 0] 23 (0, 0)) (by (with_reducible repeat (first | refine blk_drewN ?_ _ | refine blk_drew ?_ | refine blk_alloc ?_ _)); exact BK140.out)) : gb148 ≠ w.heap.size))
                   clear BK140
                   clear HB
                   have BK140 := n0_
                   have HB := n1_
                   have BK148 := n2_
                   have GW148 := n3_
                   have GE148 := n4_
                   have NB140_148 := n5_
                   have NB148_140 := n6_
                   clear n0_ n1_ n2_ n3_ n4_ n5_ n6_
                   clear hb hbox hg
                   refine hK.out _ _ trivial (fun hHeld => ?_)
                   clear hK K
                   refine norm_ (a' := ?_) ?_ ?_
                   rotate_left
                   ·show Act.put _ (some 5) _ = _
                    simp only [Act.put, List.setIfInBounds_toArray, List.set_cons_zero, List.set_cons_succ, i64_w, i32_w]
                    rfl
                   exact norm_ (by first | (simp only [putAll, Act.put, List.setIfInBounds_toArray, List.set_cons_zero, List.set_cons_succ]; done) | (simp only [putAll, Act.put, List.setIfInBounds_toArray, List.set_cons_zero, List.set_cons_succ]; rfl)) (hJ2_22 (gb148) _ ⟨(by (with_reducible repeat (first | refine blk_drewN ?_ _ | refine blk_drew ?_ | refine blk_alloc ?_ _)); exact BK140.out), (by (with_reducible repeat (first | refine blk_drewN ?_ _ | refine blk_drew ?_ | refine blk_alloc ?_ _)); exact BK148.out), GW148.out, GE148.out, NB140_148.out, NB148_140.out, (by repeat (first | (with_reducible first | exact HB.out | apply below_alloc | apply pw_below_drewN | apply below_drew1 | refine below_set ?_ GE140.out | refine below_set ?_ GE148.out) | exact HB.out))⟩)
                ·skip
                 rintro gb148 w66 ⟨h0_, h1_, h2_, h3_, h4_, h5_, h6_⟩
                 have n0_ : Aside0 (w66.heap[w.heap.size]? = some (.cells #[.int .i64 0, .int .i64 0, .int .i64 0, .int .i64 0, .int .i64 0, .int .i64 0, .int .i64 0] 23 (0, 0))) := ⟨h0_⟩
                 have n1_ : Aside0 (w66.heap[gb148]? = some (.cells #[.int .i64 0, .int .i64 0, .int .i64 0, .int .i64 0, .int .i64 0, .int .i64 0, .int .i64 0] 23 (0, 0))) := ⟨h1_⟩
                 have n2_ : Aside0 (w.heap.size ≤ gb148) := ⟨h2_⟩
                 have n3_ : Aside0 (w.heap.size ≤ gb148) := ⟨h3_⟩
                 have n4_ : Aside0 (w.heap.size ≠ gb148) := ⟨h4_⟩
                 have n5_ : Aside0 (gb148 ≠ w.heap.size) := ⟨h5_⟩
                 have n6_ : Aside0 (Below w.heap.size w w66) := ⟨h6_⟩
                 clear BK140
                 clear HB
                 clear h0_ h1_ h2_ h3_ h4_ h5_ h6_
                 have BK140 := n0_
                 have BK148 := n1_
                 have GW148 := n2_
                 have GE148 := n3_
                 have NB140_148 := n4_
                 have NB148_140 := n5_
                 have HB := n6_
                 clear n0_ n1_ n2_ n3_ n4_ n5_ n6_
                 have hHeld := trivial
                 refine norm_ (a' := ?_) ?_ ?_
                 rotate_left
                 ·simp only [putAll, Act.put, List.setIfInBounds_toArray, List.set_cons_zero, List.set_cons_succ]
                  rfl
                 refine one_ (i := 5) (N := some 50) #[true, true, true, true, true, true, true, true, false, true, true, false, true, true, false, true, true, false, true, true, false, false, true, false] rfl rfl (one_of HT_.out (by kernel_rfl)) (by decide) (fun K hK => ?_)
                 refine goes_ Try.func33 (by kernel_rfl) rfl #[.string (s.extract 5 7)] (by rfl) rfl rfl (by (try simp only [List.map_toArray, List.map_cons, List.map_nil]); first | done | rfl | (simp only [List.length_drop, List.length_take]; rfl)) ?_
                 with_reducible refine (timesyncref05_number.calls 11 (s.extract 5 7) t142 _ A31.out).mono ?_
                 rintro e w' ⟨rfl, ⟨nd, rfl⟩⟩
                 refine ⟨_, rfl, ?_⟩
                 refine hK.out _ _ trivial (fun hHeld => ?_)
                 clear hK K
                 refine norm_ (a' := ?_) ?_ ?_
                 rotate_left
                 ·show Act.put _ (some 50) _ = _
                  simp only [Act.put, List.setIfInBounds_toArray, List.set_cons_zero, List.set_cons_succ, i64_w, i32_w]
                  rfl
                 exact norm_ (by first | (simp only [putAll, Act.put, List.setIfInBounds_toArray, List.set_cons_zero, List.set_cons_succ]; done) | (simp only [putAll, Act.put, List.setIfInBounds_toArray, List.set_cons_zero, List.set_cons_succ]; rfl)) (hJ2_5_22 (gb148) _ ⟨(by (with_reducible repeat (first | refine blk_drewN ?_ _ | refine blk_drew ?_ | refine blk_alloc ?_ _)); exact BK140.out), (by (with_reducible repeat (first | refine blk_drewN ?_ _ | refine blk_drew ?_ | refine blk_alloc ?_ _)); exact BK148.out), GW148.out, GE148.out, NB140_148.out, NB148_140.out, (by repeat (first | (with_reducible first | exact HB.out | apply below_alloc | apply pw_below_drewN | apply below_drew1 | refine below_set ?_ GE140.out | refine below_set ?_ GE148.out) | exact HB.out))⟩)
               ·skip
                rintro _ w65 ⟨h0_, h1_⟩
                have n0_ : Aside0 (w65.heap[w.heap.size]? = some (.cells #[.int .i64 0, .int .i64 0, .int .i64 0, .int .i64 0, .int .i64 0, .int .i64 0, .int .i64 0] 23 (0, 0))) := ⟨h0_⟩
                have n1_ : Aside0 (Below w.heap.size w w65) := ⟨h1_⟩
                clear BK140
                clear HB
                clear h0_ h1_
                have BK140 := n0_
                have HB := n1_
                clear n0_ n1_
                have hHeld := trivial
                refine norm_ (a' := ?_) ?_ ?_
                rotate_left
                ·simp only [putAll, Act.put, List.setIfInBounds_toArray, List.set_cons_zero, List.set_cons_succ]
                 rfl
                refine two_ (i := 8) (j := 22) (Ni := some 53) (Nj := some 5) #[true, true, true, true, true, true, true, true, true, true, true, false, true, true, false, true, true, false, true, true, false, false, false, false] #[true, true, true, true, true, true, true, true, false, true, true, false, true, true, false, true, true, false, true, true, false, false, true, false] rfl rfl rfl rfl (two_of HT_.out (by kernel_rfl)) (by decide) (by decide) (fun K hK => ?_) (fun K hK => ?_)
                ·skip
                 refine goes_ Try.func33 (by kernel_rfl) rfl #[.string (s.extract 8 10)] (by rfl) rfl rfl (by (try simp only [List.map_toArray, List.map_cons, List.map_nil]); first | done | rfl | (simp only [List.length_drop, List.length_take]; rfl)) ?_
                 with_reducible refine (timesyncref05_number.calls 11 (s.extract 8 10) t143 _ A34.out).mono ?_
                 rintro e w' ⟨rfl, ⟨nd, rfl⟩⟩
                 refine ⟨_, rfl, ?_⟩
                 refine hK.out _ _ trivial (fun hHeld => ?_)
                 clear hK K
                 refine norm_ (a' := ?_) ?_ ?_
                 rotate_left
                 ·show Act.put _ (some 53) _ = _
                  simp only [Act.put, List.setIfInBounds_toArray, List.set_cons_zero, List.set_cons_succ, i64_w, i32_w]
                  rfl
                 exact norm_ (by first | (simp only [putAll, Act.put, List.setIfInBounds_toArray, List.set_cons_zero, List.set_cons_succ]; done) | (simp only [putAll, Act.put, List.setIfInBounds_toArray, List.set_cons_zero, List.set_cons_succ]; rfl)) (hJ2_5_8 () _ ⟨(by (with_reducible repeat (first | refine blk_drewN ?_ _ | refine blk_drew ?_ | refine blk_alloc ?_ _)); exact BK140.out), (by repeat (first | (with_reducible first | exact HB.out | apply below_alloc | apply pw_below_drewN | apply below_drew1 | refine below_set ?_ GE140.out) | exact HB.out))⟩)
                ·skip
                 refine box_step ?hg (N := 5) ?hd (cs := #[.int .i64 0, .int .i64 0, .int .i64 0, .int .i64 0, .int .i64 0, .int .i64 0, .int .i64 0]) (t := 23) ?hr ?_; (case hd => rfl); (case hg => rfl); (case hr => first | (go_simp; done) | (go_simp; rfl))
                 intro gb148 hg w66 hbox hb
                 have n0_ := Aside0.mk (blk_below (g := w.heap.size) (o := .cells #[.int .i64 0, .int .i64 0, .int .i64 0, .int .i64 0, .int .i64 0, .int .i64 0, .int .i64 0] 23 (0, 0)) (by (with_reducible repeat (first | refine blk_drewN ?_ _ | refine blk_drew ?_ | refine blk_alloc ?_ _)); exact BK140.out) hb)
                 have n1_ := Aside0.mk (below_step (by repeat (first | (with_reducible first | exact HB.out | apply below_alloc | apply pw_below_drewN | apply below_drew1 | refine below_set ?_ GE140.out) | exact HB.out)) hb)
                 have n2_ := Aside0.mk (hbox)
                 have n3_ := Aside0.mk ((by rw [hg]; exact (below_size (by repeat (first | (with_reducible first | exact HB.out | apply below_alloc | apply pw_below_drewN | apply below_drew1 | refine below_set ?_ GE140.out) | exact HB.out))) : w.heap.size ≤ gb148))
                 have n4_ := Aside0.mk ((by rw [hg]; exact (below_size (by repeat (first | (with_reducible first | exact HB.out | apply below_alloc | apply pw_below_drewN | apply below_drew1 | refine below_set ?_ GE140.out) | exact HB.out))) : w.heap.size ≤ gb148))
                 have n5_ := Aside0.mk ((by rw [hg]; exact Nat.ne_of_lt (blk_lt (g := w.heap.size) (o := .cells #[.int .i64 0, .int .i64 0, .int .i64 0, .int .i64 0, .int .i64 0, .int .i64 0, .int .i64 0] 23 (0, 0)) (by (with_reducible repeat (first | refine blk_drewN ?_ _ | refine blk_drew ?_ | refine blk_alloc ?_ _)); exact BK140.out)) : w.heap.size ≠ gb148))
                 have n6_ := Aside0.mk ((by rw [hg]; exact Nat.ne_of_gt (blk_lt (g := w.heap.size) (o := .cells #[.int .i64 0, .int .i64 0, .int .i64 0, .int .i64 0, .int .i64 0, .int .i64 0, .int .i64 0] 23 (0, 0)) (by (with_reducible repeat (first | refine blk_drewN ?_ _ | refine blk_drew ?_ | refine blk_alloc ?_ _)); exact BK140.out)) : gb148 ≠ w.heap.size))
                 clear BK140
                 clear HB
                 have BK140 := n0_
                 have HB := n1_
                 have BK148 := n2_
                 have GW148 := n3_
                 have GE148 := n4_
                 have NB140_148 := n5_
                 have NB148_140 := n6_
                 clear n0_ n1_ n2_ n3_ n4_ n5_ n6_
                 clear hb hbox hg
                 refine hK.out _ _ trivial (fun hHeld => ?_)
                 clear hK K
                 refine norm_ (a' := ?_) ?_ ?_
                 rotate_left
                 ·show Act.put _ (some 5) _ = _
                  simp only [Act.put, List.setIfInBounds_toArray, List.set_cons_zero, List.set_cons_succ, i64_w, i32_w]
                  rfl
                 exact norm_ (by first | (simp only [putAll, Act.put, List.setIfInBounds_toArray, List.set_cons_zero, List.set_cons_succ]; done) | (simp only [putAll, Act.put, List.setIfInBounds_toArray, List.set_cons_zero, List.set_cons_succ]; rfl)) (hJ2_5_22 (gb148) _ ⟨(by (with_reducible repeat (first | refine blk_drewN ?_ _ | refine blk_drew ?_ | refine blk_alloc ?_ _)); exact BK140.out), (by (with_reducible repeat (first | refine blk_drewN ?_ _ | refine blk_drew ?_ | refine blk_alloc ?_ _)); exact BK148.out), GW148.out, GE148.out, NB140_148.out, NB148_140.out, (by repeat (first | (with_reducible first | exact HB.out | apply below_alloc | apply pw_below_drewN | apply below_drew1 | refine below_set ?_ GE140.out | refine below_set ?_ GE148.out) | exact HB.out))⟩)
              ·skip
               rintro gb148 w66 ⟨h0_, h1_, h2_, h3_, h4_, h5_, h6_⟩
               have n0_ : Aside0 (w66.heap[w.heap.size]? = some (.cells #[.int .i64 0, .int .i64 0, .int .i64 0, .int .i64 0, .int .i64 0, .int .i64 0, .int .i64 0] 23 (0, 0))) := ⟨h0_⟩
               have n1_ : Aside0 (w66.heap[gb148]? = some (.cells #[.int .i64 0, .int .i64 0, .int .i64 0, .int .i64 0, .int .i64 0, .int .i64 0, .int .i64 0] 23 (0, 0))) := ⟨h1_⟩
               have n2_ : Aside0 (w.heap.size ≤ gb148) := ⟨h2_⟩
               have n3_ : Aside0 (w.heap.size ≤ gb148) := ⟨h3_⟩
               have n4_ : Aside0 (w.heap.size ≠ gb148) := ⟨h4_⟩
               have n5_ : Aside0 (gb148 ≠ w.heap.size) := ⟨h5_⟩
               have n6_ : Aside0 (Below w.heap.size w w66) := ⟨h6_⟩
               clear BK140
               clear HB
               clear h0_ h1_ h2_ h3_ h4_ h5_ h6_
               have BK140 := n0_
               have BK148 := n1_
               have GW148 := n2_
               have GE148 := n3_
               have NB140_148 := n4_
               have NB148_140 := n5_
               have HB := n6_
               clear n0_ n1_ n2_ n3_ n4_ n5_ n6_
               have hHeld := trivial
               refine norm_ (a' := ?_) ?_ ?_
               rotate_left
               ·simp only [putAll, Act.put, List.setIfInBounds_toArray, List.set_cons_zero, List.set_cons_succ]
                rfl
               refine one_ (i := 8) (N := some 53) #[true, true, true, true, true, true, true, true, true, true, true, false, true, true, false, true, true, false, true, true, false, false, true, false] rfl rfl (one_of HT_.out (by kernel_rfl)) (by decide) (fun K hK => ?_)
               refine goes_ Try.func33 (by kernel_rfl) rfl #[.string (s.extract 8 10)] (by rfl) rfl rfl (by (try simp only [List.map_toArray, List.map_cons, List.map_nil]); first | done | rfl | (simp only [List.length_drop, List.length_take]; rfl)) ?_
               with_reducible refine (timesyncref05_number.calls 11 (s.extract 8 10) t143 _ A34.out).mono ?_
               rintro e w' ⟨rfl, ⟨nd, rfl⟩⟩
               refine ⟨_, rfl, ?_⟩
               refine hK.out _ _ trivial (fun hHeld => ?_)
               clear hK K
               refine norm_ (a' := ?_) ?_ ?_
               rotate_left
               ·show Act.put _ (some 53) _ = _
                simp only [Act.put, List.setIfInBounds_toArray, List.set_cons_zero, List.set_cons_succ, i64_w, i32_w]
                rfl
               exact norm_ (by first | (simp only [putAll, Act.put, List.setIfInBounds_toArray, List.set_cons_zero, List.set_cons_succ]; done) | (simp only [putAll, Act.put, List.setIfInBounds_toArray, List.set_cons_zero, List.set_cons_succ]; rfl)) (hJ2_5_8_22 (gb148) _ ⟨(by (with_reducible repeat (first | refine blk_drewN ?_ _ | refine blk_drew ?_ | refine blk_alloc ?_ _)); exact BK140.out), (by (with_reducible repeat (first | refine blk_drewN ?_ _ | refine blk_drew ?_ | refine blk_alloc ?_ _)); exact BK148.out), GW148.out, GE148.out, NB140_148.out, NB148_140.out, (by repeat (first | (with_reducible first | exact HB.out | apply below_alloc | apply pw_below_drewN | apply below_drew1 | refine below_set ?_ GE140.out | refine below_set ?_ GE148.out) | exact HB.out))⟩)
             ·skip
              rintro _ w65 ⟨h0_, h1_⟩
              have n0_ : Aside0 (w65.heap[w.heap.size]? = some (.cells #[.int .i64 0, .int .i64 0, .int .i64 0, .int .i64 0, .int .i64 0, .int .i64 0, .int .i64 0] 23 (0, 0))) := ⟨h0_⟩
              have n1_ : Aside0 (Below w.heap.size w w65) := ⟨h1_⟩
              clear BK140
              clear HB
              clear h0_ h1_
              have BK140 := n0_
              have HB := n1_
              clear n0_ n1_
              have hHeld := trivial
              refine norm_ (a' := ?_) ?_ ?_
              rotate_left
              ·simp only [putAll, Act.put, List.setIfInBounds_toArray, List.set_cons_zero, List.set_cons_succ]
               rfl
              refine two_ (i := 11) (j := 22) (Ni := some 56) (Nj := some 5) #[true, true, true, true, true, true, true, true, true, true, true, true, true, true, false, true, true, false, true, true, false, false, false, false] #[true, true, true, true, true, true, true, true, true, true, true, false, true, true, false, true, true, false, true, true, false, false, true, false] rfl rfl rfl rfl (two_of HT_.out (by kernel_rfl)) (by decide) (by decide) (fun K hK => ?_) (fun K hK => ?_)
              ·skip
               refine goes_ Try.func33 (by kernel_rfl) rfl #[.string (s.extract 11 13)] (by rfl) rfl rfl (by (try simp only [List.map_toArray, List.map_cons, List.map_nil]); first | done | rfl | (simp only [List.length_drop, List.length_take]; rfl)) ?_
               with_reducible refine (timesyncref05_number.calls 11 (s.extract 11 13) t144 _ A37.out).mono ?_
               rintro e w' ⟨rfl, ⟨nd, rfl⟩⟩
               refine ⟨_, rfl, ?_⟩
               refine hK.out _ _ trivial (fun hHeld => ?_)
               clear hK K
               refine norm_ (a' := ?_) ?_ ?_
               rotate_left
               ·show Act.put _ (some 56) _ = _
                simp only [Act.put, List.setIfInBounds_toArray, List.set_cons_zero, List.set_cons_succ, i64_w, i32_w]
                rfl
               exact norm_ (by first | (simp only [putAll, Act.put, List.setIfInBounds_toArray, List.set_cons_zero, List.set_cons_succ]; done) | (simp only [putAll, Act.put, List.setIfInBounds_toArray, List.set_cons_zero, List.set_cons_succ]; rfl)) (hJ2_5_8_11 () _ ⟨(by (with_reducible repeat (first | refine blk_drewN ?_ _ | refine blk_drew ?_ | refine blk_alloc ?_ _)); exact BK140.out), (by repeat (first | (with_reducible first | exact HB.out | apply below_alloc | apply pw_below_drewN | apply below_drew1 | refine below_set ?_ GE140.out) | exact HB.out))⟩)
              ·skip
               refine box_step ?hg (N := 5) ?hd (cs := #[.int .i64 0, .int .i64 0, .int .i64 0, .int .i64 0, .int .i64 0, .int .i64 0, .int .i64 0]) (t := 23) ?hr ?_; (case hd => rfl); (case hg => rfl); (case hr => first | (go_simp; done) | (go_simp; rfl))
               intro gb148 hg w66 hbox hb
               have n0_ := Aside0.mk (blk_below (g := w.heap.size) (o := .cells #[.int .i64 0, .int .i64 0, .int .i64 0, .int .i64 0, .int .i64 0, .int .i64 0, .int .i64 0] 23 (0, 0)) (by (with_reducible repeat (first | refine blk_drewN ?_ _ | refine blk_drew ?_ | refine blk_alloc ?_ _)); exact BK140.out) hb)
               have n1_ := Aside0.mk (below_step (by repeat (first | (with_reducible first | exact HB.out | apply below_alloc | apply pw_below_drewN | apply below_drew1 | refine below_set ?_ GE140.out) | exact HB.out)) hb)
               have n2_ := Aside0.mk (hbox)
               have n3_ := Aside0.mk ((by rw [hg]; exact (below_size (by repeat (first | (with_reducible first | exact HB.out | apply below_alloc | apply pw_below_drewN | apply below_drew1 | refine below_set ?_ GE140.out) | exact HB.out))) : w.heap.size ≤ gb148))
               have n4_ := Aside0.mk ((by rw [hg]; exact (below_size (by repeat (first | (with_reducible first | exact HB.out | apply below_alloc | apply pw_below_drewN | apply below_drew1 | refine below_set ?_ GE140.out) | exact HB.out))) : w.heap.size ≤ gb148))
               have n5_ := Aside0.mk ((by rw [hg]; exact Nat.ne_of_lt (blk_lt (g := w.heap.size) (o := .cells #[.int .i64 0, .int .i64 0, .int .i64 0, .int .i64 0, .int .i64 0, .int .i64 0, .int .i64 0] 23 (0, 0)) (by (with_reducible repeat (first | refine blk_drewN ?_ _ | refine blk_drew ?_ | refine blk_alloc ?_ _)); exact BK140.out)) : w.heap.size ≠ gb148))
               have n6_ := Aside0.mk ((by rw [hg]; exact Nat.ne_of_gt (blk_lt (g := w.heap.size) (o := .cells #[.int .i64 0, .int .i64 0, .int .i64 0, .int .i64 0, .int .i64 0, .int .i64 0, .int .i64 0] 23 (0, 0)) (by (with_reducible repeat (first | refine blk_drewN ?_ _ | refine blk_drew ?_ | refine blk_alloc ?_ _)); exact BK140.out)) : gb148 ≠ w.heap.size))
               clear BK140
               clear HB
               have BK140 := n0_
               have HB := n1_
               have BK148 := n2_
               have GW148 := n3_
               have GE148 := n4_
               have NB140_148 := n5_
               have NB148_140 := n6_
               clear n0_ n1_ n2_ n3_ n4_ n5_ n6_
               clear hb hbox hg
               refine hK.out _ _ trivial (fun hHeld => ?_)
               clear hK K
               refine norm_ (a' := ?_) ?_ ?_
               rotate_left
               ·show Act.put _ (some 5) _ = _
                simp only [Act.put, List.setIfInBounds_toArray, List.set_cons_zero, List.set_cons_succ, i64_w, i32_w]
                rfl
               exact norm_ (by first | (simp only [putAll, Act.put, List.setIfInBounds_toArray, List.set_cons_zero, List.set_cons_succ]; done) | (simp only [putAll, Act.put, List.setIfInBounds_toArray, List.set_cons_zero, List.set_cons_succ]; rfl)) (hJ2_5_8_22 (gb148) _ ⟨(by (with_reducible repeat (first | refine blk_drewN ?_ _ | refine blk_drew ?_ | refine blk_alloc ?_ _)); exact BK140.out), (by (with_reducible repeat (first | refine blk_drewN ?_ _ | refine blk_drew ?_ | refine blk_alloc ?_ _)); exact BK148.out), GW148.out, GE148.out, NB140_148.out, NB148_140.out, (by repeat (first | (with_reducible first | exact HB.out | apply below_alloc | apply pw_below_drewN | apply below_drew1 | refine below_set ?_ GE140.out | refine below_set ?_ GE148.out) | exact HB.out))⟩)
            ·skip
             rintro gb148 w66 ⟨h0_, h1_, h2_, h3_, h4_, h5_, h6_⟩
             have n0_ : Aside0 (w66.heap[w.heap.size]? = some (.cells #[.int .i64 0, .int .i64 0, .int .i64 0, .int .i64 0, .int .i64 0, .int .i64 0, .int .i64 0] 23 (0, 0))) := ⟨h0_⟩
             have n1_ : Aside0 (w66.heap[gb148]? = some (.cells #[.int .i64 0, .int .i64 0, .int .i64 0, .int .i64 0, .int .i64 0, .int .i64 0, .int .i64 0] 23 (0, 0))) := ⟨h1_⟩
             have n2_ : Aside0 (w.heap.size ≤ gb148) := ⟨h2_⟩
             have n3_ : Aside0 (w.heap.size ≤ gb148) := ⟨h3_⟩
             have n4_ : Aside0 (w.heap.size ≠ gb148) := ⟨h4_⟩
             have n5_ : Aside0 (gb148 ≠ w.heap.size) := ⟨h5_⟩
             have n6_ : Aside0 (Below w.heap.size w w66) := ⟨h6_⟩
             clear BK140
             clear HB
             clear h0_ h1_ h2_ h3_ h4_ h5_ h6_
             have BK140 := n0_
             have BK148 := n1_
             have GW148 := n2_
             have GE148 := n3_
             have NB140_148 := n4_
             have NB148_140 := n5_
             have HB := n6_
             clear n0_ n1_ n2_ n3_ n4_ n5_ n6_
             have hHeld := trivial
             refine norm_ (a' := ?_) ?_ ?_
             rotate_left
             ·simp only [putAll, Act.put, List.setIfInBounds_toArray, List.set_cons_zero, List.set_cons_succ]
              rfl
             refine one_ (i := 11) (N := some 56) #[true, true, true, true, true, true, true, true, true, true, true, true, true, true, false, true, true, false, true, true, false, false, true, false] rfl rfl (one_of HT_.out (by kernel_rfl)) (by decide) (fun K hK => ?_)
             refine goes_ Try.func33 (by kernel_rfl) rfl #[.string (s.extract 11 13)] (by rfl) rfl rfl (by (try simp only [List.map_toArray, List.map_cons, List.map_nil]); first | done | rfl | (simp only [List.length_drop, List.length_take]; rfl)) ?_
             with_reducible refine (timesyncref05_number.calls 11 (s.extract 11 13) t144 _ A37.out).mono ?_
             rintro e w' ⟨rfl, ⟨nd, rfl⟩⟩
             refine ⟨_, rfl, ?_⟩
             refine hK.out _ _ trivial (fun hHeld => ?_)
             clear hK K
             refine norm_ (a' := ?_) ?_ ?_
             rotate_left
             ·show Act.put _ (some 56) _ = _
              simp only [Act.put, List.setIfInBounds_toArray, List.set_cons_zero, List.set_cons_succ, i64_w, i32_w]
              rfl
             exact norm_ (by first | (simp only [putAll, Act.put, List.setIfInBounds_toArray, List.set_cons_zero, List.set_cons_succ]; done) | (simp only [putAll, Act.put, List.setIfInBounds_toArray, List.set_cons_zero, List.set_cons_succ]; rfl)) (hJ2_5_8_11_22 (gb148) _ ⟨(by (with_reducible repeat (first | refine blk_drewN ?_ _ | refine blk_drew ?_ | refine blk_alloc ?_ _)); exact BK140.out), (by (with_reducible repeat (first | refine blk_drewN ?_ _ | refine blk_drew ?_ | refine blk_alloc ?_ _)); exact BK148.out), GW148.out, GE148.out, NB140_148.out, NB148_140.out, (by repeat (first | (with_reducible first | exact HB.out | apply below_alloc | apply pw_below_drewN | apply below_drew1 | refine below_set ?_ GE140.out | refine below_set ?_ GE148.out) | exact HB.out))⟩)
           ·skip
            rintro _ w65 ⟨h0_, h1_⟩
            have n0_ : Aside0 (w65.heap[w.heap.size]? = some (.cells #[.int .i64 0, .int .i64 0, .int .i64 0, .int .i64 0, .int .i64 0, .int .i64 0, .int .i64 0] 23 (0, 0))) := ⟨h0_⟩
            have n1_ : Aside0 (Below w.heap.size w w65) := ⟨h1_⟩
            clear BK140
            clear HB
            clear h0_ h1_
            have BK140 := n0_
            have HB := n1_
            clear n0_ n1_
            have hHeld := trivial
            refine norm_ (a' := ?_) ?_ ?_
            rotate_left
            ·simp only [putAll, Act.put, List.setIfInBounds_toArray, List.set_cons_zero, List.set_cons_succ]
             rfl
            refine two_ (i := 14) (j := 22) (Ni := some 59) (Nj := some 5) #[true, true, true, true, true, true, true, true, true, true, true, true, true, true, true, true, true, false, true, true, false, false, false, false] #[true, true, true, true, true, true, true, true, true, true, true, true, true, true, false, true, true, false, true, true, false, false, true, false] rfl rfl rfl rfl (two_of HT_.out (by kernel_rfl)) (by decide) (by decide) (fun K hK => ?_) (fun K hK => ?_)
            ·skip
             refine goes_ Try.func33 (by kernel_rfl) rfl #[.string (s.extract 14 16)] (by rfl) rfl rfl (by (try simp only [List.map_toArray, List.map_cons, List.map_nil]); first | done | rfl | (simp only [List.length_drop, List.length_take]; rfl)) ?_
             with_reducible refine (timesyncref05_number.calls 11 (s.extract 14 16) t145 _ A40.out).mono ?_
             rintro e w' ⟨rfl, ⟨nd, rfl⟩⟩
             refine ⟨_, rfl, ?_⟩
             refine hK.out _ _ trivial (fun hHeld => ?_)
             clear hK K
             refine norm_ (a' := ?_) ?_ ?_
             rotate_left
             ·show Act.put _ (some 59) _ = _
              simp only [Act.put, List.setIfInBounds_toArray, List.set_cons_zero, List.set_cons_succ, i64_w, i32_w]
              rfl
             exact norm_ (by first | (simp only [putAll, Act.put, List.setIfInBounds_toArray, List.set_cons_zero, List.set_cons_succ]; done) | (simp only [putAll, Act.put, List.setIfInBounds_toArray, List.set_cons_zero, List.set_cons_succ]; rfl)) (hJ2_5_8_11_14 () _ ⟨(by (with_reducible repeat (first | refine blk_drewN ?_ _ | refine blk_drew ?_ | refine blk_alloc ?_ _)); exact BK140.out), (by repeat (first | (with_reducible first | exact HB.out | apply below_alloc | apply pw_below_drewN | apply below_drew1 | refine below_set ?_ GE140.out) | exact HB.out))⟩)
            ·skip
             refine box_step ?hg (N := 5) ?hd (cs := #[.int .i64 0, .int .i64 0, .int .i64 0, .int .i64 0, .int .i64 0, .int .i64 0, .int .i64 0]) (t := 23) ?hr ?_; (case hd => rfl); (case hg => rfl); (case hr => first | (go_simp; done) | (go_simp; rfl))
             intro gb148 hg w66 hbox hb
             have n0_ := Aside0.mk (blk_below (g := w.heap.size) (o := .cells #[.int .i64 0, .int .i64 0, .int .i64 0, .int .i64 0, .int .i64 0, .int .i64 0, .int .i64 0] 23 (0, 0)) (by (with_reducible repeat (first | refine blk_drewN ?_ _ | refine blk_drew ?_ | refine blk_alloc ?_ _)); exact BK140.out) hb)
             have n1_ := Aside0.mk (below_step (by repeat (first | (with_reducible first | exact HB.out | apply below_alloc | apply pw_below_drewN | apply below_drew1 | refine below_set ?_ GE140.out) | exact HB.out)) hb)
             have n2_ := Aside0.mk (hbox)
             have n3_ := Aside0.mk ((by rw [hg]; exact (below_size (by repeat (first | (with_reducible first | exact HB.out | apply below_alloc | apply pw_below_drewN | apply below_drew1 | refine below_set ?_ GE140.out) | exact HB.out))) : w.heap.size ≤ gb148))
             have n4_ := Aside0.mk ((by rw [hg]; exact (below_size (by repeat (first | (with_reducible first | exact HB.out | apply below_alloc | apply pw_below_drewN | apply below_drew1 | refine below_set ?_ GE140.out) | exact HB.out))) : w.heap.size ≤ gb148))
             have n5_ := Aside0.mk ((by rw [hg]; exact Nat.ne_of_lt (blk_lt (g := w.heap.size) (o := .cells #[.int .i64 0, .int .i64 0, .int .i64 0, .int .i64 0, .int .i64 0, .int .i64 0, .int .i64 0] 23 (0, 0)) (by (with_reducible repeat (first | refine blk_drewN ?_ _ | refine blk_drew ?_ | refine blk_alloc ?_ _)); exact BK140.out)) : w.heap.size ≠ gb148))
             have n6_ := Aside0.mk ((by rw [hg]; exact Nat.ne_of_gt (blk_lt (g := w.heap.size) (o := .cells #[.int .i64 0, .int .i64 0, .int .i64 0, .int .i64 0, .int .i64 0, .int .i64 0, .int .i64 0] 23 (0, 0)) (by (with_reducible repeat (first | refine blk_drewN ?_ _ | refine blk_drew ?_ | refine blk_alloc ?_ _)); exact BK140.out)) : gb148 ≠ w.heap.size))
             clear BK140
             clear HB
             have BK140 := n0_
             have HB := n1_
             have BK148 := n2_
             have GW148 := n3_
             have GE148 := n4_
             have NB140_148 := n5_
             have NB148_140 := n6_
             clear n0_ n1_ n2_ n3_ n4_ n5_ n6_
             clear hb hbox hg
             refine hK.out _ _ trivial (fun hHeld => ?_)
             clear hK K
             refine norm_ (a' := ?_) ?_ ?_
             rotate_left
             ·show Act.put _ (some 5) _ = _
              simp only [Act.put, List.setIfInBounds_toArray, List.set_cons_zero, List.set_cons_succ, i64_w, i32_w]
              rfl
             exact norm_ (by first | (simp only [putAll, Act.put, List.setIfInBounds_toArray, List.set_cons_zero, List.set_cons_succ]; done) | (simp only [putAll, Act.put, List.setIfInBounds_toArray, List.set_cons_zero, List.set_cons_succ]; rfl)) (hJ2_5_8_11_22 (gb148) _ ⟨(by (with_reducible repeat (first | refine blk_drewN ?_ _ | refine blk_drew ?_ | refine blk_alloc ?_ _)); exact BK140.out), (by (with_reducible repeat (first | refine blk_drewN ?_ _ | refine blk_drew ?_ | refine blk_alloc ?_ _)); exact BK148.out), GW148.out, GE148.out, NB140_148.out, NB148_140.out, (by repeat (first | (with_reducible first | exact HB.out | apply below_alloc | apply pw_below_drewN | apply below_drew1 | refine below_set ?_ GE140.out | refine below_set ?_ GE148.out) | exact HB.out))⟩)
          ·skip
           rintro gb148 w66 ⟨h0_, h1_, h2_, h3_, h4_, h5_, h6_⟩
           have n0_ : Aside0 (w66.heap[w.heap.size]? = some (.cells #[.int .i64 0, .int .i64 0, .int .i64 0, .int .i64 0, .int .i64 0, .int .i64 0, .int .i64 0] 23 (0, 0))) := ⟨h0_⟩
           have n1_ : Aside0 (w66.heap[gb148]? = some (.cells #[.int .i64 0, .int .i64 0, .int .i64 0, .int .i64 0, .int .i64 0, .int .i64 0, .int .i64 0] 23 (0, 0))) := ⟨h1_⟩
           have n2_ : Aside0 (w.heap.size ≤ gb148) := ⟨h2_⟩
           have n3_ : Aside0 (w.heap.size ≤ gb148) := ⟨h3_⟩
           have n4_ : Aside0 (w.heap.size ≠ gb148) := ⟨h4_⟩
           have n5_ : Aside0 (gb148 ≠ w.heap.size) := ⟨h5_⟩
           have n6_ : Aside0 (Below w.heap.size w w66) := ⟨h6_⟩
           clear BK140
           clear HB
           clear h0_ h1_ h2_ h3_ h4_ h5_ h6_
           have BK140 := n0_
           have BK148 := n1_
           have GW148 := n2_
           have GE148 := n3_
           have NB140_148 := n4_
           have NB148_140 := n5_
           have HB := n6_
           clear n0_ n1_ n2_ n3_ n4_ n5_ n6_
           have hHeld := trivial
           refine norm_ (a' := ?_) ?_ ?_
           rotate_left
           ·simp only [putAll, Act.put, List.setIfInBounds_toArray, List.set_cons_zero, List.set_cons_succ]
            rfl
           refine one_ (i := 14) (N := some 59) #[true, true, true, true, true, true, true, true, true, true, true, true, true, true, true, true, true, false, true, true, false, false, true, false] rfl rfl (one_of HT_.out (by kernel_rfl)) (by decide) (fun K hK => ?_)
           refine goes_ Try.func33 (by kernel_rfl) rfl #[.string (s.extract 14 16)] (by rfl) rfl rfl (by (try simp only [List.map_toArray, List.map_cons, List.map_nil]); first | done | rfl | (simp only [List.length_drop, List.length_take]; rfl)) ?_
           with_reducible refine (timesyncref05_number.calls 11 (s.extract 14 16) t145 _ A40.out).mono ?_
           rintro e w' ⟨rfl, ⟨nd, rfl⟩⟩
           refine ⟨_, rfl, ?_⟩
           refine hK.out _ _ trivial (fun hHeld => ?_)
           clear hK K
           refine norm_ (a' := ?_) ?_ ?_
           rotate_left
           ·show Act.put _ (some 59) _ = _
            simp only [Act.put, List.setIfInBounds_toArray, List.set_cons_zero, List.set_cons_succ, i64_w, i32_w]
            rfl
           exact norm_ (by first | (simp only [putAll, Act.put, List.setIfInBounds_toArray, List.set_cons_zero, List.set_cons_succ]; done) | (simp only [putAll, Act.put, List.setIfInBounds_toArray, List.set_cons_zero, List.set_cons_succ]; rfl)) (hJ2_5_8_11_14_22 (gb148) _ ⟨(by (with_reducible repeat (first | refine blk_drewN ?_ _ | refine blk_drew ?_ | refine blk_alloc ?_ _)); exact BK140.out), (by (with_reducible repeat (first | refine blk_drewN ?_ _ | refine blk_drew ?_ | refine blk_alloc ?_ _)); exact BK148.out), GW148.out, GE148.out, NB140_148.out, NB148_140.out, (by repeat (first | (with_reducible first | exact HB.out | apply below_alloc | apply pw_below_drewN | apply below_drew1 | refine below_set ?_ GE140.out | refine below_set ?_ GE148.out) | exact HB.out))⟩)
         ·skip
          rintro _ w65 ⟨h0_, h1_⟩
          have n0_ : Aside0 (w65.heap[w.heap.size]? = some (.cells #[.int .i64 0, .int .i64 0, .int .i64 0, .int .i64 0, .int .i64 0, .int .i64 0, .int .i64 0] 23 (0, 0))) := ⟨h0_⟩
          have n1_ : Aside0 (Below w.heap.size w w65) := ⟨h1_⟩
          clear BK140
          clear HB
          clear h0_ h1_
          have BK140 := n0_
          have HB := n1_
          clear n0_ n1_
          have hHeld := trivial
          refine norm_ (a' := ?_) ?_ ?_
          rotate_left
          ·simp only [putAll, Act.put, List.setIfInBounds_toArray, List.set_cons_zero, List.set_cons_succ]
           rfl
          refine two_ (i := 17) (j := 22) (Ni := some 62) (Nj := some 5) #[true, true, true, true, true, true, true, true, true, true, true, true, true, true, true, true, true, true, true, true, false, false, false, false] #[true, true, true, true, true, true, true, true, true, true, true, true, true, true, true, true, true, false, true, true, false, false, true, false] rfl rfl rfl rfl (two_of HT_.out (by kernel_rfl)) (by decide) (by decide) (fun K hK => ?_) (fun K hK => ?_)
          ·skip
           refine goes_ Try.func33 (by kernel_rfl) rfl #[.string (s.extract 17 19)] (by rfl) rfl rfl (by (try simp only [List.map_toArray, List.map_cons, List.map_nil]); first | done | rfl | (simp only [List.length_drop, List.length_take]; rfl)) ?_
           with_reducible refine (timesyncref05_number.calls 11 (s.extract 17 19) t146 _ A43.out).mono ?_
           rintro e w' ⟨rfl, ⟨nd, rfl⟩⟩
           refine ⟨_, rfl, ?_⟩
           refine hK.out _ _ trivial (fun hHeld => ?_)
           clear hK K
           refine norm_ (a' := ?_) ?_ ?_
           rotate_left
           ·show Act.put _ (some 62) _ = _
            simp only [Act.put, List.setIfInBounds_toArray, List.set_cons_zero, List.set_cons_succ, i64_w, i32_w]
            rfl
           exact norm_ (by first | (simp only [putAll, Act.put, List.setIfInBounds_toArray, List.set_cons_zero, List.set_cons_succ]; done) | (simp only [putAll, Act.put, List.setIfInBounds_toArray, List.set_cons_zero, List.set_cons_succ]; rfl)) (hJ2_5_8_11_14_17 () _ ⟨(by (with_reducible repeat (first | refine blk_drewN ?_ _ | refine blk_drew ?_ | refine blk_alloc ?_ _)); exact BK140.out), (by repeat (first | (with_reducible first | exact HB.out | apply below_alloc | apply pw_below_drewN | apply below_drew1 | refine below_set ?_ GE140.out) | exact HB.out))⟩)
          ·skip
           refine box_step ?hg (N := 5) ?hd (cs := #[.int .i64 0, .int .i64 0, .int .i64 0, .int .i64 0, .int .i64 0, .int .i64 0, .int .i64 0]) (t := 23) ?hr ?_; (case hd => rfl); (case hg => rfl); (case hr => first | (go_simp; done) | (go_simp; rfl))
           intro gb148 hg w66 hbox hb
           have n0_ := Aside0.mk (blk_below (g := w.heap.size) (o := .cells #[.int .i64 0, .int .i64 0, .int .i64 0, .int .i64 0, .int .i64 0, .int .i64 0, .int .i64 0] 23 (0, 0)) (by (with_reducible repeat (first | refine blk_drewN ?_ _ | refine blk_drew ?_ | refine blk_alloc ?_ _)); exact BK140.out) hb)
           have n1_ := Aside0.mk (below_step (by repeat (first | (with_reducible first | exact HB.out | apply below_alloc | apply pw_below_drewN | apply below_drew1 | refine below_set ?_ GE140.out) | exact HB.out)) hb)
           have n2_ := Aside0.mk (hbox)
           have n3_ := Aside0.mk ((by rw [hg]; exact (below_size (by repeat (first | (with_reducible first | exact HB.out | apply below_alloc | apply pw_below_drewN | apply below_drew1 | refine below_set ?_ GE140.out) | exact HB.out))) : w.heap.size ≤ gb148))
           have n4_ := Aside0.mk ((by rw [hg]; exact (below_size (by repeat (first | (with_reducible first | exact HB.out | apply below_alloc | apply pw_below_drewN | apply below_drew1 | refine below_set ?_ GE140.out) | exact HB.out))) : w.heap.size ≤ gb148))
           have n5_ := Aside0.mk ((by rw [hg]; exact Nat.ne_of_lt (blk_lt (g := w.heap.size) (o := .cells #[.int .i64 0, .int .i64 0, .int .i64 0, .int .i64 0, .int .i64 0, .int .i64 0, .int .i64 0] 23 (0, 0)) (by (with_reducible repeat (first | refine blk_drewN ?_ _ | refine blk_drew ?_ | refine blk_alloc ?_ _)); exact BK140.out)) : w.heap.size ≠ gb148))
           have n6_ := Aside0.mk ((by rw [hg]; exact Nat.ne_of_gt (blk_lt (g := w.heap.size) (o := .cells #[.int .i64 0, .int .i64 0, .int .i64 0, .int .i64 0, .int .i64 0, .int .i64 0, .int .i64 0] 23 (0, 0)) (by (with_reducible repeat (first | refine blk_drewN ?_ _ | refine blk_drew ?_ | refine blk_alloc ?_ _)); exact BK140.out)) : gb148 ≠ w.heap.size))
           clear BK140
           clear HB
           have BK140 := n0_
           have HB := n1_
           have BK148 := n2_
           have GW148 := n3_
           have GE148 := n4_
           have NB140_148 := n5_
           have NB148_140 := n6_
           clear n0_ n1_ n2_ n3_ n4_ n5_ n6_
           clear hb hbox hg
           refine hK.out _ _ trivial (fun hHeld => ?_)
           clear hK K
           refine norm_ (a' := ?_) ?_ ?_
           rotate_left
           ·show Act.put _ (some 5) _ = _
            simp only [Act.put, List.setIfInBounds_toArray, List.set_cons_zero, List.set_cons_succ, i64_w, i32_w]
            rfl
           exact norm_ (by first | (simp only [putAll, Act.put, List.setIfInBounds_toArray, List.set_cons_zero, List.set_cons_succ]; done) | (simp only [putAll, Act.put, List.setIfInBounds_toArray, List.set_cons_zero, List.set_cons_succ]; rfl)) (hJ2_5_8_11_14_22 (gb148) _ ⟨(by (with_reducible repeat (first | refine blk_drewN ?_ _ | refine blk_drew ?_ | refine blk_alloc ?_ _)); exact BK140.out), (by (with_reducible repeat (first | refine blk_drewN ?_ _ | refine blk_drew ?_ | refine blk_alloc ?_ _)); exact BK148.out), GW148.out, GE148.out, NB140_148.out, NB148_140.out, (by repeat (first | (with_reducible first | exact HB.out | apply below_alloc | apply pw_below_drewN | apply below_drew1 | refine below_set ?_ GE140.out | refine below_set ?_ GE148.out) | exact HB.out))⟩)
        ·skip
         rintro gb148 w66 ⟨h0_, h1_, h2_, h3_, h4_, h5_, h6_⟩
         have n0_ : Aside0 (w66.heap[w.heap.size]? = some (.cells #[.int .i64 0, .int .i64 0, .int .i64 0, .int .i64 0, .int .i64 0, .int .i64 0, .int .i64 0] 23 (0, 0))) := ⟨h0_⟩
         have n1_ : Aside0 (w66.heap[gb148]? = some (.cells #[.int .i64 0, .int .i64 0, .int .i64 0, .int .i64 0, .int .i64 0, .int .i64 0, .int .i64 0] 23 (0, 0))) := ⟨h1_⟩
         have n2_ : Aside0 (w.heap.size ≤ gb148) := ⟨h2_⟩
         have n3_ : Aside0 (w.heap.size ≤ gb148) := ⟨h3_⟩
         have n4_ : Aside0 (w.heap.size ≠ gb148) := ⟨h4_⟩
         have n5_ : Aside0 (gb148 ≠ w.heap.size) := ⟨h5_⟩
         have n6_ : Aside0 (Below w.heap.size w w66) := ⟨h6_⟩
         clear BK140
         clear HB
         clear h0_ h1_ h2_ h3_ h4_ h5_ h6_
         have BK140 := n0_
         have BK148 := n1_
         have GW148 := n2_
         have GE148 := n3_
         have NB140_148 := n4_
         have NB148_140 := n5_
         have HB := n6_
         clear n0_ n1_ n2_ n3_ n4_ n5_ n6_
         have hHeld := trivial
         refine norm_ (a' := ?_) ?_ ?_
         rotate_left
         ·simp only [putAll, Act.put, List.setIfInBounds_toArray, List.set_cons_zero, List.set_cons_succ]
          rfl
         refine one_ (i := 17) (N := some 62) #[true, true, true, true, true, true, true, true, true, true, true, true, true, true, true, true, true, true, true, true, false, false, true, false] rfl rfl (one_of HT_.out (by kernel_rfl)) (by decide) (fun K hK => ?_)
         refine goes_ Try.func33 (by kernel_rfl) rfl #[.string (s.extract 17 19)] (by rfl) rfl rfl (by (try simp only [List.map_toArray, List.map_cons, List.map_nil]); first | done | rfl | (simp only [List.length_drop, List.length_take]; rfl)) ?_
         with_reducible refine (timesyncref05_number.calls 11 (s.extract 17 19) t146 _ A43.out).mono ?_
         rintro e w' ⟨rfl, ⟨nd, rfl⟩⟩
         refine ⟨_, rfl, ?_⟩
         refine hK.out _ _ trivial (fun hHeld => ?_)
         clear hK K
         refine norm_ (a' := ?_) ?_ ?_
         rotate_left
         ·show Act.put _ (some 62) _ = _
          simp only [Act.put, List.setIfInBounds_toArray, List.set_cons_zero, List.set_cons_succ, i64_w, i32_w]
          rfl
         exact norm_ (by first | (simp only [putAll, Act.put, List.setIfInBounds_toArray, List.set_cons_zero, List.set_cons_succ]; done) | (simp only [putAll, Act.put, List.setIfInBounds_toArray, List.set_cons_zero, List.set_cons_succ]; rfl)) (hJ2_5_8_11_14_17_22 (gb148) _ ⟨(by (with_reducible repeat (first | refine blk_drewN ?_ _ | refine blk_drew ?_ | refine blk_alloc ?_ _)); exact BK140.out), (by (with_reducible repeat (first | refine blk_drewN ?_ _ | refine blk_drew ?_ | refine blk_alloc ?_ _)); exact BK148.out), GW148.out, GE148.out, NB140_148.out, NB148_140.out, (by repeat (first | (with_reducible first | exact HB.out | apply below_alloc | apply pw_below_drewN | apply below_drew1 | refine below_set ?_ GE140.out | refine below_set ?_ GE148.out) | exact HB.out))⟩)
       ·skip
        rintro _ w65 ⟨h0_, h1_⟩
        have n0_ : Aside0 (w65.heap[w.heap.size]? = some (.cells #[.int .i64 0, .int .i64 0, .int .i64 0, .int .i64 0, .int .i64 0, .int .i64 0, .int .i64 0] 23 (0, 0))) := ⟨h0_⟩
        have n1_ : Aside0 (Below w.heap.size w w65) := ⟨h1_⟩
        clear BK140
        clear HB
        clear h0_ h1_
        have BK140 := n0_
        have HB := n1_
        clear n0_ n1_
        have hHeld := trivial
        refine norm_ (a' := ?_) ?_ ?_
        rotate_left
        ·simp only [putAll, Act.put, List.setIfInBounds_toArray, List.set_cons_zero, List.set_cons_succ]
         rfl
        refine two_ (i := 20) (j := 22) (Ni := some 65) (Nj := some 5) #[true, true, true, true, true, true, true, true, true, true, true, true, true, true, true, true, true, true, true, true, true, false, false, false] #[true, true, true, true, true, true, true, true, true, true, true, true, true, true, true, true, true, true, true, true, false, false, true, false] rfl rfl rfl rfl (two_of HT_.out (by kernel_rfl)) (by decide) (by decide) (fun K hK => ?_) (fun K hK => ?_)
        ·skip
         refine goes_ Try.func33 (by kernel_rfl) rfl #[.string (s.extract 20 29)] (by rfl) rfl rfl (by (try simp only [List.map_toArray, List.map_cons, List.map_nil]); first | done | rfl | (simp only [List.length_drop, List.length_take]; rfl)) ?_
         with_reducible refine (timesyncref05_number.calls 11 (s.extract 20 29) t147 _ A46.out).mono ?_
         rintro e w' ⟨rfl, ⟨nd, rfl⟩⟩
         refine ⟨_, rfl, ?_⟩
         refine hK.out _ _ trivial (fun hHeld => ?_)
         clear hK K
         refine norm_ (a' := ?_) ?_ ?_
         rotate_left
         ·show Act.put _ (some 65) _ = _
          simp only [Act.put, List.setIfInBounds_toArray, List.set_cons_zero, List.set_cons_succ, i64_w, i32_w]
          rfl
         refine pure_ (i := 21) (N := some 66) (v := ?_) (a' := ?_) #[true, true, true, true, true, true, true, true, true, true, true, true, true, true, true, true, true, true, true, true, true, true, false, false] rfl rfl (any_of HT_.out (by kernel_rfl)) (fun _ _ _ h => h) (Or.inl ⟨by rfl, ?_⟩) ?_ ?_
         rotate_left
         ·intro w'
          go_simp
          with_reducible rfl
         rotate_left
         ·simp only [Act.put, List.setIfInBounds_toArray, List.set_cons_zero, List.set_cons_succ, i64_w, i32_w]
          rfl
         exact norm_ (by first | (simp only [putAll, Act.put, List.setIfInBounds_toArray, List.set_cons_zero, List.set_cons_succ]; done) | (simp only [putAll, Act.put, List.setIfInBounds_toArray, List.set_cons_zero, List.set_cons_succ]; rfl)) (hJ2_5_8_11_14_17_20 () _ ⟨(by (with_reducible repeat (first | refine blk_drewN ?_ _ | refine blk_drew ?_ | refine blk_alloc ?_ _)); exact BK140.out), (by repeat (first | (with_reducible first | exact HB.out | apply below_alloc | apply pw_below_drewN | apply below_drew1 | refine below_set ?_ GE140.out) | exact HB.out))⟩)
        ·skip
         refine box_step ?hg (N := 5) ?hd (cs := #[.int .i64 0, .int .i64 0, .int .i64 0, .int .i64 0, .int .i64 0, .int .i64 0, .int .i64 0]) (t := 23) ?hr ?_; (case hd => rfl); (case hg => rfl); (case hr => first | (go_simp; done) | (go_simp; rfl))
         intro gb148 hg w66 hbox hb
         have n0_ := Aside0.mk (blk_below (g := w.heap.size) (o := .cells #[.int .i64 0, .int .i64 0, .int .i64 0, .int .i64 0, .int .i64 0, .int .i64 0, .int .i64 0] 23 (0, 0)) (by (with_reducible repeat (first | refine blk_drewN ?_ _ | refine blk_drew ?_ | refine blk_alloc ?_ _)); exact BK140.out) hb)
         have n1_ := Aside0.mk (below_step (by repeat (first | (with_reducible first | exact HB.out | apply below_alloc | apply pw_below_drewN | apply below_drew1 | refine below_set ?_ GE140.out) | exact HB.out)) hb)
         have n2_ := Aside0.mk (hbox)
         have n3_ := Aside0.mk ((by rw [hg]; exact (below_size (by repeat (first | (with_reducible first | exact HB.out | apply below_alloc | apply pw_below_drewN | apply below_drew1 | refine below_set ?_ GE140.out) | exact HB.out))) : w.heap.size ≤ gb148))
         have n4_ := Aside0.mk ((by rw [hg]; exact (below_size (by repeat (first | (with_reducible first | exact HB.out | apply below_alloc | apply pw_below_drewN | apply below_drew1 | refine below_set ?_ GE140.out) | exact HB.out))) : w.heap.size ≤ gb148))
         have n5_ := Aside0.mk ((by rw [hg]; exact Nat.ne_of_lt (blk_lt (g := w.heap.size) (o := .cells #[.int .i64 0, .int .i64 0, .int .i64 0, .int .i64 0, .int .i64 0, .int .i64 0, .int .i64 0] 23 (0, 0)) (by (with_reducible repeat (first | refine blk_drewN ?_ _ | refine blk_drew ?_ | refine blk_alloc ?_ _)); exact BK140.out)) : w.heap.size ≠ gb148))
         have n6_ := Aside0.mk ((by rw [hg]; exact Nat.ne_of_gt (blk_lt (g := w.heap.size) (o := .cells #[.int .i64 0, .int .i64 0, .int .i64 0, .int .i64 0, .int .i64 0, .int .i64 0, .int .i64 0] 23 (0, 0)) (by (with_reducible repeat (first | refine blk_drewN ?_ _ | refine blk_drew ?_ | refine blk_alloc ?_ _)); exact BK140.out)) : gb148 ≠ w.heap.size))
         clear BK140
         clear HB
         have BK140 := n0_
         have HB := n1_
         have BK148 := n2_
         have GW148 := n3_
         have GE148 := n4_
         have NB140_148 := n5_
         have NB148_140 := n6_
         clear n0_ n1_ n2_ n3_ n4_ n5_ n6_
         clear hb hbox hg
         refine hK.out _ _ trivial (fun hHeld => ?_)
         clear hK K
         refine norm_ (a' := ?_) ?_ ?_
         rotate_left
         ·show Act.put _ (some 5) _ = _
          simp only [Act.put, List.setIfInBounds_toArray, List.set_cons_zero, List.set_cons_succ, i64_w, i32_w]
          rfl
         exact norm_ (by first | (simp only [putAll, Act.put, List.setIfInBounds_toArray, List.set_cons_zero, List.set_cons_succ]; done) | (simp only [putAll, Act.put, List.setIfInBounds_toArray, List.set_cons_zero, List.set_cons_succ]; rfl)) (hJ2_5_8_11_14_17_22 (gb148) _ ⟨(by (with_reducible repeat (first | refine blk_drewN ?_ _ | refine blk_drew ?_ | refine blk_alloc ?_ _)); exact BK140.out), (by (with_reducible repeat (first | refine blk_drewN ?_ _ | refine blk_drew ?_ | refine blk_alloc ?_ _)); exact BK148.out), GW148.out, GE148.out, NB140_148.out, NB148_140.out, (by repeat (first | (with_reducible first | exact HB.out | apply below_alloc | apply pw_below_drewN | apply below_drew1 | refine below_set ?_ GE140.out | refine below_set ?_ GE148.out) | exact HB.out))⟩)
      ·skip
       rintro gb148 w66 ⟨h0_, h1_, h2_, h3_, h4_, h5_, h6_⟩
       have n0_ : Aside0 (w66.heap[w.heap.size]? = some (.cells #[.int .i64 0, .int .i64 0, .int .i64 0, .int .i64 0, .int .i64 0, .int .i64 0, .int .i64 0] 23 (0, 0))) := ⟨h0_⟩
       have n1_ : Aside0 (w66.heap[gb148]? = some (.cells #[.int .i64 0, .int .i64 0, .int .i64 0, .int .i64 0, .int .i64 0, .int .i64 0, .int .i64 0] 23 (0, 0))) := ⟨h1_⟩
       have n2_ : Aside0 (w.heap.size ≤ gb148) := ⟨h2_⟩
       have n3_ : Aside0 (w.heap.size ≤ gb148) := ⟨h3_⟩
       have n4_ : Aside0 (w.heap.size ≠ gb148) := ⟨h4_⟩
       have n5_ : Aside0 (gb148 ≠ w.heap.size) := ⟨h5_⟩
       have n6_ : Aside0 (Below w.heap.size w w66) := ⟨h6_⟩
       clear BK140
       clear HB
       clear h0_ h1_ h2_ h3_ h4_ h5_ h6_
       have BK140 := n0_
       have BK148 := n1_
       have GW148 := n2_
       have GE148 := n3_
       have NB140_148 := n4_
       have NB148_140 := n5_
       have HB := n6_
       clear n0_ n1_ n2_ n3_ n4_ n5_ n6_
       have hHeld := trivial
       refine norm_ (a' := ?_) ?_ ?_
       rotate_left
       ·simp only [putAll, Act.put, List.setIfInBounds_toArray, List.set_cons_zero, List.set_cons_succ]
        rfl
       refine one_ (i := 20) (N := some 65) #[true, true, true, true, true, true, true, true, true, true, true, true, true, true, true, true, true, true, true, true, true, false, true, false] rfl rfl (one_of HT_.out (by kernel_rfl)) (by decide) (fun K hK => ?_)
       refine goes_ Try.func33 (by kernel_rfl) rfl #[.string (s.extract 20 29)] (by rfl) rfl rfl (by (try simp only [List.map_toArray, List.map_cons, List.map_nil]); first | done | rfl | (simp only [List.length_drop, List.length_take]; rfl)) ?_
       with_reducible refine (timesyncref05_number.calls 11 (s.extract 20 29) t147 _ A46.out).mono ?_
       rintro e w' ⟨rfl, ⟨nd, rfl⟩⟩
       refine ⟨_, rfl, ?_⟩
       refine hK.out _ _ trivial (fun hHeld => ?_)
       clear hK K
       refine norm_ (a' := ?_) ?_ ?_
       rotate_left
       ·show Act.put _ (some 65) _ = _
        simp only [Act.put, List.setIfInBounds_toArray, List.set_cons_zero, List.set_cons_succ, i64_w, i32_w]
        rfl
       refine pure_ (i := 21) (N := some 66) (v := ?_) (a' := ?_) #[true, true, true, true, true, true, true, true, true, true, true, true, true, true, true, true, true, true, true, true, true, true, true, false] rfl rfl (any_of HT_.out (by kernel_rfl)) (fun _ _ _ h => h) (Or.inl ⟨by rfl, ?_⟩) ?_ ?_
       rotate_left
       ·intro w'
        go_simp
        with_reducible rfl
       rotate_left
       ·simp only [Act.put, List.setIfInBounds_toArray, List.set_cons_zero, List.set_cons_succ, i64_w, i32_w]
        rfl
       exact norm_ (by first | (simp only [putAll, Act.put, List.setIfInBounds_toArray, List.set_cons_zero, List.set_cons_succ]; done) | (simp only [putAll, Act.put, List.setIfInBounds_toArray, List.set_cons_zero, List.set_cons_succ]; rfl)) (hJ2_5_8_11_14_17_20_22 (gb148) _ ⟨(by (with_reducible repeat (first | refine blk_drewN ?_ _ | refine blk_drew ?_ | refine blk_alloc ?_ _)); exact BK140.out), (by (with_reducible repeat (first | refine blk_drewN ?_ _ | refine blk_drew ?_ | refine blk_alloc ?_ _)); exact BK148.out), GW148.out, GE148.out, NB140_148.out, NB148_140.out, (by repeat (first | (with_reducible first | exact HB.out | apply below_alloc | apply pw_below_drewN | apply below_drew1 | refine below_set ?_ GE140.out | refine below_set ?_ GE148.out) | exact HB.out))⟩)
     ·skip
      rintro _ w65 ⟨h0_, h1_⟩
      have n0_ : Aside0 (w65.heap[w.heap.size]? = some (.cells #[.int .i64 0, .int .i64 0, .int .i64 0, .int .i64 0, .int .i64 0, .int .i64 0, .int .i64 0] 23 (0, 0))) := ⟨h0_⟩
      have n1_ : Aside0 (Below w.heap.size w w65) := ⟨h1_⟩
      clear BK140
      clear HB
      clear h0_ h1_
      have BK140 := n0_
      have HB := n1_
      clear n0_ n1_
      have hHeld := trivial
      refine norm_ (a' := ?_) ?_ ?_
      rotate_left
      ·simp only [putAll, Act.put, List.setIfInBounds_toArray, List.set_cons_zero, List.set_cons_succ]
       rfl
      refine one_ (i := 22) (N := some 5) #[true, true, true, true, true, true, true, true, true, true, true, true, true, true, true, true, true, true, true, true, true, true, true, false] rfl rfl (one_of HT_.out (by kernel_rfl)) (by decide) (fun K hK => ?_)
      refine box_step ?hg (N := 5) ?hd (cs := #[.int .i64 0, .int .i64 0, .int .i64 0, .int .i64 0, .int .i64 0, .int .i64 0, .int .i64 0]) (t := 23) ?hr ?_; (case hd => rfl); (case hg => rfl); (case hr => first | (go_simp; done) | (go_simp; rfl))
      intro gb148 hg w66 hbox hb
      have n0_ := Aside0.mk (blk_below (g := w.heap.size) (o := .cells #[.int .i64 0, .int .i64 0, .int .i64 0, .int .i64 0, .int .i64 0, .int .i64 0, .int .i64 0] 23 (0, 0)) (by (with_reducible repeat (first | refine blk_drewN ?_ _ | refine blk_drew ?_ | refine blk_alloc ?_ _)); exact BK140.out) hb)
      have n1_ := Aside0.mk (below_step (by repeat (first | (with_reducible first | exact HB.out | apply below_alloc | apply pw_below_drewN | apply below_drew1 | refine below_set ?_ GE140.out) | exact HB.out)) hb)
      have n2_ := Aside0.mk (hbox)
      have n3_ := Aside0.mk ((by rw [hg]; exact (below_size (by repeat (first | (with_reducible first | exact HB.out | apply below_alloc | apply pw_below_drewN | apply below_drew1 | refine below_set ?_ GE140.out) | exact HB.out))) : w.heap.size ≤ gb148))
      have n4_ := Aside0.mk ((by rw [hg]; exact (below_size (by repeat (first | (with_reducible first | exact HB.out | apply below_alloc | apply pw_below_drewN | apply below_drew1 | refine below_set ?_ GE140.out) | exact HB.out))) : w.heap.size ≤ gb148))
      have n5_ := Aside0.mk ((by rw [hg]; exact Nat.ne_of_lt (blk_lt (g := w.heap.size) (o := .cells #[.int .i64 0, .int .i64 0, .int .i64 0, .int .i64 0, .int .i64 0, .int .i64 0, .int .i64 0] 23 (0, 0)) (by (with_reducible repeat (first | refine blk_drewN ?_ _ | refine blk_drew ?_ | refine blk_alloc ?_ _)); exact BK140.out)) : w.heap.size ≠ gb148))
      have n6_ := Aside0.mk ((by rw [hg]; exact Nat.ne_of_gt (blk_lt (g := w.heap.size) (o := .cells #[.int .i64 0, .int .i64 0, .int .i64 0, .int .i64 0, .int .i64 0, .int .i64 0, .int .i64 0] 23 (0, 0)) (by (with_reducible repeat (first | refine blk_drewN ?_ _ | refine blk_drew ?_ | refine blk_alloc ?_ _)); exact BK140.out)) : gb148 ≠ w.heap.size))
      clear BK140
      clear HB
      have BK140 := n0_
      have HB := n1_
      have BK148 := n2_
      have GW148 := n3_
      have GE148 := n4_
      have NB140_148 := n5_
      have NB148_140 := n6_
      clear n0_ n1_ n2_ n3_ n4_ n5_ n6_
      clear hb hbox hg
      refine hK.out _ _ trivial (fun hHeld => ?_)
      clear hK K
      refine norm_ (a' := ?_) ?_ ?_
      rotate_left
      ·show Act.put _ (some 5) _ = _
       simp only [Act.put, List.setIfInBounds_toArray, List.set_cons_zero, List.set_cons_succ, i64_w, i32_w]
       rfl
      exact norm_ (by first | (simp only [putAll, Act.put, List.setIfInBounds_toArray, List.set_cons_zero, List.set_cons_succ]; done) | (simp only [putAll, Act.put, List.setIfInBounds_toArray, List.set_cons_zero, List.set_cons_succ]; rfl)) (hJ2_5_8_11_14_17_20_22 (gb148) _ ⟨(by (with_reducible repeat (first | refine blk_drewN ?_ _ | refine blk_drew ?_ | refine blk_alloc ?_ _)); exact BK140.out), (by (with_reducible repeat (first | refine blk_drewN ?_ _ | refine blk_drew ?_ | refine blk_alloc ?_ _)); exact BK148.out), GW148.out, GE148.out, NB140_148.out, NB148_140.out, (by repeat (first | (with_reducible first | exact HB.out | apply below_alloc | apply pw_below_drewN | apply below_drew1 | refine below_set ?_ GE140.out | refine below_set ?_ GE148.out) | exact HB.out))⟩)
    rintro gb148 w66 ⟨h0_, h1_, h2_, h3_, h4_, h5_, h6_⟩
    have n0_ : Aside0 (w66.heap[w.heap.size]? = some (.cells #[.int .i64 0, .int .i64 0, .int .i64 0, .int .i64 0, .int .i64 0, .int .i64 0, .int .i64 0] 23 (0, 0))) := ⟨h0_⟩
    have n1_ : Aside0 (w66.heap[gb148]? = some (.cells #[.int .i64 0, .int .i64 0, .int .i64 0, .int .i64 0, .int .i64 0, .int .i64 0, .int .i64 0] 23 (0, 0))) := ⟨h1_⟩
    have n2_ : Aside0 (w.heap.size ≤ gb148) := ⟨h2_⟩
    have n3_ : Aside0 (w.heap.size ≤ gb148) := ⟨h3_⟩
    have n4_ : Aside0 (w.heap.size ≠ gb148) := ⟨h4_⟩
    have n5_ : Aside0 (gb148 ≠ w.heap.size) := ⟨h5_⟩
    have n6_ : Aside0 (Below w.heap.size w w66) := ⟨h6_⟩
    clear BK140
    clear HB
    clear h0_ h1_ h2_ h3_ h4_ h5_ h6_
    have BK140 := n0_
    have BK148 := n1_
    have GW148 := n2_
    have GE148 := n3_
    have NB140_148 := n4_
    have NB148_140 := n5_
    have HB := n6_
    clear n0_ n1_ n2_ n3_ n4_ n5_ n6_
    have hHeld := trivial
    refine norm_ (a' := ?_) ?_ ?_
    rotate_left
    ·simp only [putAll, Act.put, List.setIfInBounds_toArray, List.set_cons_zero, List.set_cons_succ]
     rfl
    refine one_ (i := 23) (N := none) #[true, true, true, true, true, true, true, true, true, true, true, true, true, true, true, true, true, true, true, true, true, true, true, true] rfl rfl (one_of HT_.out (by kernel_rfl)) (by decide) (fun K hK => ?_)
    have hs67 : w66.cell? ⟨gb148, 0, none⟩ = some (.int .i64 0) := (blk_cell BK148.out 0).trans rfl
    have hfs67 := blk_frozen BK148.out 0
    have hns67_0 := NB140_148.out
    have hms67_0 := NB148_140.out
    have hs68 : w66.cell? ⟨gb148, 1, none⟩ = some (.int .i64 0) := (blk_cell BK148.out 1).trans rfl
    have hfs68 := blk_frozen BK148.out 1
    have hns68_0 := NB140_148.out
    have hms68_0 := NB148_140.out
    have hs69 : w66.cell? ⟨gb148, 2, none⟩ = some (.int .i64 0) := (blk_cell BK148.out 2).trans rfl
    have hfs69 := blk_frozen BK148.out 2
    have hns69_0 := NB140_148.out
    have hms69_0 := NB148_140.out
    have hs70 : w66.cell? ⟨gb148, 3, none⟩ = some (.int .i64 0) := (blk_cell BK148.out 3).trans rfl
    have hfs70 := blk_frozen BK148.out 3
    have hns70_0 := NB140_148.out
    have hms70_0 := NB148_140.out
    have hs71 : w66.cell? ⟨gb148, 4, none⟩ = some (.int .i64 0) := (blk_cell BK148.out 4).trans rfl
    have hfs71 := blk_frozen BK148.out 4
    have hns71_0 := NB140_148.out
    have hms71_0 := NB148_140.out
    have hs72 : w66.cell? ⟨gb148, 5, none⟩ = some (.int .i64 0) := (blk_cell BK148.out 5).trans rfl
    have hfs72 := blk_frozen BK148.out 5
    have hns72_0 := NB140_148.out
    have hms72_0 := NB148_140.out
    have hs73 : w66.cell? ⟨gb148, 6, none⟩ = some (.int .i64 0) := (blk_cell BK148.out 6).trans rfl
    have hfs73 := blk_frozen BK148.out 6
    have hns73_0 := NB140_148.out
    have hms73_0 := NB148_140.out
    refine skip_ (w1 := ?_) (by rfl) rfl ?_ ?_
    rotate_left
    ·go_simp
     rfl
    refine hK.out _ _ trivial (fun hHeld => ?_)
    clear hK K
    refine done_ (done_of HT_.out (by kernel_rfl)) ?_
    have hnb74 := NB148_140.out
    have hnc74 := NB140_148.out
    have hcz75_0 : w66.cell? ⟨gb148, 0, none⟩ = some (.int .i64 0) := (blk_cell BK148.out 0).trans rfl
    have hcz75_1 : w66.cell? ⟨gb148, 1, none⟩ = some (.int .i64 0) := (blk_cell BK148.out 1).trans rfl
    have hcz75_2 : w66.cell? ⟨gb148, 2, none⟩ = some (.int .i64 0) := (blk_cell BK148.out 2).trans rfl
    have hcz75_3 : w66.cell? ⟨gb148, 3, none⟩ = some (.int .i64 0) := (blk_cell BK148.out 3).trans rfl
    have hcz75_4 : w66.cell? ⟨gb148, 4, none⟩ = some (.int .i64 0) := (blk_cell BK148.out 4).trans rfl
    have hcz75_5 : w66.cell? ⟨gb148, 5, none⟩ = some (.int .i64 0) := (blk_cell BK148.out 5).trans rfl
    have hcz75_6 : w66.cell? ⟨gb148, 6, none⟩ = some (.int .i64 0) := (blk_cell BK148.out 6).trans rfl
    have hfz75_0 := blk_frozen BK148.out 0
    have hfz75_1 := blk_frozen BK148.out 1
    have hfz75_2 := blk_frozen BK148.out 2
    have hfz75_3 := blk_frozen BK148.out 3
    have hfz75_4 := blk_frozen BK148.out 4
    have hfz75_5 := blk_frozen BK148.out 5
    have hfz75_6 := blk_frozen BK148.out 6
    have hsm := HSM.out
    clear HSM
    obtain ⟨e0, hC⟩ : ∃ e, timesyncref05_Check.f 9 t141 t142 t143 t144 t145 t146 t147 = some e := by
     cases hC : timesyncref05_Check.f 9 t141 t142 t143 t144 t145 t146 t147 with
     | none =>
      obtain ⟨r, hr⟩ := hsm
      rw [HP.out hC] at hr
      cases hr
     | some e => exact ⟨e, rfl⟩
    have hf := HFF.out e0 hC
    have HC := Aside0.mk hC
    clear hsm hC HFF HP
    have B1 := blk_put BK148.out 0 (.int .i64 t141) rfl
    have B2 := blk_put B1 1 (.int .i64 t142) rfl
    have B3 := blk_put B2 2 (.int .i64 t143) rfl
    have B4 := blk_put B3 3 (.int .i64 t144) rfl
    have B5 := blk_put B4 4 (.int .i64 t145) rfl
    have B6 := blk_put B5 5 (.int .i64 t146) rfl
    have B7 := blk_put B6 6 (.int .i64 t147) rfl
    have R7 := blk_far (blk_far (blk_far (blk_far (blk_far (blk_far (blk_far (BK140.out) (p := ⟨gb148, 0, none⟩) NB140_148.out (.int .i64 t141)) (p := ⟨gb148, 1, none⟩) NB140_148.out (.int .i64 t142)) (p := ⟨gb148, 2, none⟩) NB140_148.out (.int .i64 t143)) (p := ⟨gb148, 3, none⟩) NB140_148.out (.int .i64 t144)) (p := ⟨gb148, 4, none⟩) NB140_148.out (.int .i64 t145)) (p := ⟨gb148, 5, none⟩) NB140_148.out (.int .i64 t146)) (p := ⟨gb148, 6, none⟩) NB140_148.out (.int .i64 t147)
    have HB7 := Aside0.mk ((((((((HB.out).setCell GE148.out (p := ⟨gb148, 0, none⟩) (.int .i64 t141)).setCell GE148.out (p := ⟨gb148, 1, none⟩) (.int .i64 t142)).setCell GE148.out (p := ⟨gb148, 2, none⟩) (.int .i64 t143)).setCell GE148.out (p := ⟨gb148, 3, none⟩) (.int .i64 t144)).setCell GE148.out (p := ⟨gb148, 4, none⟩) (.int .i64 t145)).setCell GE148.out (p := ⟨gb148, 5, none⟩) (.int .i64 t146)).setCell GE148.out (p := ⟨gb148, 6, none⟩) (.int .i64 t147))
    have d0 := blk_cell B7 0
    have d1 := blk_cell B7 1
    have d2 := blk_cell B7 2
    have d3 := blk_cell B7 3
    have d4 := blk_cell B7 4
    have d5 := blk_cell B7 5
    have d6 := blk_cell B7 6
    have BC := Aside0.mk B7
    have BR := Aside0.mk R7
    clear B1 B2 B3 B4 B5 B6 B7 R7
    clear hs67 hfs67 hns67_0 hms67_0 hs68 hfs68 hns68_0 hms68_0 hs69 hfs69 hns69_0 hms69_0 hs70 hfs70 hns70_0 hms70_0 hs71 hfs71 hns71_0 hms71_0 hs72 hfs72 hns72_0 hms72_0 hs73 hfs73 hns73_0 hms73_0 hnb74 hnc74 hcz75_0 hfz75_0 hcz75_1 hfz75_1 hcz75_2 hfz75_2 hcz75_3 hfz75_3 hcz75_4 hfz75_4 hcz75_5 hfz75_5 hcz75_6 hfz75_6
    by_cases c0 : e0 = 0
    ·subst c0
     have HZ := Aside0.mk (show timesyncref05_Parse.f s = some (t141, t142, t143, t144, t145, t146, t147, 0) from by rw [hf, if_pos rfl])
     clear hf
     go_wp2_with fail
     refine (timesyncref05_Check.calls 9 t141 t142 t143 t144 t145 t146 t147 0 _ HC.out).mono ?_
     rintro e w2 ⟨rfl, hb2⟩
     have HB8 := Aside0.mk (below_step HB7.out hb2)
     have C2 := Aside0.mk (blk_below BC.out hb2)
     have R2 := Aside0.mk (blk_below BR.out hb2)
     clear hb2 d0 d1 d2 d3 d4 d5 d6
     have k0 := blk_cell R2.out 0
     have f0 := blk_frozen R2.out 0
     have d0 := blk_cell C2.out 0
     have k1 := blk_cell R2.out 1
     have f1 := blk_frozen R2.out 1
     have d1 := blk_cell C2.out 1
     have k2 := blk_cell R2.out 2
     have f2 := blk_frozen R2.out 2
     have d2 := blk_cell C2.out 2
     have k3 := blk_cell R2.out 3
     have f3 := blk_frozen R2.out 3
     have d3 := blk_cell C2.out 3
     have k4 := blk_cell R2.out 4
     have f4 := blk_frozen R2.out 4
     have d4 := blk_cell C2.out 4
     have k5 := blk_cell R2.out 5
     have f5 := blk_frozen R2.out 5
     have d5 := blk_cell C2.out 5
     have k6 := blk_cell R2.out 6
     have f6 := blk_frozen R2.out 6
     have d6 := blk_cell C2.out 6
     go_wp2
     refine bodyPost_ret (v := .tuple #[.agg #[.int .i64 t141, .int .i64 t142, .int .i64 t143, .int .i64 t144, .int .i64 t145, .int .i64 t146, .int .i64 t147], .int .i64 0]) (by simp [results, Try.results15, go_sem, k0, k1, k2, k3, k4, k5, k6]) rfl ?_
     exact timesyncref05_Parse.post t141 t142 t143 t144 t145 t146 t147 0 HZ.out rfl (timesyncref05_Parse.below7 HB8.out _ _ _ _ _ _ _)
    ·have HZ := Aside0.mk (show timesyncref05_Parse.f s = some (0, 0, 0, 0, 0, 0, 0, 3) from by rw [hf, if_neg c0])
     have hq : (e0 != 0) = true := by simpa using c0
     have hq2 : (e0 == 0) = false := by simpa using c0
     clear hf
     go_wp2_with fail
     refine (timesyncref05_Check.calls 9 t141 t142 t143 t144 t145 t146 t147 e0 _ HC.out).mono ?_
     rintro e w2 ⟨rfl, hb2⟩
     have HB8 := Aside0.mk (below_step HB7.out hb2)
     have C2 := Aside0.mk (blk_below BC.out hb2)
     have R2 := Aside0.mk (blk_below BR.out hb2)
     clear hb2 d0 d1 d2 d3 d4 d5 d6
     have k0 := blk_cell R2.out 0
     have f0 := blk_frozen R2.out 0
     have d0 := blk_cell C2.out 0
     have k1 := blk_cell R2.out 1
     have f1 := blk_frozen R2.out 1
     have d1 := blk_cell C2.out 1
     have k2 := blk_cell R2.out 2
     have f2 := blk_frozen R2.out 2
     have d2 := blk_cell C2.out 2
     have k3 := blk_cell R2.out 3
     have f3 := blk_frozen R2.out 3
     have d3 := blk_cell C2.out 3
     have k4 := blk_cell R2.out 4
     have f4 := blk_frozen R2.out 4
     have d4 := blk_cell C2.out 4
     have k5 := blk_cell R2.out 5
     have f5 := blk_frozen R2.out 5
     have d5 := blk_cell C2.out 5
     have k6 := blk_cell R2.out 6
     have f6 := blk_frozen R2.out 6
     have d6 := blk_cell C2.out 6
     go_wp2
     refine bodyPost_ret (v := .tuple #[.agg #[.int .i64 0, .int .i64 0, .int .i64 0, .int .i64 0, .int .i64 0, .int .i64 0, .int .i64 0], .int .i64 3]) (by simp [results, Try.results15, go_sem, k0, k1, k2, k3, k4, k5, k6]) rfl ?_
     exact timesyncref05_Parse.post 0 0 0 0 0 0 0 3 HZ.out rfl (timesyncref05_Parse.below7 HB8.out _ _ _ _ _ _ _)
 ·have hn : ((s.size : Int) != 30) = true := by rw [bne_iff_ne]; omega
  have HZ := Aside0.mk (show timesyncref05_Parse.f s = some (0, 0, 0, 0, 0, 0, 0, 19) from by unfold timesyncref05_Parse.f; rw [if_pos hsz])
  clear hsz
  go_enter Try.func15, Try.ntmps15
  go_wp2
  refine bodyPost_ret (v := .tuple #[.agg #[.int .i64 0, .int .i64 0, .int .i64 0, .int .i64 0, .int .i64 0, .int .i64 0, .int .i64 0], .int .i64 19]) (by simp [results, Try.results15, go_sem]) rfl ?_
  exact timesyncref05_Parse.post 0 0 0 0 0 0 0 19 HZ.out rfl (below_alloc (Below.refl _ _) _)
theorem timesyncref05_Parse.calls (a0 : ByteArray) (r1 : Int) (r2 : Int) (r3 : Int) (r4 : Int) (r5 : Int) (r6 : Int) (r7 : Int) (r8 : Int) (w : World) (h : timesyncref05_Parse.f a0 = some (r1, r2, r3, r4, r5, r6, r7, r8)) :
  Calls Try.prog 15 #[.string a0] w fun e w' => e = .returned (.tuple #[.agg #[.int .i64 r1, .int .i64 r2, .int .i64 r3, .int .i64 r4, .int .i64 r5, .int .i64 r6, .int .i64 r7], .int .i64 r8]) ∧ Below w.heap.size w w' :=
 (timesyncref05_Parse.walk a0 w ⟨_, h⟩).mono fun _ _ hp => hp _ _ _ _ _ _ _ _ h

end Go.Proofs.Ytpchlfjfambgoaa.All
