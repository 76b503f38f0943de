/- What the Go functions named below answer, each as a plain Lean function, and that its call comes to just that answer. No condition. Written by a program of this session (wip/myprint.py), which runs the kit's print with changes of its own. -/
import Derived.Test.YtpchlfjfambgoaaAll0
import Derived.Test.YtpchlfjfambgoaaAll1
import Derived.Test.YtpchlfjfambgoaaAll2
import Derived.Test.YtpchlfjfambgoaaAll4
namespace Go.Proofs.Ytpchlfjfambgoaa.All
open Go.RowKit Go.Proofs.YtpchlfjfambgoaaW.PrintWords Go.Proofs.YtpchlfjfambgoaaW.PrintLast Go.Proofs.YtpchlfjfambgoaaW.PrintMore
attribute [local go_sem] max2_int min2_int max_two min_two max_three min_three max_four min_four   -- for this text's walks alone
set_option linter.unusedVariables false
set_option linter.unusedSimpArgs false

attribute [local go_sem high] eqA23
/-! ### civil_Parse: function 14 (typed by hand) -/
def civil_Parse.P10 : Nat → Int
 | 0 => 1
 | k + 1 => 10 * civil_Parse.P10 k
def civil_Parse.form : ByteArray := ⟨#[48, 48, 48, 48, 45, 48, 48, 45, 48, 48, 84, 48, 48, 58, 48, 48, 58, 48, 48, 46, 48, 48, 48, 48, 48, 48, 48, 48, 48, 90]⟩
/-- Has byte i the form? -/
def civil_Parse.okc (s : ByteArray) (i : Nat) : Bool := if bt civil_Parse.form i = 48 then decide (48 ≤ bt s i ∧ bt s i ≤ 57) else decide (bt s i = bt civil_Parse.form i)
/-- The number in k bytes from i on. -/
def civil_Parse.fld (s : ByteArray) (i : Nat) : Nat → Int
 | 0 => 0
 | k + 1 => civil_Parse.fld s i k * 10 + (bt s ((i + k : Nat) : Int) - 48)
theorem civil_Parse.fld_bd (s : ByteArray) (i n : Nat) (h : ∀ j, j < n → 48 ≤ bt s ((i + j : Nat) : Int) ∧ bt s ((i + j : Nat) : Int) ≤ 57) (hn : n ≤ 9) : ∀ k, k ≤ n → 0 ≤ civil_Parse.fld s i k ∧ civil_Parse.fld s i k < civil_Parse.P10 k := by
 intro k
 induction k with
 | zero => intro _; exact ⟨Int.le_refl _, Int.zero_lt_one⟩
 | succ k ih =>
  intro hk
  have h1 := ih (by omega)
  have h2 := h k (by omega)
  have e : civil_Parse.fld s i (k + 1) = civil_Parse.fld s i k * 10 + (bt s ((i + k : Nat) : Int) - 48) := rfl
  have e2 : civil_Parse.P10 (k + 1) = 10 * civil_Parse.P10 k := rfl
  omega
theorem civil_Parse.P10_9 : ∀ k, k ≤ 9 → civil_Parse.P10 k ≤ 1000000000 := by
 intro k hk
 obtain rfl | rfl | rfl | rfl | rfl | rfl | rfl | rfl | rfl | rfl : k = 0 ∨ k = 1 ∨ k = 2 ∨ k = 3 ∨ k = 4 ∨ k = 5 ∨ k = 6 ∨ k = 7 ∨ k = 8 ∨ k = 9 := by omega
 all_goals decide
theorem civil_Parse.bt_nat (s : ByteArray) (k : Nat) (h : k < s.size) : ((s[k].toNat : Nat) : Int) = bt s (k : Int) := by
 unfold bt
 rw [dif_pos (show (k : Int).toNat < s.size from h)]
 rfl
set_option maxHeartbeats 800000 in
theorem civil_Parse.field (s : ByteArray) (i n : Nat) (I J : Int) (g : Nat) (w : World) (hI : I = (i : Int)) (hJ : J = (i : Int) + (n : Int)) (hc : w.cell? ⟨g, 0, none⟩ = some (.string s)) (hs : s.size = 30) (hin : i + n ≤ 30) (hn : n ≤ 9)
  (h : ∀ j, j < n → 48 ≤ bt s ((i + j : Nat) : Int) ∧ bt s ((i + j : Nat) : Int) ≤ 57) :
  Calls Try.prog 32 #[.int .i64 I, .int .i64 J, .pointer (some ⟨g, 0, none⟩)] w fun e w' => e = .returned (.int .i64 (civil_Parse.fld s i n)) ∧ w = w' := by
 subst hI
 subst hJ
 have HS := Aside0.mk hs
 have HH := Aside0.mk h
 clear hs h
 go_enter Try.func32, Try.ntmps32
 go_wp2
 go_loop [6, 7] (fun x q => ∃ k : Nat, k ≤ n ∧ q = .int .i64 ((i : Int) + (k : Int)) ∧ x = .int .i64 (civil_Parse.fld s i k)) (fun _ q => i + n - (intOf q).toNat)
 case atStart => exact ⟨0, by omega, by simp, rfl⟩
 case round =>
  obtain ⟨k, hk, rfl, rfl⟩ := hrel
  by_cases hlt : k < n
  ·have hb := HH.out k hlt
   have hf := civil_Parse.fld_bd s i n HH.out hn k hk
   have hp := civil_Parse.P10_9 k (by omega)
   have hsz : i + k < s.size := by have := HS.out; omega
   have HN := Aside0.mk (show civil_Parse.fld s i k * 10 + ((s[i + k].toNat : Int) - 48) % 256 = civil_Parse.fld s i (k + 1) from by
    have e : ((s[i + k].toNat : Nat) : Int) = bt s ((i + k : Nat) : Int) := civil_Parse.bt_nat s (i + k) hsz
    have e2 : civil_Parse.fld s i (k + 1) = civil_Parse.fld s i k * 10 + (bt s ((i + k : Nat) : Int) - 48) := rfl
    rw [e, e2]
    omega)
   have hlt2 : (i : Int) + (k : Int) < (i : Int) + (n : Int) := by omega
   clear hb
   go_wp2
   go_round
   case rel => exact ⟨k + 1, by omega, by go_num, by rw [HN.out]⟩
   case measure => simp [intOf]; omega
  ·obtain rfl : k = n := by omega
   go_wp2
   go_ret
   exact ⟨rfl, rfl⟩

def civil_Parse.ok (s : ByteArray) : Bool := (List.range 30).all (civil_Parse.okc s)
def civil_Parse.nums (s : ByteArray) : Int × Int × Int × Int × Int × Int × Int := (civil_Parse.fld s 0 4, civil_Parse.fld s 5 2, civil_Parse.fld s 8 2, civil_Parse.fld s 11 2, civil_Parse.fld s 14 2, civil_Parse.fld s 17 2, civil_Parse.fld s 20 9)
def civil_Parse.bad (s : ByteArray) : Bool := civil_Check.bad (civil_Parse.fld s 0 4) (civil_Parse.fld s 5 2) (civil_Parse.fld s 8 2) (civil_Parse.fld s 11 2) (civil_Parse.fld s 14 2) (civil_Parse.fld s 17 2) (civil_Parse.fld s 20 9)
def civil_Parse.res (s : ByteArray) : Int × Int × Int × Int × Int × Int × Int × Int :=
 if s.size ≠ 30 then (0, 0, 0, 0, 0, 0, 0, 19) else if civil_Parse.ok s = false then (0, 0, 0, 0, 0, 0, 0, 19) else if civil_Parse.bad s = true then (0, 0, 0, 0, 0, 0, 0, 3)
 else (civil_Parse.fld s 0 4, civil_Parse.fld s 5 2, civil_Parse.fld s 8 2, civil_Parse.fld s 11 2, civil_Parse.fld s 14 2, civil_Parse.fld s 17 2, civil_Parse.fld s 20 9, 0)
def civil_Parse.f (a0 : ByteArray) : Option (Int × Int × Int × Int × Int × Int × Int × Int) := some (civil_Parse.res a0)
def civil_Parse.Post (w : World) (s : ByteArray) (e : Ending) (w' : World) : Prop :=
 e = .returned (.tuple #[.agg #[.int .i64 (civil_Parse.res s).1, .int .i64 (civil_Parse.res s).2.1, .int .i64 (civil_Parse.res s).2.2.1, .int .i64 (civil_Parse.res s).2.2.2.1, .int .i64 (civil_Parse.res s).2.2.2.2.1, .int .i64 (civil_Parse.res s).2.2.2.2.2.1, .int .i64 (civil_Parse.res s).2.2.2.2.2.2.1], .int .i64 (civil_Parse.res s).2.2.2.2.2.2.2]) ∧ Below w.heap.size w w'
theorem civil_Parse.below7 {w W : World} (h : Below w.heap.size w W) (v0 v1 v2 v3 v4 v5 v6 : Value) : Below w.heap.size w (((((((W.setCell ⟨w.heap.size + 1, 0, none⟩ v0).setCell ⟨w.heap.size + 1, 1, none⟩ v1).setCell ⟨w.heap.size + 1, 2, none⟩ v2).setCell ⟨w.heap.size + 1, 3, none⟩ v3).setCell ⟨w.heap.size + 1, 4, none⟩ v4).setCell ⟨w.heap.size + 1, 5, none⟩ v5).setCell ⟨w.heap.size + 1, 6, none⟩ v6) :=
 ((((((h.setCell (Nat.le_succ _) v0).setCell (Nat.le_succ _) v1).setCell (Nat.le_succ _) v2).setCell (Nat.le_succ _) v3).setCell (Nat.le_succ _) v4).setCell (Nat.le_succ _) v5).setCell (Nat.le_succ _) v6
theorem civil_Parse.digits (s : ByteArray) (i n : Nat) (hall : ∀ j, j < 30 → civil_Parse.okc s j = true) (hf : ∀ j, j < n → bt civil_Parse.form ((i + j : Nat) : Int) = 48) (hin : i + n ≤ 30) : ∀ j, j < n → 48 ≤ bt s ((i + j : Nat) : Int) ∧ bt s ((i + j : Nat) : Int) ≤ 57 := by
 intro j hj
 have h := hall (i + j) (by omega)
 unfold civil_Parse.okc at h
 rw [if_pos (hf j hj)] at h
 exact of_decide_eq_true h
/-- The string's box and the result's. -/
structure civil_Parse.At (w0 w : World) (s : ByteArray) : Prop where
 k0 : w.heap[w0.heap.size]? = some (.cells #[.string s] 9 (0, 0))
 k1 : w.heap[w0.heap.size + 1]? = some (.cells #[.int .i64 0, .int .i64 0, .int .i64 0, .int .i64 0, .int .i64 0, .int .i64 0, .int .i64 0] 23 (0, 0))
 hb : Below w0.heap.size w0 w
 sz : w0.heap.size + 1 < w.heap.size
theorem civil_Parse.At.start (w : World) (s : ByteArray) : civil_Parse.At w ((w.alloc (.cells #[.string s] 9)).alloc (.cells #[.int .i64 0, .int .i64 0, .int .i64 0, .int .i64 0, .int .i64 0, .int .i64 0, .int .i64 0] 23)) s :=
 ⟨blk_alloc (blk_new w _) _, by have := blk_new (w.alloc (.cells #[.string s] 9)) (.cells #[.int .i64 0, .int .i64 0, .int .i64 0, .int .i64 0, .int .i64 0, .int .i64 0, .int .i64 0] 23); simpa using this, below_alloc (below_alloc (Below.refl _ _) _) _, by simp⟩
theorem civil_Parse.At.drewN {w0 w : World} {s : ByteArray} (h : civil_Parse.At w0 w s) (n : Nat) : civil_Parse.At w0 (w.drewN n) s := ⟨h.k0, h.k1, pw_below_drewN h.hb n, h.sz⟩
theorem civil_Parse.At.step {w0 w w' : World} {s : ByteArray} (h : civil_Parse.At w0 w s) (hb : Below w.heap.size w w') : civil_Parse.At w0 w' s := ⟨blk_below h.k0 hb, blk_below h.k1 hb, below_step h.hb hb, by have := h.sz; have := hb.size; omega⟩
set_option maxHeartbeats 3200000 in
set_option maxRecDepth 100000 in
theorem civil_Parse.walk (s : ByteArray) (w : World) : Calls Try.prog 14 #[.string s] w (civil_Parse.Post w s) := by
 have hu := Try.underlying23
 by_cases hsz : s.size = 30
 ·have HS := Aside0.mk hsz
  have hn : ((s.size : Int) != 30) = false := by rw [hsz]; rfl
  have hlt : (30 : Nat) ≤ s.size := by omega
  clear hsz
  go_enter Try.func14, Try.ntmps14
  go_wp2
  go_loopw [4, 5, 13] (fun _ _ q W => ∃ k : Nat, k ≤ 30 ∧ q = .int .i64 k ∧ Aside0 (∀ j, j < k → civil_Parse.okc s j = true) ∧ Aside0 (civil_Parse.At w W s)) (fun _ _ q _ => 30 - (intOf q).toNat)
  case atStart => exact ⟨0, by omega, rfl, ⟨fun j hj => absurd hj (Nat.not_lt_zero _)⟩, ⟨civil_Parse.At.start w s⟩⟩
  case round =>
   obtain ⟨k, hk, rfl, HK, HA⟩ := hrel
   by_cases hk2 : k < 30
   ·have hc := blk_cell HA.out.k0 0
    have hk3 : (k : Int) < 30 := by omega
    have hk4 : k < s.size := by omega
    have hk5 : (k : Int) < (s.size : Int) := by omega
    obtain ⟨F, hF⟩ : ∃ F : Int, (((⟨#[48, 48, 48, 48, 45, 48, 48, 45, 48, 48, 84, 48, 48, 58, 48, 48, 58, 48, 48, 46, 48, 48, 48, 48, 48, 48, 48, 48, 48, 90]⟩ : ByteArray)[k]'hk2).toNat : Int) = F := ⟨_, rfl⟩
    obtain ⟨C, hC⟩ : ∃ C : Int, ((s[k]'hk4).toNat : Int) = C := ⟨_, rfl⟩
    have HO := Aside0.mk (show civil_Parse.okc s k = (if F = 48 then decide (48 ≤ C ∧ C ≤ 57) else decide (C = F)) from by
     unfold civil_Parse.okc
     rw [← civil_Parse.bt_nat s k hk4, ← civil_Parse.bt_nat civil_Parse.form k hk2, hC, ← hF]
     rfl)
    have HR : civil_Parse.okc s k = false → Aside0 (civil_Parse.res s = (0, 0, 0, 0, 0, 0, 0, 19)) := fun h => ⟨by
     have hb : civil_Parse.ok s = false := by
      unfold civil_Parse.ok
      rw [List.all_eq_false]
      exact ⟨k, List.mem_range.2 hk2, by rw [h]; decide⟩
     unfold civil_Parse.res
     rw [if_neg (by rw [HS.out]; decide), if_pos hb]⟩
    have k10 := blk_cell HA.out.k1 0
    have k11 := blk_cell HA.out.k1 1
    have k12 := blk_cell HA.out.k1 2
    have k13 := blk_cell HA.out.k1 3
    have k14 := blk_cell HA.out.k1 4
    have k15 := blk_cell HA.out.k1 5
    have k16 := blk_cell HA.out.k1 6
    have f10 := blk_frozen HA.out.k1 0
    have f11 := blk_frozen HA.out.k1 1
    have f12 := blk_frozen HA.out.k1 2
    have f13 := blk_frozen HA.out.k1 3
    have f14 := blk_frozen HA.out.k1 4
    have f15 := blk_frozen HA.out.k1 5
    have f16 := blk_frozen HA.out.k1 6
    cases hd : (F == 48)
    ·have hd2 : F ≠ 48 := by simpa using hd
     cases he : (C != F)
     ·have he2 : C = F := by simpa using he
      have HG := Aside0.mk (show civil_Parse.okc s k = true from by rw [HO.out, if_neg hd2, decide_eq_true he2])
      clear he2 hd2 HO HR
      go_wp2_with fail
      go_quiet (fail)
      go_wp2
      go_roundw
      case rel => exact ⟨k + 1, by omega, by go_num, ⟨fun j hj => by
       by_cases e : j = k
       ·subst e; exact HG.out
       ·exact HK.out j (by omega)⟩, ⟨HA.out.drewN _⟩⟩
      case measure => simp [intOf]; omega
     ·have he2 : C ≠ F := by simpa using he
      have HG := Aside0.mk (show civil_Parse.okc s k = false from by rw [HO.out, if_neg hd2, decide_eq_false he2])
      clear he2 hd2 HO
      have HZ := HR HG.out
      clear HR
      go_wp2_with fail
      go_quiet (fail)
      go_wp2
      refine bodyPost_ret (v := .tuple #[.agg #[.int .i64 0, .int .i64 0, .int .i64 0, .int .i64 0, .int .i64 0, .int .i64 0, .int .i64 0], .int .i64 19]) (by simp [results, Try.results14, go_sem, k10, k11, k12, k13, k14, k15, k16]) rfl ?_
      exact ⟨by rw [HZ.out], civil_Parse.below7 (pw_below_drewN HA.out.hb _) _ _ _ _ _ _ _⟩
    ·have hd2 : F = 48 := by simpa using hd
     cases hl : decide (C < 48)
     ·have hl2 : ¬ C < 48 := of_decide_eq_false hl
      cases hh : decide (57 < C)
      ·have hh2 : ¬ 57 < C := of_decide_eq_false hh
       have HG := Aside0.mk (show civil_Parse.okc s k = true from by rw [HO.out, if_pos hd2, decide_eq_true (by omega)])
       clear hl2 hh2 hd2 HO HR
       go_wp2_with fail
       go_quiet (fail)
       go_wp2
       go_roundw
       case rel => exact ⟨k + 1, by omega, by go_num, ⟨fun j hj => by
        by_cases e : j = k
        ·subst e; exact HG.out
        ·exact HK.out j (by omega)⟩, ⟨HA.out.drewN _⟩⟩
       case measure => simp [intOf]; omega
      ·have hh2 : 57 < C := of_decide_eq_true hh
       have HG := Aside0.mk (show civil_Parse.okc s k = false from by rw [HO.out, if_pos hd2, decide_eq_false (by omega)])
       clear hl2 hh2 hd2 HO
       have HZ := HR HG.out
       clear HR
       go_wp2_with fail
       go_quiet (fail)
       go_wp2
       refine bodyPost_ret (v := .tuple #[.agg #[.int .i64 0, .int .i64 0, .int .i64 0, .int .i64 0, .int .i64 0, .int .i64 0, .int .i64 0], .int .i64 19]) (by simp [results, Try.results14, go_sem, k10, k11, k12, k13, k14, k15, k16]) rfl ?_
       exact ⟨by rw [HZ.out], civil_Parse.below7 (pw_below_drewN HA.out.hb _) _ _ _ _ _ _ _⟩
     ·have hl2 : C < 48 := of_decide_eq_true hl
      have HG := Aside0.mk (show civil_Parse.okc s k = false from by rw [HO.out, if_pos hd2, decide_eq_false (by omega)])
      clear hl2 hd2 HO
      have HZ := HR HG.out
      clear HR
      go_wp2_with fail
      go_quiet (fail)
      go_wp2
      refine bodyPost_ret (v := .tuple #[.agg #[.int .i64 0, .int .i64 0, .int .i64 0, .int .i64 0, .int .i64 0, .int .i64 0, .int .i64 0], .int .i64 19]) (by simp [results, Try.results14, go_sem, k10, k11, k12, k13, k14, k15, k16]) rfl ?_
      exact ⟨by rw [HZ.out], civil_Parse.below7 (pw_below_drewN HA.out.hb _) _ _ _ _ _ _ _⟩
   ·obtain rfl : k = 30 := by omega
    clear hk hk2
    have hc := blk_cell HA.out.k0 0
    have HO := Aside0.mk (show civil_Parse.ok s = true from by unfold civil_Parse.ok; rw [List.all_eq_true]; exact fun j hj => HK.out j (List.mem_range.1 hj))
    go_wp2_with fail
    refine (civil_Parse.field s 0 4 0 4 w.heap.size _ rfl rfl hc HS.out (by omega) (by omega) (civil_Parse.digits s 0 4 HK.out (by decide +kernel) (by omega))).mono ?_
    rintro e W ⟨rfl, rfl⟩
    go_wp2_with fail
    refine (civil_Parse.field s 5 2 5 7 w.heap.size _ rfl rfl hc HS.out (by omega) (by omega) (civil_Parse.digits s 5 2 HK.out (by decide +kernel) (by omega))).mono ?_
    rintro e W ⟨rfl, rfl⟩
    go_wp2_with fail
    refine (civil_Parse.field s 8 2 8 10 w.heap.size _ rfl rfl hc HS.out (by omega) (by omega) (civil_Parse.digits s 8 2 HK.out (by decide +kernel) (by omega))).mono ?_
    rintro e W ⟨rfl, rfl⟩
    go_wp2_with fail
    refine (civil_Parse.field s 11 2 11 13 w.heap.size _ rfl rfl hc HS.out (by omega) (by omega) (civil_Parse.digits s 11 2 HK.out (by decide +kernel) (by omega))).mono ?_
    rintro e W ⟨rfl, rfl⟩
    go_wp2_with fail
    refine (civil_Parse.field s 14 2 14 16 w.heap.size _ rfl rfl hc HS.out (by omega) (by omega) (civil_Parse.digits s 14 2 HK.out (by decide +kernel) (by omega))).mono ?_
    rintro e W ⟨rfl, rfl⟩
    go_wp2_with fail
    refine (civil_Parse.field s 17 2 17 19 w.heap.size _ rfl rfl hc HS.out (by omega) (by omega) (civil_Parse.digits s 17 2 HK.out (by decide +kernel) (by omega))).mono ?_
    rintro e W ⟨rfl, rfl⟩
    go_wp2_with fail
    refine (civil_Parse.field s 20 9 20 29 w.heap.size _ rfl rfl hc HS.out (by omega) (by omega) (civil_Parse.digits s 20 9 HK.out (by decide +kernel) (by omega))).mono ?_
    rintro e W ⟨rfl, rfl⟩
    cases hbad : civil_Parse.bad s
    ·have HC := Aside0.mk (show civil_Check.f (civil_Parse.fld s 0 4) (civil_Parse.fld s 5 2) (civil_Parse.fld s 8 2) (civil_Parse.fld s 11 2) (civil_Parse.fld s 14 2) (civil_Parse.fld s 17 2) (civil_Parse.fld s 20 9) = some 0 from by unfold civil_Check.f civil_Check.res; rw [show civil_Check.bad (civil_Parse.fld s 0 4) (civil_Parse.fld s 5 2) (civil_Parse.fld s 8 2) (civil_Parse.fld s 11 2) (civil_Parse.fld s 14 2) (civil_Parse.fld s 17 2) (civil_Parse.fld s 20 9) = false from hbad]; rfl)
     have HR := Aside0.mk (show civil_Parse.res s = (civil_Parse.fld s 0 4, civil_Parse.fld s 5 2, civil_Parse.fld s 8 2, civil_Parse.fld s 11 2, civil_Parse.fld s 14 2, civil_Parse.fld s 17 2, civil_Parse.fld s 20 9, 0) from by unfold civil_Parse.res; rw [if_neg (by rw [HS.out]; decide), if_neg (by rw [HO.out]; decide), if_neg (by rw [hbad]; decide)])
     clear hbad HO HK hc
     go_wp2_with fail
     refine (civil_Check.calls (civil_Parse.fld s 0 4) (civil_Parse.fld s 5 2) (civil_Parse.fld s 8 2) (civil_Parse.fld s 11 2) (civil_Parse.fld s 14 2) (civil_Parse.fld s 17 2) (civil_Parse.fld s 20 9) 0 _ HC.out).mono ?_
     rintro e w2 ⟨rfl, hb2⟩
     have HA2 := Aside0.mk ((HA.out.step (below_alloc (Below.refl _ _) (.cells #[.int .i64 (civil_Parse.fld s 0 4), .int .i64 (civil_Parse.fld s 5 2), .int .i64 (civil_Parse.fld s 8 2), .int .i64 (civil_Parse.fld s 11 2), .int .i64 (civil_Parse.fld s 14 2), .int .i64 (civil_Parse.fld s 17 2), .int .i64 (civil_Parse.fld s 20 9)] 23))).step hb2)
     have hB := Aside0.mk (blk_below (blk_new wr (.cells #[.int .i64 (civil_Parse.fld s 0 4), .int .i64 (civil_Parse.fld s 5 2), .int .i64 (civil_Parse.fld s 8 2), .int .i64 (civil_Parse.fld s 11 2), .int .i64 (civil_Parse.fld s 14 2), .int .i64 (civil_Parse.fld s 17 2), .int .i64 (civil_Parse.fld s 20 9)] 23)) hb2)
     clear hb2
     have k0 := blk_cell HA2.out.k1 0
     have fk0 := blk_frozen HA2.out.k1 0
     have k1 := blk_cell HA2.out.k1 1
     have fk1 := blk_frozen HA2.out.k1 1
     have k2 := blk_cell HA2.out.k1 2
     have fk2 := blk_frozen HA2.out.k1 2
     have k3 := blk_cell HA2.out.k1 3
     have fk3 := blk_frozen HA2.out.k1 3
     have k4 := blk_cell HA2.out.k1 4
     have fk4 := blk_frozen HA2.out.k1 4
     have k5 := blk_cell HA2.out.k1 5
     have fk5 := blk_frozen HA2.out.k1 5
     have k6 := blk_cell HA2.out.k1 6
     have fk6 := blk_frozen HA2.out.k1 6
     have d0 := blk_cell hB.out 0
     have d1 := blk_cell hB.out 1
     have d2 := blk_cell hB.out 2
     have d3 := blk_cell hB.out 3
     have d4 := blk_cell hB.out 4
     have d5 := blk_cell hB.out 5
     have d6 := blk_cell hB.out 6
     go_wp2
     refine bodyPost_ret (v := .tuple #[.agg #[.int .i64 (civil_Parse.fld s 0 4), .int .i64 (civil_Parse.fld s 5 2), .int .i64 (civil_Parse.fld s 8 2), .int .i64 (civil_Parse.fld s 11 2), .int .i64 (civil_Parse.fld s 14 2), .int .i64 (civil_Parse.fld s 17 2), .int .i64 (civil_Parse.fld s 20 9)], .int .i64 0]) (by simp [results, Try.results14, go_sem, k0, k1, k2, k3, k4, k5, k6]) rfl ?_
     exact ⟨by rw [HR.out], civil_Parse.below7 HA2.out.hb _ _ _ _ _ _ _⟩
    ·have HC := Aside0.mk (show civil_Check.f (civil_Parse.fld s 0 4) (civil_Parse.fld s 5 2) (civil_Parse.fld s 8 2) (civil_Parse.fld s 11 2) (civil_Parse.fld s 14 2) (civil_Parse.fld s 17 2) (civil_Parse.fld s 20 9) = some 3 from by unfold civil_Check.f civil_Check.res; rw [show civil_Check.bad (civil_Parse.fld s 0 4) (civil_Parse.fld s 5 2) (civil_Parse.fld s 8 2) (civil_Parse.fld s 11 2) (civil_Parse.fld s 14 2) (civil_Parse.fld s 17 2) (civil_Parse.fld s 20 9) = true from hbad]; rfl)
     have HR := Aside0.mk (show civil_Parse.res s = (0, 0, 0, 0, 0, 0, 0, 3) from by unfold civil_Parse.res; rw [if_neg (by rw [HS.out]; decide), if_neg (by rw [HO.out]; decide), if_pos hbad])
     clear hbad HO HK hc
     go_wp2_with fail
     refine (civil_Check.calls (civil_Parse.fld s 0 4) (civil_Parse.fld s 5 2) (civil_Parse.fld s 8 2) (civil_Parse.fld s 11 2) (civil_Parse.fld s 14 2) (civil_Parse.fld s 17 2) (civil_Parse.fld s 20 9) 3 _ HC.out).mono ?_
     rintro e w2 ⟨rfl, hb2⟩
     have HA2 := Aside0.mk ((HA.out.step (below_alloc (Below.refl _ _) (.cells #[.int .i64 (civil_Parse.fld s 0 4), .int .i64 (civil_Parse.fld s 5 2), .int .i64 (civil_Parse.fld s 8 2), .int .i64 (civil_Parse.fld s 11 2), .int .i64 (civil_Parse.fld s 14 2), .int .i64 (civil_Parse.fld s 17 2), .int .i64 (civil_Parse.fld s 20 9)] 23))).step hb2)
     have hB := Aside0.mk (blk_below (blk_new wr (.cells #[.int .i64 (civil_Parse.fld s 0 4), .int .i64 (civil_Parse.fld s 5 2), .int .i64 (civil_Parse.fld s 8 2), .int .i64 (civil_Parse.fld s 11 2), .int .i64 (civil_Parse.fld s 14 2), .int .i64 (civil_Parse.fld s 17 2), .int .i64 (civil_Parse.fld s 20 9)] 23)) hb2)
     clear hb2
     have k0 := blk_cell HA2.out.k1 0
     have fk0 := blk_frozen HA2.out.k1 0
     have k1 := blk_cell HA2.out.k1 1
     have fk1 := blk_frozen HA2.out.k1 1
     have k2 := blk_cell HA2.out.k1 2
     have fk2 := blk_frozen HA2.out.k1 2
     have k3 := blk_cell HA2.out.k1 3
     have fk3 := blk_frozen HA2.out.k1 3
     have k4 := blk_cell HA2.out.k1 4
     have fk4 := blk_frozen HA2.out.k1 4
     have k5 := blk_cell HA2.out.k1 5
     have fk5 := blk_frozen HA2.out.k1 5
     have k6 := blk_cell HA2.out.k1 6
     have fk6 := blk_frozen HA2.out.k1 6
     go_wp2
     refine bodyPost_ret (v := .tuple #[.agg #[.int .i64 0, .int .i64 0, .int .i64 0, .int .i64 0, .int .i64 0, .int .i64 0, .int .i64 0], .int .i64 3]) (by simp [results, Try.results14, go_sem, k0, k1, k2, k3, k4, k5, k6]) rfl ?_
     exact ⟨by rw [HR.out], civil_Parse.below7 HA2.out.hb _ _ _ _ _ _ _⟩
 ·have hn : ((s.size : Int) != 30) = true := by rw [bne_iff_ne]; omega
  have HR := Aside0.mk (show civil_Parse.res s = (0, 0, 0, 0, 0, 0, 0, 19) from by unfold civil_Parse.res; rw [if_pos hsz])
  clear hsz
  go_enter Try.func14, Try.ntmps14
  go_wp2
  refine bodyPost_ret (v := .tuple #[.agg #[.int .i64 0, .int .i64 0, .int .i64 0, .int .i64 0, .int .i64 0, .int .i64 0, .int .i64 0], .int .i64 19]) (by simp [results, Try.results14, go_sem]) rfl ?_
  exact ⟨by rw [HR.out], below_alloc (below_alloc (Below.refl _ _) _) _⟩
theorem civil_Parse.calls (a0 : ByteArray) (r1 : Int) (r2 : Int) (r3 : Int) (r4 : Int) (r5 : Int) (r6 : Int) (r7 : Int) (r8 : Int) (w : World) (h : civil_Parse.f a0 = some (r1, r2, r3, r4, r5, r6, r7, r8)) :
  Calls Try.prog 14 #[.string a0] w fun e w' => e = .returned (.tuple #[.agg #[.int .i64 r1, .int .i64 r2, .int .i64 r3, .int .i64 r4, .int .i64 r5, .int .i64 r6, .int .i64 r7], .int .i64 r8]) ∧ Below w.heap.size w w' := by
 have e := Option.some.inj h
 refine (civil_Parse.walk a0 w).mono ?_
 rintro x w' ⟨hx, hb⟩
 rw [e] at hx
 exact ⟨hx, hb⟩

/-! ### civil_Text: function 16 (typed by hand) -/
def civil_Text.P10 : Nat → Int
 | 0 => 1
 | k + 1 => 10 * civil_Text.P10 k
theorem civil_Text.P10_bd : ∀ k, k ≤ 8 → 1 ≤ civil_Text.P10 k ∧ civil_Text.P10 k ≤ 100000000 := by
 intro k hk
 obtain rfl | rfl | rfl | rfl | rfl | rfl | rfl | rfl | rfl : k = 0 ∨ k = 1 ∨ k = 2 ∨ k = 3 ∨ k = 4 ∨ k = 5 ∨ k = 6 ∨ k = 7 ∨ k = 8 := by omega
 all_goals exact ⟨by decide, by decide⟩
/-- The unit ahead of digit i of d. -/
def civil_Text.U (d i : Nat) : Int := if i < d then civil_Text.P10 (d - 1 - i) else 0
theorem civil_Text.U_next (d i : Nat) (h : i < d) : civil_Text.U d i / 10 = civil_Text.U d (i + 1) := by
 unfold civil_Text.U
 rw [if_pos h]
 by_cases h2 : i + 1 < d
 ·rw [if_pos h2]
  obtain ⟨m, hm⟩ : ∃ m, d - 1 - i = m + 1 := ⟨d - 1 - i - 1, by omega⟩
  have e : d - 1 - (i + 1) = m := by omega
  rw [hm, e]
  show 10 * civil_Text.P10 m / 10 = _
  omega
 ·rw [if_neg h2]
  have e : d - 1 - i = 0 := by omega
  rw [e]
  decide
def civil_Text.dg (n : Int) (d i : Nat) : Int := 48 + n / civil_Text.U d i % 10
def civil_Text.dgs (n : Int) (d : Nat) : List Int := (List.range d).map (civil_Text.dg n d)
/-- What the loop of 'put' holds. -/
structure civil_Text.At (w0 w : World) (base g : Nat) (v : Value) (ys : List Int) : Prop where
 blk : w.heap[g]? = some (.cells #[v] 44 (0, 0))
 own : w.ownsRow base 5 1 v ys.length (nums .u8 ys)
 hb : Below base w0 w
 sz : w0.heap.size ≤ w.heap.size
/-- Behind 'put': the bytes have grown by what was put. -/
def civil_Text.Post (w : World) (base g : Nat) (ys : List Int) (e : Ending) (w' : World) : Prop := e = .returned (.tuple #[]) ∧ ∃ v', civil_Text.At w w' base g v' ys
theorem civil_Text.At.push {w0 w w1 : World} {base g : Nat} {v V : Value} {ys : List Int} {x : Int} (h : civil_Text.At w0 w base g v ys) (hg : base ≤ g) (o : Obj) (hgrow : ((w.alloc o).drew).grownBy w1 v.ownBlock)
  (hown : w1.ownsRow base 5 1 V (ys.length + 1) (nums .u8 ys ++ [.int .u8 x])) : civil_Text.At w0 (w1.setCell ⟨g, 0, none⟩ V) base g V (ys ++ [x]) ∧ w1.cell? ⟨g, 0, none⟩ = some v ∧ w1.frozen? ⟨g, 0, none⟩ = false := by
 have hlt := blk_lt h.blk
 have hb1 := blk_grown (blk_drew (blk_alloc h.blk o)) hgrow (own_ne h.own h.blk (by decide))
 have hsz : w.heap.size ≤ w1.heap.size := by have := hgrow.size; simp at this; omega
 refine ⟨⟨blk_put hb1 0 V rfl, ?_, ?_, ?_⟩, blk_cell hb1 0, blk_frozen hb1 0⟩
 ·have e : nums .u8 (ys ++ [x]) = nums .u8 ys ++ [.int .u8 x] := by simp [nums]
  rw [e, List.length_append]
  exact own_setCell hown (own_ne hown hb1 (by decide)) V
 ·have := h.sz
  have hB : base ≤ w.heap.size := by omega
  exact (((h.hb.alloc hB o).drew).grown hgrow (by simp; omega) (own_base ((h.own.alloc o).drew))).setCell hg V
 ·have := h.sz
  simp [World.setCell]
  omega
theorem civil_Text.info5 : (Try.prog.info? 5).map (fun i => (i.zero, i.size, i.bytes)) = some (some (.int .u8 0), 1, 1) := by kernel_rfl
set_option maxHeartbeats 1600000 in
set_option maxRecDepth 100000 in
theorem civil_Text.put (n b : Int) (d : Nat) (xs : List Int) (base g : Nat) (v : Value) (w : World) (hn : 0 ≤ n ∧ n ≤ 999999999) (hd : 1 ≤ d ∧ d ≤ 9) (hb : 0 ≤ b ∧ b ≤ 255) (hl : xs.length ≤ 100)
  (hblk : w.heap[g]? = some (.cells #[v] 44 (0, 0))) (hown : w.ownsRow base 5 1 v xs.length (nums .u8 xs)) (hg : base ≤ g) :
  Calls Try.prog 34 #[.int .i64 n, .int .i64 (d : Int), .int .u8 b, .pointer (some ⟨g, 0, none⟩)] w (civil_Text.Post w base g (xs ++ civil_Text.dgs n d ++ [b])) := by
 have HA := Aside0.mk (⟨hblk, hown, Below.refl _ _, Nat.le_refl _⟩ : civil_Text.At w w base g v xs)
 have HG := Aside0.mk hg
 have HL := Aside0.mk hl
 clear hblk hown hg hl
 obtain ⟨hn0, hn1⟩ := hn
 obtain ⟨hd0, hd1⟩ := hd
 obtain ⟨hb0, hb1⟩ := hb
 go_enter Try.func34, Try.ntmps34
 go_wp2
 go_loop [7, 10] (fun u i => ∃ k : Nat, k + 1 ≤ d ∧ i = .int .i64 k ∧ u = .int .i64 (civil_Text.P10 k)) (fun _ i => d - (intOf i).toNat)
 case atStart => exact ⟨0, hd0, rfl, rfl⟩
 case round =>
  obtain ⟨k, hk, rfl, rfl⟩ := hrel
  have hp := civil_Text.P10_bd k (by omega)
  by_cases hlt : k + 1 < d
  ·go_wp2
   go_round
   case rel => exact ⟨k + 1, by omega, by go_num, by show Value.int .i64 (civil_Text.P10 k * 10) = .int .i64 (10 * civil_Text.P10 k); rw [Int.mul_comm]⟩
   case measure => simp [intOf]; omega
  ·obtain rfl : d = k + 1 := by omega
   clear hlt hk
   go_wp2
   go_loopw [7, 16] (fun u i wr => ∃ (j : Nat) (v' : Value), j ≤ k + 1 ∧ i = .int .i64 j ∧ u = .int .i64 (civil_Text.U (k + 1) j) ∧ Aside0 (civil_Text.At w wr base g v' (xs ++ (List.range j).map (civil_Text.dg n (k + 1))))) (fun _ i _ => k + 1 - (intOf i).toNat)
   case atStart => exact ⟨0, v, by omega, rfl, by unfold civil_Text.U; rw [if_pos (by omega)]; rfl, ⟨by rw [List.range_zero, List.map_nil, List.append_nil]; exact HA.out⟩⟩
   case round =>
    obtain ⟨j, v', hj, rfl, rfl, HB⟩ := hrel
    by_cases hlt : j < k + 1
    ·have hu1 : 1 ≤ civil_Text.U (k + 1) j := by unfold civil_Text.U; rw [if_pos hlt]; exact (civil_Text.P10_bd _ (by omega)).1
     have hu2 : civil_Text.U (k + 1) j ≤ 100000000 := by unfold civil_Text.U; rw [if_pos hlt]; exact (civil_Text.P10_bd _ (by omega)).2
     have hq0 : 0 ≤ n / civil_Text.U (k + 1) j := Int.ediv_nonneg hn0 (by omega)
     have hq1 : n / civil_Text.U (k + 1) j ≤ 999999999 := Int.le_trans (Int.ediv_le_self _ hn0) hn1
     have HN := Aside0.mk (show (List.range (j + 1)).map (civil_Text.dg n (k + 1)) = (List.range j).map (civil_Text.dg n (k + 1)) ++ [48 + n / civil_Text.U (k + 1) j % 10] from by rw [List.range_succ, List.map_append]; rfl)
     have HU := Aside0.mk (civil_Text.U_next (k + 1) j hlt)
     generalize civil_Text.U (k + 1) j = u at *
     have hc : wr.cell? ⟨g, 0, none⟩ = some v' := blk_cell HB.out.blk 0
     obtain ⟨i0, hi0, hz0, hz1, hz2⟩ := info_parts civil_Text.info5
     have hlen : (xs ++ (List.range j).map (civil_Text.dg n (k + 1))).length ≤ 200 := by have := HL.out; rw [List.length_append, List.length_map, List.length_range]; omega
     generalize hy : xs ++ (List.range j).map (civil_Text.dg n (k + 1)) = ys at *
     have HY := Aside0.mk hy
     clear hy
     have e7 : (u = 0) = False := eq_false (by omega)
     have e0 : (u == 0) = false := by rw [beq_eq_false_iff_ne]; omega
     have e1 : (u == -1) = false := by rw [beq_eq_false_iff_ne]; omega
     have e2 : n.tdiv u = n / u := Int.tdiv_eq_ediv_of_nonneg hn0
     have e3 : IntKind.i64.wrap (n / u) = n / u := IntWalk.i64_in _ (by omega)
     have e4 : (n / u).tmod 10 = n / u % 10 := Int.tmod_eq_emod_of_nonneg hq0
     have e5 : IntKind.i64.wrap (48 + n / u % 10) = 48 + n / u % 10 := IntWalk.i64_in _ (by omega)
     have e6 : IntKind.u8.wrap (48 + n / u % 10) = 48 + n / u % 10 := IntWalk.u8_in _ (by omega)
     go_wp2_with fail
     refine start_ (n := 10) (S := (fun W => W.cell? ⟨g, 0, none⟩ = some v')) (ds := [9]) #[false, false, false, false, false, false, false, false, false, false] (by kernel_rfl) rfl rfl hc (fun hHeld => ?_)
     refine take_ (i := 0) (N := some 18) (v := ?_) (a' := ?_) #[true, false, false, false, false, false, false, false, false, false] rfl rfl (by kernel_rfl) (fun _ _ _ h => h) (Or.inl ⟨by rfl, ?_⟩) hHeld ?_ ?_
     rotate_left
     ·rintro W s0
      go_simp
      with_reducible rfl
     rotate_left
     ·simp only [Act.put, List.setIfInBounds_toArray, List.set_cons_zero, List.set_cons_succ, i64_w, i32_w]
      rfl
     refine pure_ (i := 1) (N := some 19) (v := ?_) (a' := ?_) #[true, true, false, false, false, false, false, false, false, false] rfl rfl (by kernel_rfl) (fun _ _ _ h => h) (Or.inl ⟨by rfl, ?_⟩) ?_ ?_
     rotate_left
     ·intro W
      go_simp
      with_reducible rfl
     rotate_left
     ·simp only [Act.put, List.setIfInBounds_toArray, List.set_cons_zero, List.set_cons_succ, i64_w, i32_w]
      rfl
     refine pure_ (i := 2) (N := some 20) (v := ?_) (a' := ?_) #[true, true, true, false, false, false, false, false, false, false] rfl rfl (by kernel_rfl) (fun _ _ _ h => h) (Or.inl ⟨by rfl, ?_⟩) ?_ ?_
     rotate_left
     ·intro W
      go_simp
      with_reducible rfl
     rotate_left
     ·simp only [Act.put, List.setIfInBounds_toArray, List.set_cons_zero, List.set_cons_succ, i64_w, i32_w]
      rfl
     refine pure_ (i := 3) (N := some 21) (v := ?_) (a' := ?_) #[true, true, true, true, false, false, false, false, false, false] rfl rfl (by kernel_rfl) (fun _ _ _ h => h) (Or.inl ⟨by rfl, ?_⟩) ?_ ?_
     rotate_left
     ·intro W
      go_simp
      with_reducible rfl
     rotate_left
     ·simp only [Act.put, List.setIfInBounds_toArray, List.set_cons_zero, List.set_cons_succ, i64_w, i32_w]
      rfl
     refine pure_ (i := 4) (N := some 22) (v := ?_) (a' := ?_) #[true, true, true, true, true, false, false, false, false, false] rfl rfl (by kernel_rfl) (fun _ _ _ h => h) (Or.inl ⟨by rfl, ?_⟩) ?_ ?_
     rotate_left
     ·intro W
      go_simp
      with_reducible rfl
     rotate_left
     ·simp only [Act.put, List.setIfInBounds_toArray, List.set_cons_zero, List.set_cons_succ, i64_w, i32_w]
      rfl
     refine pure_ (i := 5) (N := some 23) (v := ?_) (a' := ?_) #[true, true, true, true, true, true, false, false, false, false] rfl rfl (by kernel_rfl) (fun _ _ _ h => h) (Or.inl ⟨by rfl, ?_⟩) ?_ ?_
     rotate_left
     ·intro W
      go_simp
      with_reducible rfl
     rotate_left
     ·simp only [Act.put, List.setIfInBounds_toArray, List.set_cons_zero, List.set_cons_succ, i64_w, i32_w]
      rfl
     refine pure_ (i := 6) (N := some 24) (v := ?_) (a' := ?_) #[true, true, true, true, true, true, true, false, false, false] rfl rfl (by kernel_rfl) (fun _ _ _ h => h) (Or.inl ⟨by rfl, ?_⟩) ?_ ?_
     rotate_left
     ·intro W
      go_simp
      with_reducible rfl
     rotate_left
     ·simp only [Act.put, List.setIfInBounds_toArray, List.set_cons_zero, List.set_cons_succ, i64_w, i32_w]
      rfl
     refine one_ (i := 7) (N := some 25) #[true, true, true, true, true, true, true, true, false, false] rfl rfl (by kernel_rfl) (by decide) (fun K hK => ?_)
     refine value_ (v := .slice (some ⟨wr.heap.size, 0, none⟩) 1 1) (w1 := (wr.alloc (.cells #[.int .u8 (48 + n / u % 10)] 5)).drew) rfl rfl (by go_simp) ?_
     refine hK.out _ _ (blk_cell (blk_drew (blk_alloc HB.out.blk _)) 0) (fun hHeld => ?_)
     clear hK K
     refine norm_ (a' := ?_) ?_ ?_
     rotate_left
     ·show Act.put _ (some 25) _ = _
      simp only [Act.put, List.setIfInBounds_toArray, List.set_cons_zero, List.set_cons_succ, i64_w, i32_w]
      rfl
     refine one_ (i := 8) (N := some 26) #[true, true, true, true, true, true, true, true, true, false] rfl rfl (by kernel_rfl) (by decide) (fun K hK => ?_)
     refine step_append_lies _ (by rfl) _ _ _ (by rfl) base 5 i0 _ 1 1 Try.underlying44 hi0 hz0 hz1 hz2 rfl (by omega) v' _ _ (by rfl) ((HB.out.own.alloc _).drew) ⟨wr.heap.size, 0, none⟩ 1 1 [.int .u8 (48 + n / u % 10)] (by rfl) (by rfl) (World.news_of_block (cs := #[.int .u8 (48 + n / u % 10)]) (t := 5) (fr := (0, 0)) (heap_alloc_new wr _)) (by simp [Value.oneCell']) (by omega) (by unfold maxLen; omega) (by omega) (by have := HB.out.sz; have := HG.out; have := blk_lt HB.out.blk; simp; omega) (wr.heap.size + 1) (by simp) ?_
     intro gg cap w1 hown1 hgrow hat hlt1
     obtain ⟨HA1, hc1, hf1⟩ := HB.out.push HG.out _ hgrow hown1
     refine hK.out _ _ hc1 (fun hHeld => ?_)
     clear hK K
     refine norm_ (a' := ?_) ?_ ?_
     rotate_left
     ·show Act.put _ (some 26) _ = _
      simp only [Act.put, List.setIfInBounds_toArray, List.set_cons_zero, List.set_cons_succ, i64_w, i32_w]
      rfl
     refine last_ (i := 9) (N := none) #[true, true, true, true, true, true, true, true, true, true] rfl rfl (by kernel_rfl) (by decide) (fun K hK => ?_)
     rw [if_pos (by rfl)]
     unfold Oper.wp
     go_simp
     refine hK.out _ _ ?_
     clear hK K
     refine done_ (by kernel_rfl) ?_
     have HP := Aside0.mk HA1
     clear HA1 hc1 hf1 hown1 hgrow hat hlt1 hHeld hc HB
     go_wp2
     go_roundw
     case rel => exact ⟨j + 1, _, by omega, by go_num, by rw [HU.out], ⟨by rw [HN.out, ← List.append_assoc, HY.out]; exact HP.out⟩⟩
     case measure => simp [intOf]; omega
    ·obtain rfl : j = k + 1 := by omega
     have HT := Aside0.mk (show (List.range (k + 1)).map (civil_Text.dg n (k + 1)) = civil_Text.dgs n (k + 1) from rfl)
     have hc : wr.cell? ⟨g, 0, none⟩ = some v' := blk_cell HB.out.blk 0
     have hf : wr.frozen? ⟨g, 0, none⟩ = false := blk_frozen HB.out.blk 0
     obtain ⟨i0, hi0, hz0, hz1, hz2⟩ := info_parts civil_Text.info5
     have hlen : (xs ++ (List.range (k + 1)).map (civil_Text.dg n (k + 1))).length ≤ 200 := by have := HL.out; rw [List.length_append, List.length_map, List.length_range]; omega
     generalize hy : xs ++ (List.range (k + 1)).map (civil_Text.dg n (k + 1)) = ys at *
     have HY := Aside0.mk hy
     clear hy
     go_wp2_with (first | (at_builtin; refine wpList_append_own _ rfl _ _ 44 rfl base 5 i0 (.int .u8 0) 1 1 Try.underlying44 hi0 hz0 hz1 hz2 rfl (by decide) v' ys.length (nums .u8 ys) rfl (HB.out.own.alloc _) ⟨wr.heap.size, 0, none⟩ 1 1 [.int .u8 b] rfl rfl ?c1 ?c2 ?c3 ?c4 ?c5 ?_; (case c1 => exact World.news_of_block (cs := #[.int .u8 b]) (t := 5) (fr := (0, 0)) (heap_alloc_new wr _)); (case c2 => simp [Value.oneCell']); (case c3 => unfold maxLen; omega); (case c4 => omega); (case c5 => have := HB.out.sz; have := HG.out; have := blk_lt HB.out.blk; simp; omega); intro v2 w1 hown1 hgrow _hat; obtain ⟨A2, c2, rfl⟩ := own_slice hown1; obtain ⟨HA1, hc1, hf1⟩ := HB.out.push HG.out (.cells #[.int .u8 b] 5) ⟨hgrow.os, hgrow.tape, hgrow.output, hgrow.size, hgrow.block⟩ hown1; have HP := Aside0.mk HA1; clear HA1 _hat))
     clear hown1 hgrow HB hc hf
     go_end0
     have e : xs ++ civil_Text.dgs n (k + 1) ++ [b] = ys ++ [b] := by rw [← HT.out, HY.out]
     exact ⟨rfl, _, by rw [e]; exact HP.out⟩
theorem civil_Text.At.trans {w0 w1 w2 : World} {base g : Nat} {v v2 : Value} {ys zs : List Int} (h : civil_Text.At w0 w1 base g v ys) (k : civil_Text.At w1 w2 base g v2 zs) : civil_Text.At w0 w2 base g v2 zs :=
 ⟨k.blk, k.own, h.hb.trans k.hb, by have := h.sz; have := k.sz; omega⟩
/-- 'put' behind other puts. -/
theorem civil_Text.put2 (n b D : Int) (d : Nat) (xs : List Int) (base g : Nat) (v : Value) (w0 w : World) (hD : D = (d : Int)) (hn : 0 ≤ n ∧ n ≤ 999999999) (hd : 1 ≤ d ∧ d ≤ 9) (hb : 0 ≤ b ∧ b ≤ 255) (hl : xs.length ≤ 100)
  (h : civil_Text.At w0 w base g v xs) (hg : base ≤ g) :
  Calls Try.prog 34 #[.int .i64 n, .int .i64 D, .int .u8 b, .pointer (some ⟨g, 0, none⟩)] w fun e w' => e = .returned (.tuple #[]) ∧ ∃ v', civil_Text.At w0 w' base g v' (xs ++ civil_Text.dgs n d ++ [b]) := by
 subst hD
 refine (civil_Text.put n b d xs base g v w hn hd hb hl h.blk h.own hg).mono ?_
 rintro e w' ⟨he, v', h'⟩
 exact ⟨he, v', h.trans h'⟩
def civil_Text.all (y m d h mi s n : Int) : List Int :=
 ((((((civil_Text.dgs y 4 ++ [45]) ++ civil_Text.dgs m 2 ++ [45]) ++ civil_Text.dgs d 2 ++ [84]) ++ civil_Text.dgs h 2 ++ [58]) ++ civil_Text.dgs mi 2 ++ [58]) ++ civil_Text.dgs s 2 ++ [46]) ++ civil_Text.dgs n 9 ++ [90]
def civil_Text.res (y m d h mi s n : Int) : ByteArray := if civil_Check.bad y m d h mi s n = true then ⟨#[]⟩ else strOfNums (civil_Text.all y m d h mi s n)
def civil_Text.f (a0_0 : Int) (a0_1 : Int) (a0_2 : Int) (a0_3 : Int) (a0_4 : Int) (a0_5 : Int) (a0_6 : Int) : Option (ByteArray) := some (civil_Text.res a0_0 a0_1 a0_2 a0_3 a0_4 a0_5 a0_6)
theorem civil_Text.dgs_length (n : Int) (d : Nat) : (civil_Text.dgs n d).length = d := by simp [civil_Text.dgs]
theorem civil_Text.of_good {y m d h mi s n : Int} (hb : civil_Check.bad y m d h mi s n = false) : (1600 ≤ y ∧ y ≤ 2200) ∧ (1 ≤ m ∧ m ≤ 12) ∧ (1 ≤ d ∧ d ≤ civil_MonthDays.v y m) ∧ (0 ≤ h ∧ h ≤ 23) ∧ (0 ≤ mi ∧ mi ≤ 59) ∧ (0 ≤ s ∧ s ≤ 59) ∧ (0 ≤ n ∧ n ≤ 999999999) := by
 simpa [civil_Check.bad, civil_Check.far] using hb
theorem civil_Text.md_le (y m : Int) : civil_MonthDays.v y m ≤ 31 := by
 unfold civil_MonthDays.v
 (repeat' split) <;> omega
set_option maxHeartbeats 3200000 in
set_option maxRecDepth 100000 in
theorem civil_Text.calls (a0_0 : Int) (a0_1 : Int) (a0_2 : Int) (a0_3 : Int) (a0_4 : Int) (a0_5 : Int) (a0_6 : Int) (r : ByteArray) (w : World) (h : civil_Text.f a0_0 a0_1 a0_2 a0_3 a0_4 a0_5 a0_6 = some r) :
  Calls Try.prog 16 #[.agg #[.int .i64 a0_0, .int .i64 a0_1, .int .i64 a0_2, .int .i64 a0_3, .int .i64 a0_4, .int .i64 a0_5, .int .i64 a0_6]] w fun e w' => e = .returned (.string r) ∧ Below w.heap.size w w' := by
 obtain rfl := Option.some.inj h
 clear h
 have hu := Try.underlying23
 cases hb : civil_Check.bad a0_0 a0_1 a0_2 a0_3 a0_4 a0_5 a0_6
 ·have HR := Aside0.mk (show civil_Text.res a0_0 a0_1 a0_2 a0_3 a0_4 a0_5 a0_6 = strOfNums (civil_Text.all a0_0 a0_1 a0_2 a0_3 a0_4 a0_5 a0_6) from by unfold civil_Text.res; rw [hb]; rfl)
  have HC := Aside0.mk (show civil_Check.f a0_0 a0_1 a0_2 a0_3 a0_4 a0_5 a0_6 = some 0 from by unfold civil_Check.f civil_Check.res; rw [hb]; rfl)
  have HV := Aside0.mk (civil_Text.of_good hb)
  clear hb
  go_enter Try.func16, Try.ntmps16
  go_wp2_with fail
  refine (civil_Check.calls a0_0 a0_1 a0_2 a0_3 a0_4 a0_5 a0_6 0 _ HC.out).mono ?_
  rintro e w1 ⟨rfl, hb1⟩
  have HA1 := Aside0.mk ((⟨by simp [go_sem], by simp [go_sem], by simp [go_sem], by simp [go_sem], by simp [go_sem], by simp [go_sem], by simp [go_sem], below_alloc (Below.refl w.heap.size w) _⟩ : civil_Check.At w (w.alloc (.cells #[.int .i64 a0_0, .int .i64 a0_1, .int .i64 a0_2, .int .i64 a0_3, .int .i64 a0_4, .int .i64 a0_5, .int .i64 a0_6] 23)) w.heap.size a0_0 a0_1 a0_2 a0_3 a0_4 a0_5 a0_6).step hb1)
  have hsz : w.heap.size + 1 ≤ w1.heap.size := by have := hb1.size; simp at this; omega
  clear hb1
  have hlt : w.heap.size < w1.heap.size := by omega
  have H0 := Aside0.mk (⟨blk_new w1 _, own_nil _ _ _ _, Below.refl _ _, Nat.le_refl _⟩ : civil_Text.At (w1.alloc (.cells #[.slice none 0 0] 44)) (w1.alloc (.cells #[.slice none 0 0] 44)) w1.heap.size w1.heap.size (.slice none 0 0) [])
  have K0 := HA1.out.k0
  go_wp2_with fail
  refine (civil_Text.put2 a0_0 45 4 4 _ w1.heap.size w1.heap.size _ _ _ rfl (by have := HV.out; have := civil_Text.md_le a0_0 a0_1; omega) (by omega) (by omega) (by simp [civil_Text.dgs_length]) H0.out (Nat.le_refl _)).mono ?_
  rintro e w2 ⟨rfl, v1, h1⟩
  have H1 := Aside0.mk h1
  clear h1 K0 H0
  have K1 : w2.cell? ⟨w.heap.size, 1, none⟩ = some (.int .i64 a0_1) := (H1.out.hb.cell (p := ⟨w.heap.size, 1, none⟩) hlt).trans ((World.cell?_alloc_lt w1 _ _ hlt).trans HA1.out.k1)
  go_wp2_with fail
  refine (civil_Text.put2 a0_1 45 2 2 _ w1.heap.size w1.heap.size _ _ _ rfl (by have := HV.out; have := civil_Text.md_le a0_0 a0_1; omega) (by omega) (by omega) (by simp [civil_Text.dgs_length]) H1.out (Nat.le_refl _)).mono ?_
  rintro e w3 ⟨rfl, v2, h2⟩
  have H2 := Aside0.mk h2
  clear h2 K1 H1
  have K2 : w3.cell? ⟨w.heap.size, 2, none⟩ = some (.int .i64 a0_2) := (H2.out.hb.cell (p := ⟨w.heap.size, 2, none⟩) hlt).trans ((World.cell?_alloc_lt w1 _ _ hlt).trans HA1.out.k2)
  go_wp2_with fail
  refine (civil_Text.put2 a0_2 84 2 2 _ w1.heap.size w1.heap.size _ _ _ rfl (by have := HV.out; have := civil_Text.md_le a0_0 a0_1; omega) (by omega) (by omega) (by simp [civil_Text.dgs_length]) H2.out (Nat.le_refl _)).mono ?_
  rintro e w4 ⟨rfl, v3, h3⟩
  have H3 := Aside0.mk h3
  clear h3 K2 H2
  have K3 : w4.cell? ⟨w.heap.size, 3, none⟩ = some (.int .i64 a0_3) := (H3.out.hb.cell (p := ⟨w.heap.size, 3, none⟩) hlt).trans ((World.cell?_alloc_lt w1 _ _ hlt).trans HA1.out.k3)
  go_wp2_with fail
  refine (civil_Text.put2 a0_3 58 2 2 _ w1.heap.size w1.heap.size _ _ _ rfl (by have := HV.out; have := civil_Text.md_le a0_0 a0_1; omega) (by omega) (by omega) (by simp [civil_Text.dgs_length]) H3.out (Nat.le_refl _)).mono ?_
  rintro e w5 ⟨rfl, v4, h4⟩
  have H4 := Aside0.mk h4
  clear h4 K3 H3
  have K4 : w5.cell? ⟨w.heap.size, 4, none⟩ = some (.int .i64 a0_4) := (H4.out.hb.cell (p := ⟨w.heap.size, 4, none⟩) hlt).trans ((World.cell?_alloc_lt w1 _ _ hlt).trans HA1.out.k4)
  go_wp2_with fail
  refine (civil_Text.put2 a0_4 58 2 2 _ w1.heap.size w1.heap.size _ _ _ rfl (by have := HV.out; have := civil_Text.md_le a0_0 a0_1; omega) (by omega) (by omega) (by simp [civil_Text.dgs_length]) H4.out (Nat.le_refl _)).mono ?_
  rintro e w6 ⟨rfl, v5, h5⟩
  have H5 := Aside0.mk h5
  clear h5 K4 H4
  have K5 : w6.cell? ⟨w.heap.size, 5, none⟩ = some (.int .i64 a0_5) := (H5.out.hb.cell (p := ⟨w.heap.size, 5, none⟩) hlt).trans ((World.cell?_alloc_lt w1 _ _ hlt).trans HA1.out.k5)
  go_wp2_with fail
  refine (civil_Text.put2 a0_5 46 2 2 _ w1.heap.size w1.heap.size _ _ _ rfl (by have := HV.out; have := civil_Text.md_le a0_0 a0_1; omega) (by omega) (by omega) (by simp [civil_Text.dgs_length]) H5.out (Nat.le_refl _)).mono ?_
  rintro e w7 ⟨rfl, v6, h6⟩
  have H6 := Aside0.mk h6
  clear h6 K5 H5
  have K6 : w7.cell? ⟨w.heap.size, 6, none⟩ = some (.int .i64 a0_6) := (H6.out.hb.cell (p := ⟨w.heap.size, 6, none⟩) hlt).trans ((World.cell?_alloc_lt w1 _ _ hlt).trans HA1.out.k6)
  go_wp2_with fail
  refine (civil_Text.put2 a0_6 90 9 9 _ w1.heap.size w1.heap.size _ _ _ rfl (by have := HV.out; have := civil_Text.md_le a0_0 a0_1; omega) (by omega) (by omega) (by simp [civil_Text.dgs_length]) H6.out (Nat.le_refl _)).mono ?_
  rintro e w8 ⟨rfl, v7, h7⟩
  have H7 := Aside0.mk h7
  clear h7 K6 H6
  have hc := blk_cell H7.out.blk 0
  have hcv := own_string (P := Try.prog) Try.underlying44 Try.underlying5 Try.underlying9 H7.out.own
  have HB8 := Aside0.mk (below_then HA1.out.hb HA1.out.hb.size ((below_alloc (Below.refl w1.heap.size w1) (.cells #[.slice none 0 0] 44)).trans H7.out.hb))
  go_wp2
  go_ret
  exact ⟨by rw [HR.out]; unfold civil_Text.all; simp, HB8.out⟩
 ·have HR := Aside0.mk (show civil_Text.res a0_0 a0_1 a0_2 a0_3 a0_4 a0_5 a0_6 = ⟨#[]⟩ from by unfold civil_Text.res; rw [hb]; rfl)
  have HC := Aside0.mk (show civil_Check.f a0_0 a0_1 a0_2 a0_3 a0_4 a0_5 a0_6 = some 3 from by unfold civil_Check.f civil_Check.res; rw [hb]; rfl)
  clear hb
  go_enter Try.func16, Try.ntmps16
  go_wp2_with fail
  refine (civil_Check.calls a0_0 a0_1 a0_2 a0_3 a0_4 a0_5 a0_6 3 _ HC.out).mono ?_
  rintro e w1 ⟨rfl, hb1⟩
  have HB1 := Aside0.mk (below_step (below_alloc (Below.refl w.heap.size w) _) hb1)
  clear hb1
  go_wp2
  go_ret
  exact ⟨by rw [HR.out]; rfl, HB1.out⟩

/-! ### civil_MJD: function 20 -/
def civil_MJD.f (a0 : Int) : Option (Int) := (civil_dayOf.f a0).bind fun t118 => (some (wrap64 (t118 + 15020)))
set_option maxHeartbeats 8000000 in
set_option maxRecDepth 100000 in
theorem civil_MJD.calls (a0 : Int) (r : Int) (w : World) (h : civil_MJD.f a0 = some r) :
  Calls Try.prog 20 #[.int .i64 a0] w fun e w' => e = .returned (.int .i64 r) ∧ Drawn0 w w' := by
 have H : ((civil_dayOf.f a0).bind fun t118 => (some (wrap64 (t118 + 15020)))) = some r := h
 clear h
 replace H := Option.bind_eq_some_iff.mp H
 obtain ⟨t118, A20, H⟩ := H
 replace H : (some (wrap64 (t118 + 15020))) = some r := H
 have A2 := Aside0.mk A20
 clear A20
 obtain rfl := Option.some.inj H
 go_enter Try.func20, Try.ntmps20
 go_wp2_with (first | ((with_reducible refine gate_callee (f := 29) rfl ?_); refine goesL_ (some 4) rfl rfl Try.func29 (by kernel_rfl) rfl #[.int .i64 a0] rfl (by (try simp only [List.map_toArray, List.map_cons, List.map_nil]); first | done | rfl | (simp only [List.length_drop, List.length_take]; rfl)) ?_; (with_reducible refine (civil_dayOf.calls a0 t118 _ A2.out).mono ?_); rintro e w' ⟨rfl, ⟨nd, rfl⟩⟩; refine ⟨_, rfl, ?_⟩))
 go_ret
 exact ⟨by first | rfl | (simp; done) | (simp [*]; done), by repeat (first | exact Drawn0.refl _ | apply Drawn0.step)⟩

/-! ### timesynclaw05_awake: function 13 (typed by hand) -/
def timesynclaw05_awake.f  : Option (Bool) := some true
def timesynclaw05_awake.txt : ByteArray := ⟨#[50, 48, 49, 54, 45, 49, 50, 45, 51, 49, 84, 50, 51, 58, 53, 57, 58, 54, 48, 46, 48, 48, 48, 48, 48, 48, 48, 48, 48, 90]⟩
theorem timesynclaw05_awake.of1 : civil_Of.f (-1) = some (1899, 12, 31, 23, 59, 59, 0, 0) := by kernel_rfl
theorem timesynclaw05_awake.of2 : civil_Of.f 2272060800 = some (1972, 1, 1, 0, 0, 0, 0, 0) := by kernel_rfl
theorem timesynclaw05_awake.of3 : civil_Of.f 0 = some (1900, 1, 1, 0, 0, 0, 0, 0) := by kernel_rfl
theorem timesynclaw05_awake.parse : civil_Parse.f ⟨#[50, 48, 49, 54, 45, 49, 50, 45, 51, 49, 84, 50, 51, 58, 53, 57, 58, 54, 48, 46, 48, 48, 48, 48, 48, 48, 48, 48, 48, 90]⟩ = some (0, 0, 0, 0, 0, 0, 0, 3) := by kernel_rfl
theorem timesynclaw05_awake.text : civil_Text.f 1900 1 1 0 0 0 0 = some ⟨#[49, 57, 48, 48, 45, 48, 49, 45, 48, 49, 84, 48, 48, 58, 48, 48, 58, 48, 48, 46, 48, 48, 48, 48, 48, 48, 48, 48, 48, 90]⟩ := by kernel_rfl
theorem timesynclaw05_awake.mjd : civil_MJD.f 2208988800 = some 40587 := by kernel_rfl
theorem timesynclaw05_awake.md : civil_MonthDays.f 2000 2 = some 29 := by kernel_rfl
abbrev timesynclaw05_awake.cells (y m d h mi s n : Int) : Array Value := #[.int .i64 y, .int .i64 m, .int .i64 d, .int .i64 h, .int .i64 mi, .int .i64 s, .int .i64 n]
theorem timesynclaw05_awake.eq1 (W : World) : (binOp .eql 23 (.agg #[.int .i64 1899, .int .i64 12, .int .i64 31, .int .i64 23, .int .i64 59, .int .i64 59, .int .i64 0]) (.agg #[.int .i64 1899, .int .i64 12, .int .i64 31, .int .i64 23, .int .i64 59, .int .i64 59, .int .i64 0])).run Try.prog W = .ok (.bool true) W := by kernel_rfl
theorem timesynclaw05_awake.eq2 (W : World) : (binOp .eql 23 (.agg #[.int .i64 1972, .int .i64 1, .int .i64 1, .int .i64 0, .int .i64 0, .int .i64 0, .int .i64 0]) (.agg #[.int .i64 1972, .int .i64 1, .int .i64 1, .int .i64 0, .int .i64 0, .int .i64 0, .int .i64 0])).run Try.prog W = .ok (.bool true) W := by kernel_rfl
set_option maxHeartbeats 3200000 in
set_option maxRecDepth 100000 in
theorem timesynclaw05_awake.calls (r : Bool) (w : World) (h : timesynclaw05_awake.f = some r) :
  Calls Try.prog 13 #[] w fun e w' => e = .returned (.bool r) ∧ Below w.heap.size w w' := by
 obtain rfl := Option.some.inj h
 clear h
 have hu := Try.underlying23
 have e1 := timesynclaw05_awake.eq1
 have e2 := timesynclaw05_awake.eq2
 go_enter Try.func13, Try.ntmps13
 go_wp2_with fail
 refine (civil_Of.calls (-1) _ _ _ _ _ _ _ _ _ timesynclaw05_awake.of1).mono ?_
 rintro e w1 ⟨rfl, hb1⟩
 have HB1 := Aside0.mk hb1
 clear hb1
 go_wp2_with fail
 refine (civil_Of.calls 2272060800 _ _ _ _ _ _ _ _ _ timesynclaw05_awake.of2).mono ?_
 rintro e w2 ⟨rfl, hb2⟩
 have HB2 := Aside0.mk (below_step (below_alloc HB1.out _) hb2)
 have A2 := Aside0.mk (blk_below (blk_new w1 (.cells (timesynclaw05_awake.cells 1899 12 31 23 59 59 0) 23)) hb2)
 clear hb2 HB1
 go_wp2_with fail
 refine (civil_Parse.calls _ _ _ _ _ _ _ _ _ _ timesynclaw05_awake.parse).mono ?_
 rintro e w3 ⟨rfl, hb3⟩
 have HB3 := Aside0.mk (below_step (below_alloc HB2.out _) hb3)
 have A3 := Aside0.mk (blk_below (blk_alloc A2.out _) hb3)
 have B3 := Aside0.mk (blk_below (blk_new w2 (.cells (timesynclaw05_awake.cells 1972 1 1 0 0 0 0) 23)) hb3)
 clear hb3 HB2 A2
 go_wp2_with fail
 refine (civil_Of.calls 0 _ _ _ _ _ _ _ _ _ timesynclaw05_awake.of3).mono ?_
 rintro e w4 ⟨rfl, hb4⟩
 have HB4 := Aside0.mk (below_step (below_alloc HB3.out _) hb4)
 have A4 := Aside0.mk (blk_below (blk_alloc A3.out _) hb4)
 have B4 := Aside0.mk (blk_below (blk_alloc B3.out _) hb4)
 clear hb4 HB3 A3 B3
 have a0 := blk_cell A4.out 0
 have a1 := blk_cell A4.out 1
 have a2 := blk_cell A4.out 2
 have a3 := blk_cell A4.out 3
 have a4 := blk_cell A4.out 4
 have a5 := blk_cell A4.out 5
 have a6 := blk_cell A4.out 6
 have b0 := blk_cell B4.out 0
 have b1 := blk_cell B4.out 1
 have b2 := blk_cell B4.out 2
 have b3 := blk_cell B4.out 3
 have b4 := blk_cell B4.out 4
 have b5 := blk_cell B4.out 5
 have b6 := blk_cell B4.out 6
 have l1 := blk_lt A4.out
 have l2 := blk_lt B4.out
 go_wp2_with fail
 refine (civil_Text.calls 1900 1 1 0 0 0 0 _ _ timesynclaw05_awake.text).mono ?_
 rintro e w5 ⟨rfl, hb5⟩
 have HB5 := Aside0.mk (below_step (below_alloc HB4.out _) hb5)
 clear hb5 HB4 A4 B4
 go_wp2_with fail
 refine (civil_MJD.calls 2208988800 _ _ timesynclaw05_awake.mjd).mono ?_
 rintro e w6 ⟨rfl, hb6⟩
 have HB6 := Aside0.mk (below_step HB5.out hb6.below)
 clear hb6 HB5
 go_wp2_with fail
 refine (civil_MonthDays.calls 2000 2 _ _ timesynclaw05_awake.md).mono ?_
 rintro e w7 ⟨rfl, hb7⟩
 have HB7 := Aside0.mk (below_step HB6.out hb7)
 clear hb7 HB6
 go_wp2
 go_ret
 exact ⟨rfl, HB7.out⟩

end Go.Proofs.Ytpchlfjfambgoaa.All
