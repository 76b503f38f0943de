import Derived.Test.YtljbajnmkkebkaaAll11
import Derived.Test.YtljbajnmkkebkaaAll13
import Derived.Test.YtljbajnmkkebkaaAll3
/- awake of timesynclaw54: the chapter's examples. -/
import Derived.Test.YtljbajnmkkebkaaVoterArm
import Derived.Test.YtljbajnmkkebkaaVoterNew
namespace Go.Proofs.Ytljbajnmkkebkaa.Vo
open Go.RowKit Go.Proofs.Ytljbajnmkkebkaa.All Go.Proofs.YtljbajnmkkebkaaW.PrintWords Go.Proofs.YtljbajnmkkebkaaW.PrintLast Go.Proofs.YtljbajnmkkebkaaW.PrintMore
set_option linter.unusedSimpArgs false
set_option linter.unusedVariables false

/-- What a vote leaves. -/
theorem VB.vote {w w' : World} {g : Nat} {n : Int} {fi fa : Nat → Int} {last s i u : Int} (hn : n ≤ 12) (h : VB w g n fi fa last) (hw : VoteW w w' g (voteE n last s i u) s i u) : VB w' g n (if voteE n last s i u = 0 then upd fi s.toNat i else fi) (if voteE n last s i u = 0 then upd fa s.toNat u else fa) (if voteE n last s i u = 0 then u else last) := by
  obtain ⟨d, rfl⟩ := hw
  by_cases e : voteE n last s i u = 0
  · rw [if_pos e, if_pos e, if_pos e, if_pos e]
    have hs : s.toNat < 12 := by
      unfold voteE at e
      split at e
      · omega
      · omega
    have h1 : VB (w.drewN d) g n fi fa last := h
    have h2 := blk_put h1 (2 * s.toNat + 1) (.int .i64 i) (VC_set_ind n fi fa last s.toNat hs i)
    have h3 := blk_put h2 (2 * s.toNat + 2) (.int .i64 u) (VC_set_at n _ fa last s.toNat hs u)
    exact blk_put h3 25 (.int .i64 u) (VC_set_last n _ _ last u)
  · rw [if_neg e, if_neg e, if_neg e, if_neg e]
    exact h
theorem VoteW.below {w0 w w' : World} {b g : Nat} {e s i u : Int} (hb : Below b w0 w) (hg : b ≤ g) (h : VoteW w w' g e s i u) : Below b w0 w' := by
  obtain ⟨d, rfl⟩ := h
  by_cases e0 : e = 0
  · rw [if_pos e0]
    exact (((pw_below_drewN hb d).setCell hg _).setCell hg _).setCell hg _
  · rw [if_neg e0]
    exact pw_below_drewN hb d
theorem VoteW.far {w w' : World} {g h : Nat} {e s i u : Int} {t : TypeId} {cs : Array Value} (hh : w.heap[h]? = some (.cells cs t (0, 0))) (hn : h ≠ g) (hw : VoteW w w' g e s i u) : w'.heap[h]? = some (.cells cs t (0, 0)) := by
  obtain ⟨d, rfl⟩ := hw
  by_cases e0 : e = 0
  · rw [if_pos e0]
    have h1 : (w.drewN d).heap[h]? = some (.cells cs t (0, 0)) := hh
    exact blk_far (p := ⟨g, 25, none⟩) (blk_far (p := ⟨g, 2 * s.toNat + 2, none⟩) (blk_far (p := ⟨g, 2 * s.toNat + 1, none⟩) h1 hn _) hn _) hn _
  · rw [if_neg e0]
    exact hh
theorem VB.step {w w' : World} {g : Nat} {n : Int} {fi fa : Nat → Int} {last : Int} (h : VB w g n fi fa last) (hb : Below w.heap.size w w') : VB w' g n fi fa last := blk_below h hb
theorem row1 {w : World} {g : Nat} {a b : Int} (h : w.heap[g]? = some (.cells #[.int .i64 a, .int .i64 b] 44 (0, 0))) : Kd.C k44 w (some ⟨g, 0, none⟩) 1 [⟨a, b⟩] := by
  refine ⟨rfl, by omega, fun _ => ⟨_, rfl, fun j p hj => ?_⟩⟩
  obtain rfl : j = 0 := by
    have := (List.getElem?_eq_some_iff.1 hj).1
    simp at this
    omega
  obtain rfl : (⟨a, b⟩ : S44) = p := by simpa using hj
  refine ⟨[.int .i64 a, .int .i64 b], rfl, k44_mk w _, fun i u hi => ?_⟩
  have hc := blk_cell h i
  have e : (#[Value.int .i64 a, Value.int .i64 b] : Array Value)[i]? = some u := by simpa using hi
  rw [e] at hc
  have e2 : (⟨g, 0, none⟩ : Addr).add (0 * k44.sz + i) = ⟨g, i, none⟩ := by
    by_cases g : i = 0 <;> simp [Addr.add, g]
  rw [e2]
  exact hc
def aw (k : Nat) : Int := if k < 2 then 1 else 0
def awfi : Nat → Nat → Int
  | 0 => fresh 12
  | k + 1 => upd (awfi k) k (aw k)
def awfa : Nat → Nat → Int
  | 0 => fun _ => 0
  | k + 1 => upd (awfa k) k 2287000000
def awla (k : Nat) : Int := if k = 0 then -8000000000 else 2287000000
/-- What awake's loop holds: the voter and the three indicators. -/
structure AW (w0 w : World) (g k : Nat) : Prop where
  kv : VB w w0.heap.size 3 (awfi k) (awfa k) (awla k)
  k1 : w.heap[g]? = some (.cells #[.int .i64 1, .int .i64 1, .int .i64 0] 3 (0, 0))
  hg : w0.heap.size < g
  hb : Below w0.heap.size w0 w
theorem AW.step {w0 w w' : World} {g k : Nat} (h : AW w0 w g k) (hb : Below w.heap.size w w') : AW w0 w' g k := ⟨blk_below h.kv hb, blk_below h.k1 hb, h.hg, below_step h.hb hb⟩
theorem AW.alloc {w0 w : World} {g k : Nat} (h : AW w0 w g k) (o : Obj) : AW w0 (w.alloc o) g k := ⟨blk_alloc h.kv o, blk_alloc h.k1 o, h.hg, below_alloc h.hb o⟩
theorem awE (k : Nat) (h : k < 3) : voteE 3 (awla k) (k : Int) (aw k) 2287000000 = 0 := by
  unfold voteE awla aw
  rw [if_neg (by split <;> omega), if_neg (by split <;> omega)]
theorem AW.round {w0 w w' : World} {g k : Nat} (h : AW w0 w g k) (hk : k < 3) (hw : VoteW w w' w0.heap.size (voteE 3 (awla k) (k : Int) (aw k) 2287000000) (k : Int) (aw k) 2287000000) : AW w0 w' g (k + 1) := by
  have h1 := VB.vote (by decide) h.kv hw
  rw [if_pos (awE k hk), if_pos (awE k hk), if_pos (awE k hk), Int.toNat_natCast] at h1
  exact ⟨h1, VoteW.far h.k1 (by have := h.hg; omega) hw, h.hg, VoteW.below h.hb (Nat.le_refl _) hw⟩
theorem AW.calls {w0 W : World} {g k : Nat} (h : AW w0 W g k) (hk : k < 3) : Calls Try.prog 18 #[.pointer (some ⟨w0.heap.size, 0, none⟩), .int .i64 (k : Int), .int .i64 (aw k), .int .i64 2287000000] W fun e w' => e = .returned (.int .i64 0) ∧ AW w0 w' g (k + 1) := by
  refine (vote_ok w0.heap.size 3 (awfi k) (awfa k) (awla k) (k : Int) (aw k) 2287000000 W (by decide) h.kv).mono ?_
  rintro e w1 ⟨rfl, hw⟩
  exact ⟨by rw [awE k hk], h.round hk hw⟩
theorem awGood : Good (awfi 3) (awfa 3) := by
  intro j hj
  have e : ∀ j, j < 12 → (0 ≤ awfi 3 j ∧ awfi 3 j ≤ 3) ∧ (-8000000000 ≤ awfa 3 j ∧ awfa 3 j ≤ 8000000000) := by decide
  exact e j hj
theorem aw0 : tc (awfi 3) (awfa 3) 2287000000 0 3 = 1 := by decide
theorem aw1 : tc (awfi 3) (awfa 3) 2287000000 1 3 = 2 := by decide
theorem aw2 : tc (awfi 3) (awfa 3) 2287000000 2 3 = 0 := by decide
theorem awD : decV (awfi 3) (awfa 3) 2287000000 3 = 1 := by decide
theorem awD2 : decV (awfi 3) (awfa 3) 2287086400 3 = 3 := by decide
theorem awM : leap_month.f 2287000000 1 = some (2287785600, true) := by kernel_rfl
theorem awX : leapvote_Extend.f 400 10 0 [] 2287785600 1 = some (10, 2287785601, [⟨2287785600, 11⟩], 0) := by kernel_rfl
theorem awS : timesyncref54_Same.f 400 10 2287785601 [⟨2287785600, 11⟩] 10 2287785601 [⟨2287785600, 11⟩] = some true := by kernel_rfl
set_option maxHeartbeats 3200000 in
set_option maxRecDepth 100000 in
theorem awake_ok (w : World) : Calls Try.prog 26 #[] w fun e w' => e = .returned (.bool true) ∧ Below w.heap.size w w' := by
  have hu := Try.underlying24
  have hu2 := Try.underlying44
  have HB0 := Aside0.mk (Below.refl w.heap.size w)
  go_enter Try.func26, Try.ntmps26
  go_wp2_with fail
  refine (new_ok 3 _ (by decide) (by decide)).mono ?_
  rintro e w1 ⟨rfl, hv1, hb1⟩
  have HA : Aside0 (AW w (w1.alloc (.cells #[.int .i64 1, .int .i64 1, .int .i64 0] 3 (0, 0))) w1.heap.size 0) := ⟨⟨blk_alloc hv1 _, blk_new w1 _, blk_lt hv1, below_alloc hb1 _⟩⟩
  clear hv1 hb1 HB0
  go_wp2
  go_loopw [14] (fun q W => ∃ k : Nat, k ≤ 3 ∧ q = .int .i64 (k : Int) ∧ Aside0 (AW w W w1.heap.size k)) (fun q _ => 3 - (intOf q).toNat)
  case atStart => exact ⟨0, by omega, rfl, HA⟩
  case round =>
    clear HA
    obtain ⟨k, hk, rfl, HA⟩ := hrel
    by_cases hk2 : k < 3
    · have l1 := blk_lt HA.out.k1
      have hk3 : (k : Int) < 3 := by omega
      have ck : wr.cell? ⟨w1.heap.size, k, none⟩ = some (.int .i64 (aw k)) := by
        have h := blk_cell HA.out.k1 k
        obtain rfl | rfl | rfl : k = 0 ∨ k = 1 ∨ k = 2 := by omega
        · exact h
        · exact h
        · exact h
      have HV := Aside0.mk (HA.out.calls hk2)
      clear HA
      generalize aw k = A at *
      go_wp2_with fail
      refine HV.out.mono ?_
      rintro e w2 ⟨rfl, hw⟩
      have HW := Aside0.mk hw
      clear hw HV
      go_wp2
      go_roundw
      case rel => exact ⟨k + 1, by omega, by go_num, HW⟩
      case measure => simp [intOf]; omega
    · obtain rfl : k = 3 := by omega
      have HM := Aside0.mk awM
      have HX := Aside0.mk awX
      have HS := Aside0.mk awS
      have HC := Aside0.mk (fun W (hW : AW w W w1.heap.size 3) => counts_ok w.heap.size 3 (awfi 3) (awfa 3) (awla 3) 2287000000 W (by decide) hW.kv awGood)
      rw [aw0, aw1, aw2] at HC
      have HR := Aside0.mk (fun W (hW : AW w W w1.heap.size 3) => arm_ok w.heap.size 3 (awfi 3) (awfa 3) (awla 3) 2287000000 2287785600 true W awM (by decide) hW.kv awGood)
      rw [awD, show armR 1 2287785600 true = (2287785600, 1, true) from rfl] at HR
      have HD := Aside0.mk (fun W (hW : AW w W w1.heap.size 3) => decision_ok w.heap.size 3 (awfi 3) (awfa 3) (awla 3) 2287000000 W (by decide) hW.kv awGood)
      rw [awD] at HD
      have HE := Aside0.mk (fun W (hW : AW w W w1.heap.size 3) => decision_ok w.heap.size 3 (awfi 3) (awfa 3) (awla 3) 2287086400 W (by decide) hW.kv awGood)
      rw [awD2] at HE
      go_wp2_with fail
      refine (HC.out _ HA.out).mono ?_
      rintro e w2 ⟨rfl, hb2⟩
      replace HA := Aside0.mk (HA.out.step hb2)
      clear hb2 HC
      go_wp2_with fail
      refine (HR.out _ HA.out).mono ?_
      rintro e w3 ⟨rfl, hb3⟩
      replace HA := Aside0.mk (HA.out.step hb3)
      clear hb3 HR
      have HE3 : Aside0 ((w3.alloc (.cells #[.int .i64 2287785600, .int .i64 1] 44 (0, 0))).heap[w3.heap.size]? = some (.cells #[.int .i64 2287785600, .int .i64 1] 44 (0, 0))) := ⟨blk_new w3 _⟩
      replace HA := Aside0.mk (HA.out.alloc (.cells #[.int .i64 2287785600, .int .i64 1] 44 (0, 0)))
      go_wp2_with fail
      refine (leapvote_Extend.calls 400 10 0 none 0 [] 2287785600 1 _ _ _ _ _ (Kd.C_nil _ _) (Nat.le_refl _) HX.out).mono ?_
      rintro e w4 ⟨v4, rfl, hr4, hb4⟩
      obtain ⟨A4, c4, rfl⟩ := Kd.R_slice hr4
      have HK := Aside0.mk (Kd.R_reads' hr4).2.2
      have Hc := Aside0.mk (Kd.R_reads' hr4).2.1
      replace HA := Aside0.mk (HA.out.step hb4)
      replace HE3 := Aside0.mk (blk_below HE3.out hb4)
      clear hb4 hr4 HX
      have HT : Aside0 ((w4.alloc (.cells #[.int .i64 10, .int .i64 2287785601, .slice A4 1 c4] 24 (0, 0))).heap[w4.heap.size]? = some (.cells #[.int .i64 10, .int .i64 2287785601, .slice A4 1 c4] 24 (0, 0))) := ⟨blk_new w4 _⟩
      replace HA := Aside0.mk (HA.out.alloc (.cells #[.int .i64 10, .int .i64 2287785601, .slice A4 1 c4] 24 (0, 0)))
      replace HE3 := Aside0.mk (blk_alloc HE3.out (.cells #[.int .i64 10, .int .i64 2287785601, .slice A4 1 c4] 24 (0, 0)))
      replace HK := Aside0.mk (Kd.C_alloc HK.out (.cells #[.int .i64 10, .int .i64 2287785601, .slice A4 1 c4] 24 (0, 0)))
      go_wp2_with fail
      refine (HD.out _ HA.out).mono ?_
      rintro e w5 ⟨rfl, hb5⟩
      replace HA := Aside0.mk (HA.out.step hb5)
      replace HE3 := Aside0.mk (blk_below HE3.out hb5)
      replace HT := Aside0.mk (blk_below HT.out hb5)
      replace HK := Aside0.mk (Kd.C_below HK.out hb5)
      clear hb5 HD
      go_wp2_with fail
      refine (HE.out _ HA.out).mono ?_
      rintro e w6 ⟨rfl, hb6⟩
      replace HA := Aside0.mk (HA.out.step hb6)
      replace HE3 := Aside0.mk (blk_below HE3.out hb6)
      replace HT := Aside0.mk (blk_below HT.out hb6)
      replace HK := Aside0.mk (Kd.C_below HK.out hb6)
      clear hb6 HE
      have e0 := blk_cell HE3.out 0
      have e1 := blk_cell HE3.out 1
      have t0 := blk_cell HT.out 0
      have t1 := blk_cell HT.out 1
      have t2 := blk_cell HT.out 2
      go_wp2_with fail
      refine (timesyncref54_Same.calls 400 10 2287785601 A4 c4 [⟨2287785600, 11⟩] 10 2287785601 (some ⟨w6.heap.size, 0, none⟩) 1 [⟨2287785600, 11⟩] true _ (Kd.C_alloc HK.out _) Hc.out (row1 (blk_new w6 _)) (Nat.le_refl _) HS.out).mono ?_
      rintro e w7 ⟨rfl, hb7⟩
      have HB := Aside0.mk ((HA.out.alloc _).step hb7).hb
      clear hb7
      go_wp2
      go_ret
      exact ⟨rfl, HB.out⟩
end Go.Proofs.Ytljbajnmkkebkaa.Vo
