/- LeapvoteExtends: what the function does. -/
import Derived.Test.YtljbajnmkkebkaaAwake
import Derived.Test.YtljbajnmkkebkaaExtR
namespace Go.Proofs.Ytljbajnmkkebkaa.All
open Go.RowKit Go.Proofs.Ytljbajnmkkebkaa.Vo Go.Proofs.Ytljbajnmkkebkaa.Ext Go.Proofs.YtljbajnmkkebkaaW.PrintWords Go.Proofs.YtljbajnmkkebkaaW.PrintLast Go.Proofs.YtljbajnmkkebkaaW.PrintMore
set_option linter.unusedSimpArgs false
set_option linter.unusedVariables false

/-- The blocks of the table and of the entry. -/
structure timesynclaw54_LeapvoteExtends.At (w0 w : World) (b x : Int) (A : Option Addr) (n c : Nat) (t o : Int) : Prop where
  k0 : w.heap[w0.heap.size]? = some (.cells #[.int .i64 b, .int .i64 x, .slice A n c] 24 (0, 0))
  k1 : w.heap[w0.heap.size + 1]? = some (.cells #[.int .i64 t, .int .i64 o] 44 (0, 0))
  hb : Below w0.heap.size w0 w
theorem timesynclaw54_LeapvoteExtends.At.step {w0 w w' : World} {b x : Int} {A : Option Addr} {n c : Nat} {t o : Int} (h : timesynclaw54_LeapvoteExtends.At w0 w b x A n c t o) (hb : Below w.heap.size w w') : timesynclaw54_LeapvoteExtends.At w0 w' b x A n c t o :=
  ⟨blk_below h.k0 hb, blk_below h.k1 hb, below_step h.hb hb⟩
theorem timesynclaw54_LeapvoteExtends.At.alloc {w0 w : World} {b x : Int} {A : Option Addr} {n c : Nat} {t o : Int} (h : timesynclaw54_LeapvoteExtends.At w0 w b x A n c t o) (q : Obj) : timesynclaw54_LeapvoteExtends.At w0 (w.alloc q) b x A n c t o :=
  ⟨blk_alloc h.k0 q, blk_alloc h.k1 q, below_alloc h.hb q⟩
theorem timesynclaw54_LeapvoteExtends.At.start (w : World) (b x : Int) (A : Option Addr) (n c : Nat) (t o : Int) : timesynclaw54_LeapvoteExtends.At w ((w.alloc (.cells #[.int .i64 b, .int .i64 x, .slice A n c] 24)).alloc (.cells #[.int .i64 t, .int .i64 o] 44)) b x A n c t o := by
  have b0 := blk_new w (.cells #[.int .i64 b, .int .i64 x, .slice A n c] 24)
  have b1 := blk_new (w.alloc (.cells #[.int .i64 b, .int .i64 x, .slice A n c] 24)) (.cells #[.int .i64 t, .int .i64 o] 44)
  refine ⟨blk_alloc b0 _, ?_, below_alloc (below_alloc (Below.refl _ _) _) _⟩
  simpa using b1
def timesynclaw54_LeapvoteExtends.f (_ _ : Int) (_ : List (S44)) (_ _ : Int) : Option Bool := some true
set_option maxHeartbeats 3200000 in
set_option maxRecDepth 100000 in
theorem timesynclaw54_LeapvoteExtends.calls (a0_0 : Int) (a0_1 : Int) (A0_2 : Option Addr) (c0_2 : Nat) (l0_2 : List (S44)) (a1_0 : Int) (a1_1 : Int) (r : Bool) (w : World) (hr0_2 : Kd.C k44 w A0_2 l0_2.length l0_2) (hc0_2 : l0_2.length ≤ c0_2) (h : timesynclaw54_LeapvoteExtends.f a0_0 a0_1 l0_2 a1_0 a1_1 = some r) :
    Calls Try.prog 6 #[.agg #[.int .i64 a0_0, .int .i64 a0_1, .slice A0_2 l0_2.length c0_2], .agg #[.int .i64 a1_0, .int .i64 a1_1]] w fun e w' => e = .returned (.bool r) ∧ Below w.heap.size w w' := by
  obtain rfl := Option.some.inj h
  clear h
  have hu := Try.underlying24
  have hu2 := Try.underlying44
  have HR := Aside0.mk hr0_2
  have HC := Aside0.mk hc0_2
  have HA := Aside0.mk (timesynclaw54_LeapvoteExtends.At.start w a0_0 a0_1 A0_2 l0_2.length c0_2 a1_0 a1_1)
  clear hr0_2 hc0_2
  by_cases h80 : 80 < (l0_2.length : Int)
  · go_enter Try.func6, Try.ntmps6
    go_wp2_with fail
    refine (awake_ok _).mono ?_
    rintro e w1 ⟨rfl, hb1⟩
    replace HA := Aside0.mk (HA.out.step hb1)
    clear hb1
    go_wp2
    go_ret
    exact ⟨rfl, HA.out.hb⟩
  · have hE := ext_f 3000 (by omega) a0_0 a0_1 a1_0 a1_1 l0_2
    have hF := rext_f 3000 (by omega) a0_0 a0_1 a1_0 a1_1 l0_2
    have hL := ext_len a0_0 a0_1 a1_0 a1_1 l0_2 (by omega)
    generalize extS a0_0 a0_1 l0_2 a1_0 a1_1 = R at *
    obtain ⟨r1, r2, r3, r4⟩ := R
    have HE := Aside0.mk hE
    have HF := Aside0.mk hF
    have HS := Aside0.mk (same_f 3000 (by omega) r1 r2 r3 (by exact Nat.le_trans hL (by decide)))
    clear hE hF hL
    go_enter Try.func6, Try.ntmps6
    go_wp2_with fail
    refine (leapvote_Extend.calls 3000 a0_0 a0_1 A0_2 c0_2 l0_2 a1_0 a1_1 r1 r2 r3 r4 _ (Kd.C_below HR.out HA.out.hb) HC.out HE.out).mono ?_
    rintro e w1 ⟨v1, rfl, hr1, hb1⟩
    obtain ⟨A1, c1, rfl⟩ := Kd.R_slice hr1
    have HK1 := Aside0.mk (Kd.C_alloc (Kd.R_reads' hr1).2.2 (.cells #[.int .i64 r1, .int .i64 r2, .slice A1 r3.length c1] 24 (0, 0)))
    have HL1 := Aside0.mk (Kd.R_reads' hr1).2.1
    have HT1 : Aside0 ((w1.alloc (.cells #[.int .i64 r1, .int .i64 r2, .slice A1 r3.length c1] 24 (0, 0))).heap[w1.heap.size]? = some (.cells #[.int .i64 r1, .int .i64 r2, .slice A1 r3.length c1] 24 (0, 0))) := ⟨blk_new w1 _⟩
    replace HA := Aside0.mk ((HA.out.step hb1).alloc (.cells #[.int .i64 r1, .int .i64 r2, .slice A1 r3.length c1] 24 (0, 0)))
    clear hb1 hr1 HE
    have c0 := blk_cell HA.out.k0 0
    have c1' := blk_cell HA.out.k0 1
    have c2 := blk_cell HA.out.k0 2
    have d0 := blk_cell HA.out.k1 0
    have d1 := blk_cell HA.out.k1 1
    go_wp2_with fail
    refine (timesyncref54_Extend.calls 3000 a0_0 a0_1 A0_2 c0_2 l0_2 a1_0 a1_1 r1 r2 r3 r4 _ (Kd.C_below HR.out HA.out.hb) HC.out HF.out).mono ?_
    rintro e w2 ⟨v2, rfl, hr2, hb2⟩
    obtain ⟨A2, c2', rfl⟩ := Kd.R_slice hr2
    have HK2 := Aside0.mk (Kd.C_alloc (Kd.R_reads' hr2).2.2 (.cells #[.int .i64 r1, .int .i64 r2, .slice A2 r3.length c2'] 24 (0, 0)))
    have HL2 := Aside0.mk (Kd.R_reads' hr2).2.1
    have HT2 : Aside0 ((w2.alloc (.cells #[.int .i64 r1, .int .i64 r2, .slice A2 r3.length c2'] 24 (0, 0))).heap[w2.heap.size]? = some (.cells #[.int .i64 r1, .int .i64 r2, .slice A2 r3.length c2'] 24 (0, 0))) := ⟨blk_new w2 _⟩
    replace HK1 := Aside0.mk (Kd.C_alloc (Kd.C_below HK1.out hb2) (.cells #[.int .i64 r1, .int .i64 r2, .slice A2 r3.length c2'] 24 (0, 0)))
    replace HT1 := Aside0.mk (blk_alloc (blk_below HT1.out hb2) (.cells #[.int .i64 r1, .int .i64 r2, .slice A2 r3.length c2'] 24 (0, 0)))
    replace HA := Aside0.mk ((HA.out.step hb2).alloc (.cells #[.int .i64 r1, .int .i64 r2, .slice A2 r3.length c2'] 24 (0, 0)))
    clear hb2 hr2 HF c0 c1' c2 d0 d1
    have s0 := blk_cell HT1.out 0
    have s1 := blk_cell HT1.out 1
    have s2 := blk_cell HT1.out 2
    have t0 := blk_cell HT2.out 0
    have t1 := blk_cell HT2.out 1
    have t2 := blk_cell HT2.out 2
    go_wp2_with fail
    refine (timesyncref54_Same.calls 3000 r1 r2 A1 c1 r3 r1 r2 A2 c2' r3 true _ HK1.out HL1.out HK2.out HL2.out HS.out).mono ?_
    rintro e w3 ⟨rfl, hb3⟩
    replace HA := Aside0.mk (HA.out.step hb3)
    clear hb3 s0 s1 s2 t0 t1 t2
    go_wp2_with fail
    refine (awake_ok _).mono ?_
    rintro e w4 ⟨rfl, hb4⟩
    replace HA := Aside0.mk (HA.out.step hb4)
    clear hb4
    go_wp2
    go_ret
    exact ⟨rfl, HA.out.hb⟩
end Go.Proofs.Ytljbajnmkkebkaa.All
