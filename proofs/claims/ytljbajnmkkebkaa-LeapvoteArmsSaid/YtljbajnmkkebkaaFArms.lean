/- LeapvoteArms: what the function does. -/
import Derived.Test.YtljbajnmkkebkaaVs
import Derived.Test.YtljbajnmkkebkaaOff
namespace Go.Proofs.Ytljbajnmkkebkaa.All
open Go.RowKit Go.Proofs.Ytljbajnmkkebkaa.Vo Go.Proofs.Ytljbajnmkkebkaa.CivB Go.Proofs.Ytljbajnmkkebkaa.Ext Go.Proofs.Ytljbajnmkkebkaa.Off Go.Proofs.YtljbajnmkkebkaaW.PrintWords Go.Proofs.YtljbajnmkkebkaaW.PrintLast Go.Proofs.YtljbajnmkkebkaaW.PrintMore
set_option linter.unusedSimpArgs false
set_option linter.unusedVariables false

/-- The block of the table. -/
structure timesynclaw54_LeapvoteArms.At (w0 w : World) (b x : Int) (A : Option Addr) (n c : Nat) : Prop where
  k0 : w.heap[w0.heap.size]? = some (.cells #[.int .i64 b, .int .i64 x, .slice A n c] 24 (0, 0))
  hb : Below w0.heap.size w0 w
theorem timesynclaw54_LeapvoteArms.At.step {w0 w w' : World} {b x : Int} {A : Option Addr} {n c : Nat} (h : timesynclaw54_LeapvoteArms.At w0 w b x A n c) (hb : Below w.heap.size w w') : timesynclaw54_LeapvoteArms.At w0 w' b x A n c :=
  ⟨blk_below h.k0 hb, below_step h.hb hb⟩
theorem timesynclaw54_LeapvoteArms.At.alloc {w0 w : World} {b x : Int} {A : Option Addr} {n c : Nat} (h : timesynclaw54_LeapvoteArms.At w0 w b x A n c) (q : Obj) : timesynclaw54_LeapvoteArms.At w0 (w.alloc q) b x A n c :=
  ⟨blk_alloc h.k0 q, below_alloc h.hb q⟩
theorem timesynclaw54_LeapvoteArms.At.start (w : World) (b x : Int) (A : Option Addr) (n c : Nat) : timesynclaw54_LeapvoteArms.At w (w.alloc (.cells #[.int .i64 b, .int .i64 x, .slice A n c] 24)) b x A n c :=
  ⟨blk_new w _, below_alloc (Below.refl _ _) _⟩
theorem timesynclaw54_LeapvoteArms.At.vote {w0 w w' : World} {b x : Int} {A : Option Addr} {n c g : Nat} {e s i u : Int} (h : timesynclaw54_LeapvoteArms.At w0 w b x A n c) (hg : w0.heap.size < g) (hw : VoteW w w' g e s i u) : timesynclaw54_LeapvoteArms.At w0 w' b x A n c :=
  ⟨VoteW.far h.k0 (by omega) hw, VoteW.below h.hb (by omega) hw⟩
def timesynclaw54_LeapvoteArms.f (_ _ : Int) (_ : List (S44)) (_ : Int) (_ : Bool) : Option Bool := some true
set_option maxHeartbeats 6400000 in
set_option maxRecDepth 100000 in
theorem timesynclaw54_LeapvoteArms.calls (a0_0 : Int) (a0_1 : Int) (A0_2 : Option Addr) (c0_2 : Nat) (l0_2 : List (S44)) (a1 : Int) (a2 : Bool) (r : Bool) (w : World) (hr0_2 : Kd.C k44 w A0_2 l0_2.length l0_2) (hc0_2 : l0_2.length ≤ c0_2) (h : timesynclaw54_LeapvoteArms.f a0_0 a0_1 l0_2 a1 a2 = some r) :
    Calls Try.prog 9 #[.agg #[.int .i64 a0_0, .int .i64 a0_1, .slice A0_2 l0_2.length c0_2], .int .i64 a1, .bool a2] w fun e w' => e = .returned (.bool r) ∧ Below w.heap.size w w' := by
  obtain rfl := Option.some.inj h
  clear h
  have hu := Try.underlying24
  have hu2 := Try.underlying44
  have HR := Aside0.mk hr0_2
  have HC := Aside0.mk hc0_2
  have HA := Aside0.mk (timesynclaw54_LeapvoteArms.At.start w a0_0 a0_1 A0_2 l0_2.length c0_2)
  clear hr0_2 hc0_2
  by_cases h80 : 80 < (l0_2.length : Int)
  · go_enter Try.func9, Try.ntmps9
    go_wp2_with fail
    refine (awake_ok _).mono ?_
    rintro e w1 ⟨rfl, hb1⟩
    replace HA := Aside0.mk (HA.out.step hb1)
    clear hb1
    go_wp2
    go_ret
    exact ⟨rfl, HA.out.hb⟩
  cases a2
  · have HN := Aside0.mk (fun W => new_ok 1 W (by omega) (by omega))
    by_cases hu8 : -8000000000 ≤ a1 ∧ a1 ≤ 8000000000
    · obtain ⟨t, ok, hm, hok, _⟩ := next_spec a1 hu8
      have HM := Aside0.mk hm
      clear hm
      obtain ⟨u0, u1⟩ := hu8
      go_enter Try.func9, Try.ntmps9
      go_wp2_with fail
      refine (HN.out _).mono ?_
      rintro e w1 ⟨rfl, hv1, hb1⟩
      replace HA := Aside0.mk (HA.out.step hb1)
      have hsz : (w.alloc (.cells #[.int .i64 a0_0, .int .i64 a0_1, .slice A0_2 l0_2.length c0_2] 24)).heap.size = w.heap.size + 1 := by simp
      rw [hsz] at hv1
      clear hb1 HN
      have HS : Aside0 (VS w w1 (w.heap.size + 1) 1 (fun _ => 2) a1 0) := ⟨⟨by rw [vfi_0, vfa_0]; exact hv1, by omega, HA.out.hb⟩⟩
      clear hv1
      have HV := Aside0.mk (HS.out.calls (by decide) (by decide) (by decide) ⟨u0, u1⟩)
      clear HS
      go_wp2_with fail
      refine HV.out.mono ?_
      rintro e w2 ⟨rfl, hs2, hw2⟩
      have HS := Aside0.mk hs2
      replace HA := Aside0.mk (HA.out.vote (by omega) hw2)
      clear hs2 hw2 HV
      have HG := Aside0.mk (vs_good (m := 1) (X := fun _ => (2 : Int)) (u := a1) (fun j _ => by decide) ⟨u0, u1⟩)
      have HQ := Aside0.mk (fun W (hW : VS w W (w.heap.size + 1) 1 (fun _ => 2) a1 1) => arm_ok (w.heap.size + 1) 1 _ _ _ a1 t ok W HM.out (by decide) hW.kv HG.out)
      rw [decV_new _ _ _ _ ⟨u0, u1⟩ (by omega), dec_most _ 2 1 (by decide) (by decide)] at HQ
      cases ok
      · rw [show armR 2 t false = (0, 0, false) from rfl] at HQ
        go_wp2_with fail
        refine (HQ.out _ HS.out).mono ?_
        rintro e w3 ⟨rfl, hb3⟩
        replace HA := Aside0.mk (HA.out.step hb3)
        clear hb3 HQ HG HM
        replace HA := Aside0.mk (HA.out.alloc (.cells #[.int .i64 0, .int .i64 0] 44 (0, 0)))
        go_wp2_with fail
        refine (awake_ok _).mono ?_
        rintro e wz ⟨rfl, hbz⟩
        replace HA := Aside0.mk (HA.out.step hbz)
        clear hbz
        go_wp2
        go_ret
        exact ⟨rfl, HA.out.hb⟩
      · obtain ⟨t0, t1, t2⟩ := hok rfl
        have tl := mb_lt t2
        have t3 := (mb_in t2).1.1
        clear hok
        rw [show armR 2 t true = (t, -1, true) from rfl] at HQ
        go_wp2_with fail
        refine (HQ.out _ HS.out).mono ?_
        rintro e w3 ⟨rfl, hb3⟩
        replace HA := Aside0.mk (HA.out.step hb3)
        clear hb3 HQ HG HM
        have HE : Aside0 ((w3.alloc (.cells #[.int .i64 t, .int .i64 (-1)] 44 (0, 0))).heap[w3.heap.size]? = some (.cells #[.int .i64 t, .int .i64 (-1)] 44 (0, 0))) := ⟨blk_new w3 _⟩
        replace HA := Aside0.mk (HA.out.alloc (.cells #[.int .i64 t, .int .i64 (-1)] 44 (0, 0)))
        clear HS
        have hE := ext_f 3000 (by omega) a0_0 a0_1 t (-1) l0_2
        obtain ⟨R, hR⟩ : ∃ R, extS a0_0 a0_1 l0_2 t (-1) = R := ⟨_, rfl⟩
        rw [hR] at hE
        obtain ⟨r1, r2, r3, r4⟩ := R
        have HX := Aside0.mk hE
        clear hE
        by_cases r0 : r4 = 0
        · subst r0
          obtain ⟨k1, k2, k3, k4, k5, k6, e1, rfl, rfl⟩ := ext_ok hR
          have e1' := e1.symm
          clear e1
          subst e1'
          have hT := chk_0 a0_0 a0_1 l0_2 k1
          have k7 := chk_ext k1 k2 k3 k4 k5 k6
          have k8 : lastP (-9000000000) l0_2 < t := by rw [← lastP_prv]; omega
          have o1 := OL_snoc_at t (oldI a0_0 l0_2 l0_2.length + -1) l0_2 a0_0 _ hT.chain k8
          have o2 := OL_snoc_lt (t - 1) t (oldI a0_0 l0_2 l0_2.length + -1) (by omega) l0_2 a0_0
          have o3 := OL_snoc_lt a1 t (oldI a0_0 l0_2 l0_2.length + -1) (by omega) l0_2 a0_0
          have o4 := OL_late (t - 1) l0_2 a0_0 _ hT.chain (by omega)
          rw [← lastO_old] at o4
          rw [o4] at o2
          have ko := (oldI_ok k1).1
          have F0 := Aside0.mk (leap_check 3000 (by omega) a0_0 (mx a0_1 (t + 1)) (l0_2 ++ [⟨t, oldI a0_0 l0_2 l0_2.length + -1⟩]))
          rw [k7] at F0
          have F1 := Aside0.mk (offset_f 3000 (by omega) a0_0 (mx a0_1 (t + 1)) (t - 1) _ k7)
          rw [o2] at F1
          have F2 := Aside0.mk (offset_f 3000 (by omega) a0_0 (mx a0_1 (t + 1)) t _ k7)
          rw [o1] at F2
          have F3 := Aside0.mk (offset_f 3000 (by omega) a0_0 a0_1 (t - 1) l0_2 k1)
          rw [o4] at F3
          have F4 := Aside0.mk (offset_f 3000 (by omega) a0_0 (mx a0_1 (t + 1)) a1 _ k7)
          rw [o3] at F4
          have F5 := Aside0.mk (offset_f 3000 (by omega) a0_0 a0_1 a1 l0_2 k1)
          have hlen : (l0_2 ++ [(⟨t, oldI a0_0 l0_2 l0_2.length + -1⟩ : S44)]).length = l0_2.length + 1 := by simp
          have mge := (mx_ge a0_1 (t + 1)).1
          clear hR k1 k2 k3 k4 k5 k7 k8 o1 o2 o3 o4 hT
          generalize oldI a0_0 l0_2 l0_2.length = o at *
          generalize OL a1 a0_0 l0_2 = p at *
          generalize hm : mx a0_1 (t + 1) = M at *
          clear hm
          have hlenI : (((l0_2 ++ [(⟨t, o + -1⟩ : S44)]).length : Nat) : Int) = (l0_2.length : Int) + 1 := by simp
          generalize l0_2 ++ [(⟨t, o + -1⟩ : S44)] = r3 at *
          have hq : ((r3.length : Int) != (l0_2.length : Int) + 1) = false := by rw [hlenI]; exact bne_self_eq_false _
          have hq2 : ((r3.length : Int) = (l0_2.length : Int) + 1) = True := eq_true hlenI
          have hq3 : ((r3.length : Int) == (l0_2.length : Int) + 1) = true := by rw [hlenI]; exact beq_self_eq_true _
          clear hlen hlenI
          have e0 := blk_cell HE.out 0
          have e1 := blk_cell HE.out 1
          have c0 := blk_cell HA.out.k0 0
          have c1 := blk_cell HA.out.k0 1
          have c2 := blk_cell HA.out.k0 2
          go_wp2_with fail
          refine (leapvote_Extend.calls 3000 a0_0 a0_1 A0_2 c0_2 l0_2 t (-1) _ _ _ _ _ (Kd.C_below HR.out HA.out.hb) HC.out HX.out).mono ?_
          rintro e w4 ⟨v4, rfl, hr4, hb4⟩
          obtain ⟨A4, c4, rfl⟩ := Kd.R_slice hr4
          replace HA := Aside0.mk (HA.out.step hb4)
          replace HE := Aside0.mk (blk_below HE.out hb4)
          have HK0 := (Kd.R_reads' hr4).2.2
          have HL := Aside0.mk (Kd.R_reads' hr4).2.1
          clear hb4 hr4 HX e0 e1 c0 c1 c2
          replace HA := Aside0.mk (HA.out.alloc (.cells #[.int .i64 a0_0, .int .i64 M, .slice A4 r3.length c4] 24 (0, 0)))
          replace HE := Aside0.mk (blk_alloc HE.out (.cells #[.int .i64 a0_0, .int .i64 M, .slice A4 r3.length c4] 24 (0, 0)))
          have HX : Aside0 ((w4.alloc (.cells #[.int .i64 a0_0, .int .i64 M, .slice A4 r3.length c4] 24 (0, 0))).heap[w4.heap.size]? = some (.cells #[.int .i64 a0_0, .int .i64 M, .slice A4 r3.length c4] 24 (0, 0))) := ⟨blk_new w4 _⟩
          have HK := Aside0.mk (Kd.C_alloc HK0 (.cells #[.int .i64 a0_0, .int .i64 M, .slice A4 r3.length c4] 24 (0, 0)))
          clear HK0
          have e0 := blk_cell HE.out 0
          have e1 := blk_cell HE.out 1
          have c0 := blk_cell HA.out.k0 0
          have c1 := blk_cell HA.out.k0 1
          have c2 := blk_cell HA.out.k0 2
          have x0 := blk_cell HX.out 0
          have x1 := blk_cell HX.out 1
          have x2 := blk_cell HX.out 2
          go_wp2_with fail
          refine (leap_Check.calls 3000 a0_0 M A4 c4 r3 _ _ HK.out HL.out F0.out).mono ?_
          rintro e w5 ⟨rfl, hb5⟩
          replace HA := Aside0.mk (HA.out.step hb5)
          replace HE := Aside0.mk (blk_below HE.out hb5)
          replace HX := Aside0.mk (blk_below HX.out hb5)
          replace HK := Aside0.mk (Kd.C_below HK.out hb5)
          clear hb5 e0 e1 c0 c1 c2 x0 x1 x2
          have e0 := blk_cell HE.out 0
          have e1 := blk_cell HE.out 1
          have c0 := blk_cell HA.out.k0 0
          have c1 := blk_cell HA.out.k0 1
          have c2 := blk_cell HA.out.k0 2
          have x0 := blk_cell HX.out 0
          have x1 := blk_cell HX.out 1
          have x2 := blk_cell HX.out 2
          have hw : IntKind.i64.wrap (t - 1) = t - 1 := (i64_w _).trans (by unfold wrap64; omega)
          have hd : IntKind.i64.wrap (o + -1 - o) = -1 := (i64_w _).trans (by unfold wrap64; omega)
          go_wp2_with fail
          go_region_held3 (fun W => W.cell? ⟨w4.heap.size, 0, none⟩ = some (.int .i64 a0_0) ∧ W.cell? ⟨w4.heap.size, 1, none⟩ = some (.int .i64 M) ∧ W.cell? ⟨w4.heap.size, 2, none⟩ = some (.slice A4 r3.length c4) ∧ W.cell? ⟨w3.heap.size, 0, none⟩ = some (.int .i64 t) ∧ W.cell? ⟨w3.heap.size, 1, none⟩ = some (.int .i64 (-1)) ∧ W.cell? ⟨w.heap.size, 0, none⟩ = some (.int .i64 a0_0) ∧ W.cell? ⟨w.heap.size, 1, none⟩ = some (.int .i64 a0_1) ∧ W.cell? ⟨w.heap.size, 2, none⟩ = some (.slice A0_2 l0_2.length c0_2) ∧ Aside0 (timesynclaw54_LeapvoteArms.At w W a0_0 a0_1 A0_2 l0_2.length c0_2) ∧ Aside0 (W.heap[w3.heap.size]? = some (.cells #[.int .i64 t, .int .i64 (-1)] 44 (0, 0))) ∧ Aside0 (W.heap[w4.heap.size]? = some (.cells #[.int .i64 a0_0, .int .i64 M, .slice A4 r3.length c4] 24 (0, 0))) ∧ Aside0 (Kd.C k44 W A4 r3.length r3))
            (first
              | exact ⟨x0, x1, x2, e0, e1, c0, c1, c2, ⟨HA.out.step (below_drew (Below.refl _ _))⟩, ⟨HE.out⟩, ⟨HX.out⟩, ⟨Kd.C_drew HK.out⟩⟩
              | (go_split_ands; exact ⟨pw_cell_below hb (by with_reducible assumption), pw_cell_below hb (by with_reducible assumption), pw_cell_below hb (by with_reducible assumption), pw_cell_below hb (by with_reducible assumption), pw_cell_below hb (by with_reducible assumption), pw_cell_below hb (by with_reducible assumption), pw_cell_below hb (by with_reducible assumption), pw_cell_below hb (by with_reducible assumption), ⟨timesynclaw54_LeapvoteArms.At.step (by exact Aside0.out (by with_reducible assumption)) hb⟩, ⟨blk_below (g := w3.heap.size) (o := .cells #[.int .i64 t, .int .i64 (-1)] 44 (0, 0)) (by exact Aside0.out (by with_reducible assumption)) hb⟩, ⟨blk_below (g := w4.heap.size) (o := .cells #[.int .i64 a0_0, .int .i64 M, .slice A4 r3.length c4] 24 (0, 0)) (by exact Aside0.out (by with_reducible assumption)) hb⟩, ⟨Kd.C_below (by exact Aside0.out (by with_reducible assumption)) hb⟩⟩))
            (first | (go_at_call 24; with_reducible refine (leap_Offset.calls 3000 a0_0 M A4 c4 r3 (t - 1) _ _ ?hK HL.out F1.out).mono ?_; (case hK => (go_split_ands; exact Aside0.out (by with_reducible assumption))); rintro e w' ⟨rfl, hb⟩) | (go_at_call 24; with_reducible refine (leap_Offset.calls 3000 a0_0 M A4 c4 r3 t _ _ ?hK HL.out F2.out).mono ?_; (case hK => (go_split_ands; exact Aside0.out (by with_reducible assumption))); rintro e w' ⟨rfl, hb⟩))
          have hHeld := ‹_ ∧ _ ∧ _ ∧ _ ∧ _ ∧ _ ∧ _ ∧ _ ∧ Aside0 (timesynclaw54_LeapvoteArms.At w _ a0_0 a0_1 _ _ _) ∧ _›
          clear x0 x1 x2 e0 e1 c0 c1 c2 HA HE HX HK
          obtain ⟨x0, x1, x2, e0, e1, c0, c1, c2, HA, HE, HX, HK⟩ := hHeld
          go_wp2_with fail
          go_region_held3 (fun W => W.cell? ⟨w4.heap.size, 0, none⟩ = some (.int .i64 a0_0) ∧ W.cell? ⟨w4.heap.size, 1, none⟩ = some (.int .i64 M) ∧ W.cell? ⟨w4.heap.size, 2, none⟩ = some (.slice A4 r3.length c4) ∧ W.cell? ⟨w3.heap.size, 0, none⟩ = some (.int .i64 t) ∧ W.cell? ⟨w3.heap.size, 1, none⟩ = some (.int .i64 (-1)) ∧ W.cell? ⟨w.heap.size, 0, none⟩ = some (.int .i64 a0_0) ∧ W.cell? ⟨w.heap.size, 1, none⟩ = some (.int .i64 a0_1) ∧ W.cell? ⟨w.heap.size, 2, none⟩ = some (.slice A0_2 l0_2.length c0_2) ∧ Aside0 (timesynclaw54_LeapvoteArms.At w W a0_0 a0_1 A0_2 l0_2.length c0_2) ∧ Aside0 (W.heap[w3.heap.size]? = some (.cells #[.int .i64 t, .int .i64 (-1)] 44 (0, 0))) ∧ Aside0 (W.heap[w4.heap.size]? = some (.cells #[.int .i64 a0_0, .int .i64 M, .slice A4 r3.length c4] 24 (0, 0))) ∧ Aside0 (Kd.C k44 W A4 r3.length r3))
            (first
              | exact ⟨x0, x1, x2, e0, e1, c0, c1, c2, ⟨HA.out.step (below_drew (Below.refl _ _))⟩, ⟨HE.out⟩, ⟨HX.out⟩, ⟨Kd.C_drew HK.out⟩⟩
              | (go_split_ands; exact ⟨pw_cell_below hb (by with_reducible assumption), pw_cell_below hb (by with_reducible assumption), pw_cell_below hb (by with_reducible assumption), pw_cell_below hb (by with_reducible assumption), pw_cell_below hb (by with_reducible assumption), pw_cell_below hb (by with_reducible assumption), pw_cell_below hb (by with_reducible assumption), pw_cell_below hb (by with_reducible assumption), ⟨timesynclaw54_LeapvoteArms.At.step (by exact Aside0.out (by with_reducible assumption)) hb⟩, ⟨blk_below (g := w3.heap.size) (o := .cells #[.int .i64 t, .int .i64 (-1)] 44 (0, 0)) (by exact Aside0.out (by with_reducible assumption)) hb⟩, ⟨blk_below (g := w4.heap.size) (o := .cells #[.int .i64 a0_0, .int .i64 M, .slice A4 r3.length c4] 24 (0, 0)) (by exact Aside0.out (by with_reducible assumption)) hb⟩, ⟨Kd.C_below (by exact Aside0.out (by with_reducible assumption)) hb⟩⟩))
            (first | (go_at_call 24; with_reducible refine (leap_Offset.calls 3000 a0_0 a0_1 A0_2 c0_2 l0_2 (t - 1) _ _ (Kd.C_below HR.out ?hK) HC.out F3.out).mono ?_; (case hK => (go_split_ands; exact timesynclaw54_LeapvoteArms.At.hb (x := a0_1) (b := a0_0) (A := A0_2) (n := l0_2.length) (c := c0_2) (Aside0.out (by with_reducible assumption)))); rintro e w' ⟨rfl, hb⟩) | (go_at_call 24; with_reducible refine (leap_Offset.calls 3000 a0_0 M A4 c4 r3 a1 _ _ ?hK HL.out F4.out).mono ?_; (case hK => (go_split_ands; exact Aside0.out (by with_reducible assumption))); rintro e w' ⟨rfl, hb⟩) | (go_at_call 24; with_reducible refine (leap_Offset.calls 3000 a0_0 a0_1 A0_2 c0_2 l0_2 a1 _ _ (Kd.C_below HR.out ?hK) HC.out F5.out).mono ?_; (case hK => (go_split_ands; exact timesynclaw54_LeapvoteArms.At.hb (x := a0_1) (b := a0_0) (A := A0_2) (n := l0_2.length) (c := c0_2) (Aside0.out (by with_reducible assumption)))); rintro e w' ⟨rfl, hb⟩) | (go_at_call 26; with_reducible refine (awake_ok _).mono ?_; rintro e w' ⟨rfl, hb⟩))
          have hHeld := ‹_ ∧ _ ∧ _ ∧ _ ∧ _ ∧ _ ∧ _ ∧ _ ∧ Aside0 (timesynclaw54_LeapvoteArms.At w _ a0_0 a0_1 _ _ _) ∧ _›
          clear x0 x1 x2 e0 e1 c0 c1 c2 HA HE HX HK
          obtain ⟨x0, x1, x2, e0, e1, c0, c1, c2, HA, HE, HX, HK⟩ := hHeld
          go_wp2
          go_ret
          exact ⟨rfl, HA.out.hb⟩
        · obtain rfl := ext_err hR r0
          have rb : (r4 == 0) = false := beq_eq_false_iff_ne.mpr r0
          have rn : (r4 != 0) = true := bne_iff_ne.mpr r0
          clear hR r0
          have e0 := blk_cell HE.out 0
          have e1 := blk_cell HE.out 1
          have c0 := blk_cell HA.out.k0 0
          have c1 := blk_cell HA.out.k0 1
          have c2 := blk_cell HA.out.k0 2
          go_wp2_with fail
          refine (leapvote_Extend.calls 3000 a0_0 a0_1 A0_2 c0_2 l0_2 t (-1) _ _ _ _ _ (Kd.C_below HR.out HA.out.hb) HC.out HX.out).mono ?_
          rintro e w4 ⟨v4, rfl, hr4, hb4⟩
          obtain ⟨A4, c4, rfl⟩ := Kd.R_slice hr4
          replace HA := Aside0.mk (HA.out.step hb4)
          replace HE := Aside0.mk (blk_below HE.out hb4)
          clear hb4 hr4 HX e0 e1 c0 c1 c2
          replace HA := Aside0.mk (HA.out.alloc (.cells #[.int .i64 r1, .int .i64 r2, .slice A4 0 c4] 24 (0, 0)))
          have HX : Aside0 ((w4.alloc (.cells #[.int .i64 r1, .int .i64 r2, .slice A4 0 c4] 24 (0, 0))).heap[w4.heap.size]? = some (.cells #[.int .i64 r1, .int .i64 r2, .slice A4 0 c4] 24 (0, 0))) := ⟨blk_new w4 _⟩
          have x0 := blk_cell HX.out 0
          have x1 := blk_cell HX.out 1
          have x2 := blk_cell HX.out 2
          go_wp2_with fail
          refine (awake_ok _).mono ?_
          rintro e wz ⟨rfl, hbz⟩
          replace HA := Aside0.mk (HA.out.step hbz)
          clear hbz
          go_wp2
          go_ret
          exact ⟨rfl, HA.out.hb⟩
    · go_enter Try.func9, Try.ntmps9
      go_wp2_with fail
      refine (HN.out _).mono ?_
      rintro e w1 ⟨rfl, hv1, hb1⟩
      replace HA := Aside0.mk (HA.out.step hb1)
      have hsz : (w.alloc (.cells #[.int .i64 a0_0, .int .i64 a0_1, .slice A0_2 l0_2.length c0_2] 24)).heap.size = w.heap.size + 1 := by simp
      rw [hsz] at hv1
      clear hb1 HN
      have HV := Aside0.mk (fun W (hW : VB W (w.heap.size + 1) 1 (fresh 12) (fun _ => 0) (-8000000000)) => vote_ok (w.heap.size + 1) 1 (fresh 12) (fun _ => 0) (-8000000000) 0 2 a1 W (by decide) hW)
      rw [show voteE 1 (-8000000000) 0 2 a1 = 3 from by unfold voteE; rw [if_pos (.inr (.inr (.inr (.inr hu8))))]] at HV
      go_wp2_with fail
      refine (HV.out _ hv1).mono ?_
      rintro e w2 ⟨rfl, hw2⟩
      replace HA := Aside0.mk (HA.out.vote (by omega) hw2)
      clear hw2 hv1 HV
      go_wp2_with fail
      refine (awake_ok _).mono ?_
      rintro e wz ⟨rfl, hbz⟩
      replace HA := Aside0.mk (HA.out.step hbz)
      clear hbz
      go_wp2
      go_ret
      exact ⟨rfl, HA.out.hb⟩
  · have HN := Aside0.mk (fun W => new_ok 1 W (by omega) (by omega))
    by_cases hu8 : -8000000000 ≤ a1 ∧ a1 ≤ 8000000000
    · obtain ⟨t, ok, hm, hok, _⟩ := next_spec a1 hu8
      have HM := Aside0.mk hm
      clear hm
      obtain ⟨u0, u1⟩ := hu8
      go_enter Try.func9, Try.ntmps9
      go_wp2_with fail
      refine (HN.out _).mono ?_
      rintro e w1 ⟨rfl, hv1, hb1⟩
      replace HA := Aside0.mk (HA.out.step hb1)
      have hsz : (w.alloc (.cells #[.int .i64 a0_0, .int .i64 a0_1, .slice A0_2 l0_2.length c0_2] 24)).heap.size = w.heap.size + 1 := by simp
      rw [hsz] at hv1
      clear hb1 HN
      have HS : Aside0 (VS w w1 (w.heap.size + 1) 1 (fun _ => 1) a1 0) := ⟨⟨by rw [vfi_0, vfa_0]; exact hv1, by omega, HA.out.hb⟩⟩
      clear hv1
      have HV := Aside0.mk (HS.out.calls (by decide) (by decide) (by decide) ⟨u0, u1⟩)
      clear HS
      go_wp2_with fail
      refine HV.out.mono ?_
      rintro e w2 ⟨rfl, hs2, hw2⟩
      have HS := Aside0.mk hs2
      replace HA := Aside0.mk (HA.out.vote (by omega) hw2)
      clear hs2 hw2 HV
      have HG := Aside0.mk (vs_good (m := 1) (X := fun _ => (1 : Int)) (u := a1) (fun j _ => by decide) ⟨u0, u1⟩)
      have HQ := Aside0.mk (fun W (hW : VS w W (w.heap.size + 1) 1 (fun _ => 1) a1 1) => arm_ok (w.heap.size + 1) 1 _ _ _ a1 t ok W HM.out (by decide) hW.kv HG.out)
      rw [decV_new _ _ _ _ ⟨u0, u1⟩ (by omega), dec_most _ 1 1 (by decide) (by decide)] at HQ
      cases ok
      · rw [show armR 1 t false = (0, 0, false) from rfl] at HQ
        go_wp2_with fail
        refine (HQ.out _ HS.out).mono ?_
        rintro e w3 ⟨rfl, hb3⟩
        replace HA := Aside0.mk (HA.out.step hb3)
        clear hb3 HQ HG HM
        replace HA := Aside0.mk (HA.out.alloc (.cells #[.int .i64 0, .int .i64 0] 44 (0, 0)))
        go_wp2_with fail
        refine (awake_ok _).mono ?_
        rintro e wz ⟨rfl, hbz⟩
        replace HA := Aside0.mk (HA.out.step hbz)
        clear hbz
        go_wp2
        go_ret
        exact ⟨rfl, HA.out.hb⟩
      · obtain ⟨t0, t1, t2⟩ := hok rfl
        have tl := mb_lt t2
        have t3 := (mb_in t2).1.1
        clear hok
        rw [show armR 1 t true = (t, 1, true) from rfl] at HQ
        go_wp2_with fail
        refine (HQ.out _ HS.out).mono ?_
        rintro e w3 ⟨rfl, hb3⟩
        replace HA := Aside0.mk (HA.out.step hb3)
        clear hb3 HQ HG HM
        have HE : Aside0 ((w3.alloc (.cells #[.int .i64 t, .int .i64 (1)] 44 (0, 0))).heap[w3.heap.size]? = some (.cells #[.int .i64 t, .int .i64 (1)] 44 (0, 0))) := ⟨blk_new w3 _⟩
        replace HA := Aside0.mk (HA.out.alloc (.cells #[.int .i64 t, .int .i64 (1)] 44 (0, 0)))
        clear HS
        have hE := ext_f 3000 (by omega) a0_0 a0_1 t (1) l0_2
        obtain ⟨R, hR⟩ : ∃ R, extS a0_0 a0_1 l0_2 t (1) = R := ⟨_, rfl⟩
        rw [hR] at hE
        obtain ⟨r1, r2, r3, r4⟩ := R
        have HX := Aside0.mk hE
        clear hE
        by_cases r0 : r4 = 0
        · subst r0
          obtain ⟨k1, k2, k3, k4, k5, k6, e1, rfl, rfl⟩ := ext_ok hR
          have e1' := e1.symm
          clear e1
          subst e1'
          have hT := chk_0 a0_0 a0_1 l0_2 k1
          have k7 := chk_ext k1 k2 k3 k4 k5 k6
          have k8 : lastP (-9000000000) l0_2 < t := by rw [← lastP_prv]; omega
          have o1 := OL_snoc_at t (oldI a0_0 l0_2 l0_2.length + 1) l0_2 a0_0 _ hT.chain k8
          have o2 := OL_snoc_lt (t - 1) t (oldI a0_0 l0_2 l0_2.length + 1) (by omega) l0_2 a0_0
          have o3 := OL_snoc_lt a1 t (oldI a0_0 l0_2 l0_2.length + 1) (by omega) l0_2 a0_0
          have o4 := OL_late (t - 1) l0_2 a0_0 _ hT.chain (by omega)
          rw [← lastO_old] at o4
          rw [o4] at o2
          have ko := (oldI_ok k1).1
          have F0 := Aside0.mk (leap_check 3000 (by omega) a0_0 (mx a0_1 (t + 1)) (l0_2 ++ [⟨t, oldI a0_0 l0_2 l0_2.length + 1⟩]))
          rw [k7] at F0
          have F1 := Aside0.mk (offset_f 3000 (by omega) a0_0 (mx a0_1 (t + 1)) (t - 1) _ k7)
          rw [o2] at F1
          have F2 := Aside0.mk (offset_f 3000 (by omega) a0_0 (mx a0_1 (t + 1)) t _ k7)
          rw [o1] at F2
          have F3 := Aside0.mk (offset_f 3000 (by omega) a0_0 a0_1 (t - 1) l0_2 k1)
          rw [o4] at F3
          have F4 := Aside0.mk (offset_f 3000 (by omega) a0_0 (mx a0_1 (t + 1)) a1 _ k7)
          rw [o3] at F4
          have F5 := Aside0.mk (offset_f 3000 (by omega) a0_0 a0_1 a1 l0_2 k1)
          have hlen : (l0_2 ++ [(⟨t, oldI a0_0 l0_2 l0_2.length + 1⟩ : S44)]).length = l0_2.length + 1 := by simp
          have mge := (mx_ge a0_1 (t + 1)).1
          clear hR k1 k2 k3 k4 k5 k7 k8 o1 o2 o3 o4 hT
          generalize oldI a0_0 l0_2 l0_2.length = o at *
          generalize OL a1 a0_0 l0_2 = p at *
          generalize hm : mx a0_1 (t + 1) = M at *
          clear hm
          have hlenI : (((l0_2 ++ [(⟨t, o + 1⟩ : S44)]).length : Nat) : Int) = (l0_2.length : Int) + 1 := by simp
          generalize l0_2 ++ [(⟨t, o + 1⟩ : S44)] = r3 at *
          have hq : ((r3.length : Int) != (l0_2.length : Int) + 1) = false := by rw [hlenI]; exact bne_self_eq_false _
          have hq2 : ((r3.length : Int) = (l0_2.length : Int) + 1) = True := eq_true hlenI
          have hq3 : ((r3.length : Int) == (l0_2.length : Int) + 1) = true := by rw [hlenI]; exact beq_self_eq_true _
          clear hlen hlenI
          have e0 := blk_cell HE.out 0
          have e1 := blk_cell HE.out 1
          have c0 := blk_cell HA.out.k0 0
          have c1 := blk_cell HA.out.k0 1
          have c2 := blk_cell HA.out.k0 2
          go_wp2_with fail
          refine (leapvote_Extend.calls 3000 a0_0 a0_1 A0_2 c0_2 l0_2 t (1) _ _ _ _ _ (Kd.C_below HR.out HA.out.hb) HC.out HX.out).mono ?_
          rintro e w4 ⟨v4, rfl, hr4, hb4⟩
          obtain ⟨A4, c4, rfl⟩ := Kd.R_slice hr4
          replace HA := Aside0.mk (HA.out.step hb4)
          replace HE := Aside0.mk (blk_below HE.out hb4)
          have HK0 := (Kd.R_reads' hr4).2.2
          have HL := Aside0.mk (Kd.R_reads' hr4).2.1
          clear hb4 hr4 HX e0 e1 c0 c1 c2
          replace HA := Aside0.mk (HA.out.alloc (.cells #[.int .i64 a0_0, .int .i64 M, .slice A4 r3.length c4] 24 (0, 0)))
          replace HE := Aside0.mk (blk_alloc HE.out (.cells #[.int .i64 a0_0, .int .i64 M, .slice A4 r3.length c4] 24 (0, 0)))
          have HX : Aside0 ((w4.alloc (.cells #[.int .i64 a0_0, .int .i64 M, .slice A4 r3.length c4] 24 (0, 0))).heap[w4.heap.size]? = some (.cells #[.int .i64 a0_0, .int .i64 M, .slice A4 r3.length c4] 24 (0, 0))) := ⟨blk_new w4 _⟩
          have HK := Aside0.mk (Kd.C_alloc HK0 (.cells #[.int .i64 a0_0, .int .i64 M, .slice A4 r3.length c4] 24 (0, 0)))
          clear HK0
          have e0 := blk_cell HE.out 0
          have e1 := blk_cell HE.out 1
          have c0 := blk_cell HA.out.k0 0
          have c1 := blk_cell HA.out.k0 1
          have c2 := blk_cell HA.out.k0 2
          have x0 := blk_cell HX.out 0
          have x1 := blk_cell HX.out 1
          have x2 := blk_cell HX.out 2
          go_wp2_with fail
          refine (leap_Check.calls 3000 a0_0 M A4 c4 r3 _ _ HK.out HL.out F0.out).mono ?_
          rintro e w5 ⟨rfl, hb5⟩
          replace HA := Aside0.mk (HA.out.step hb5)
          replace HE := Aside0.mk (blk_below HE.out hb5)
          replace HX := Aside0.mk (blk_below HX.out hb5)
          replace HK := Aside0.mk (Kd.C_below HK.out hb5)
          clear hb5 e0 e1 c0 c1 c2 x0 x1 x2
          have e0 := blk_cell HE.out 0
          have e1 := blk_cell HE.out 1
          have c0 := blk_cell HA.out.k0 0
          have c1 := blk_cell HA.out.k0 1
          have c2 := blk_cell HA.out.k0 2
          have x0 := blk_cell HX.out 0
          have x1 := blk_cell HX.out 1
          have x2 := blk_cell HX.out 2
          have hw : IntKind.i64.wrap (t - 1) = t - 1 := (i64_w _).trans (by unfold wrap64; omega)
          have hd : IntKind.i64.wrap (o + 1 - o) = 1 := (i64_w _).trans (by unfold wrap64; omega)
          go_wp2_with fail
          go_region_held3 (fun W => W.cell? ⟨w4.heap.size, 0, none⟩ = some (.int .i64 a0_0) ∧ W.cell? ⟨w4.heap.size, 1, none⟩ = some (.int .i64 M) ∧ W.cell? ⟨w4.heap.size, 2, none⟩ = some (.slice A4 r3.length c4) ∧ W.cell? ⟨w3.heap.size, 0, none⟩ = some (.int .i64 t) ∧ W.cell? ⟨w3.heap.size, 1, none⟩ = some (.int .i64 (1)) ∧ W.cell? ⟨w.heap.size, 0, none⟩ = some (.int .i64 a0_0) ∧ W.cell? ⟨w.heap.size, 1, none⟩ = some (.int .i64 a0_1) ∧ W.cell? ⟨w.heap.size, 2, none⟩ = some (.slice A0_2 l0_2.length c0_2) ∧ Aside0 (timesynclaw54_LeapvoteArms.At w W a0_0 a0_1 A0_2 l0_2.length c0_2) ∧ Aside0 (W.heap[w3.heap.size]? = some (.cells #[.int .i64 t, .int .i64 (1)] 44 (0, 0))) ∧ Aside0 (W.heap[w4.heap.size]? = some (.cells #[.int .i64 a0_0, .int .i64 M, .slice A4 r3.length c4] 24 (0, 0))) ∧ Aside0 (Kd.C k44 W A4 r3.length r3))
            (first
              | exact ⟨x0, x1, x2, e0, e1, c0, c1, c2, ⟨HA.out.step (below_drew (Below.refl _ _))⟩, ⟨HE.out⟩, ⟨HX.out⟩, ⟨Kd.C_drew HK.out⟩⟩
              | (go_split_ands; exact ⟨pw_cell_below hb (by with_reducible assumption), pw_cell_below hb (by with_reducible assumption), pw_cell_below hb (by with_reducible assumption), pw_cell_below hb (by with_reducible assumption), pw_cell_below hb (by with_reducible assumption), pw_cell_below hb (by with_reducible assumption), pw_cell_below hb (by with_reducible assumption), pw_cell_below hb (by with_reducible assumption), ⟨timesynclaw54_LeapvoteArms.At.step (by exact Aside0.out (by with_reducible assumption)) hb⟩, ⟨blk_below (g := w3.heap.size) (o := .cells #[.int .i64 t, .int .i64 (1)] 44 (0, 0)) (by exact Aside0.out (by with_reducible assumption)) hb⟩, ⟨blk_below (g := w4.heap.size) (o := .cells #[.int .i64 a0_0, .int .i64 M, .slice A4 r3.length c4] 24 (0, 0)) (by exact Aside0.out (by with_reducible assumption)) hb⟩, ⟨Kd.C_below (by exact Aside0.out (by with_reducible assumption)) hb⟩⟩))
            (first | (go_at_call 24; with_reducible refine (leap_Offset.calls 3000 a0_0 M A4 c4 r3 (t - 1) _ _ ?hK HL.out F1.out).mono ?_; (case hK => (go_split_ands; exact Aside0.out (by with_reducible assumption))); rintro e w' ⟨rfl, hb⟩) | (go_at_call 24; with_reducible refine (leap_Offset.calls 3000 a0_0 M A4 c4 r3 t _ _ ?hK HL.out F2.out).mono ?_; (case hK => (go_split_ands; exact Aside0.out (by with_reducible assumption))); rintro e w' ⟨rfl, hb⟩))
          have hHeld := ‹_ ∧ _ ∧ _ ∧ _ ∧ _ ∧ _ ∧ _ ∧ _ ∧ Aside0 (timesynclaw54_LeapvoteArms.At w _ a0_0 a0_1 _ _ _) ∧ _›
          clear x0 x1 x2 e0 e1 c0 c1 c2 HA HE HX HK
          obtain ⟨x0, x1, x2, e0, e1, c0, c1, c2, HA, HE, HX, HK⟩ := hHeld
          go_wp2_with fail
          go_region_held3 (fun W => W.cell? ⟨w4.heap.size, 0, none⟩ = some (.int .i64 a0_0) ∧ W.cell? ⟨w4.heap.size, 1, none⟩ = some (.int .i64 M) ∧ W.cell? ⟨w4.heap.size, 2, none⟩ = some (.slice A4 r3.length c4) ∧ W.cell? ⟨w3.heap.size, 0, none⟩ = some (.int .i64 t) ∧ W.cell? ⟨w3.heap.size, 1, none⟩ = some (.int .i64 (1)) ∧ W.cell? ⟨w.heap.size, 0, none⟩ = some (.int .i64 a0_0) ∧ W.cell? ⟨w.heap.size, 1, none⟩ = some (.int .i64 a0_1) ∧ W.cell? ⟨w.heap.size, 2, none⟩ = some (.slice A0_2 l0_2.length c0_2) ∧ Aside0 (timesynclaw54_LeapvoteArms.At w W a0_0 a0_1 A0_2 l0_2.length c0_2) ∧ Aside0 (W.heap[w3.heap.size]? = some (.cells #[.int .i64 t, .int .i64 (1)] 44 (0, 0))) ∧ Aside0 (W.heap[w4.heap.size]? = some (.cells #[.int .i64 a0_0, .int .i64 M, .slice A4 r3.length c4] 24 (0, 0))) ∧ Aside0 (Kd.C k44 W A4 r3.length r3))
            (first
              | exact ⟨x0, x1, x2, e0, e1, c0, c1, c2, ⟨HA.out.step (below_drew (Below.refl _ _))⟩, ⟨HE.out⟩, ⟨HX.out⟩, ⟨Kd.C_drew HK.out⟩⟩
              | (go_split_ands; exact ⟨pw_cell_below hb (by with_reducible assumption), pw_cell_below hb (by with_reducible assumption), pw_cell_below hb (by with_reducible assumption), pw_cell_below hb (by with_reducible assumption), pw_cell_below hb (by with_reducible assumption), pw_cell_below hb (by with_reducible assumption), pw_cell_below hb (by with_reducible assumption), pw_cell_below hb (by with_reducible assumption), ⟨timesynclaw54_LeapvoteArms.At.step (by exact Aside0.out (by with_reducible assumption)) hb⟩, ⟨blk_below (g := w3.heap.size) (o := .cells #[.int .i64 t, .int .i64 (1)] 44 (0, 0)) (by exact Aside0.out (by with_reducible assumption)) hb⟩, ⟨blk_below (g := w4.heap.size) (o := .cells #[.int .i64 a0_0, .int .i64 M, .slice A4 r3.length c4] 24 (0, 0)) (by exact Aside0.out (by with_reducible assumption)) hb⟩, ⟨Kd.C_below (by exact Aside0.out (by with_reducible assumption)) hb⟩⟩))
            (first | (go_at_call 24; with_reducible refine (leap_Offset.calls 3000 a0_0 a0_1 A0_2 c0_2 l0_2 (t - 1) _ _ (Kd.C_below HR.out ?hK) HC.out F3.out).mono ?_; (case hK => (go_split_ands; exact timesynclaw54_LeapvoteArms.At.hb (x := a0_1) (b := a0_0) (A := A0_2) (n := l0_2.length) (c := c0_2) (Aside0.out (by with_reducible assumption)))); rintro e w' ⟨rfl, hb⟩) | (go_at_call 24; with_reducible refine (leap_Offset.calls 3000 a0_0 M A4 c4 r3 a1 _ _ ?hK HL.out F4.out).mono ?_; (case hK => (go_split_ands; exact Aside0.out (by with_reducible assumption))); rintro e w' ⟨rfl, hb⟩) | (go_at_call 24; with_reducible refine (leap_Offset.calls 3000 a0_0 a0_1 A0_2 c0_2 l0_2 a1 _ _ (Kd.C_below HR.out ?hK) HC.out F5.out).mono ?_; (case hK => (go_split_ands; exact timesynclaw54_LeapvoteArms.At.hb (x := a0_1) (b := a0_0) (A := A0_2) (n := l0_2.length) (c := c0_2) (Aside0.out (by with_reducible assumption)))); rintro e w' ⟨rfl, hb⟩) | (go_at_call 26; with_reducible refine (awake_ok _).mono ?_; rintro e w' ⟨rfl, hb⟩))
          have hHeld := ‹_ ∧ _ ∧ _ ∧ _ ∧ _ ∧ _ ∧ _ ∧ _ ∧ Aside0 (timesynclaw54_LeapvoteArms.At w _ a0_0 a0_1 _ _ _) ∧ _›
          clear x0 x1 x2 e0 e1 c0 c1 c2 HA HE HX HK
          obtain ⟨x0, x1, x2, e0, e1, c0, c1, c2, HA, HE, HX, HK⟩ := hHeld
          go_wp2
          go_ret
          exact ⟨rfl, HA.out.hb⟩
        · obtain rfl := ext_err hR r0
          have rb : (r4 == 0) = false := beq_eq_false_iff_ne.mpr r0
          have rn : (r4 != 0) = true := bne_iff_ne.mpr r0
          clear hR r0
          have e0 := blk_cell HE.out 0
          have e1 := blk_cell HE.out 1
          have c0 := blk_cell HA.out.k0 0
          have c1 := blk_cell HA.out.k0 1
          have c2 := blk_cell HA.out.k0 2
          go_wp2_with fail
          refine (leapvote_Extend.calls 3000 a0_0 a0_1 A0_2 c0_2 l0_2 t (1) _ _ _ _ _ (Kd.C_below HR.out HA.out.hb) HC.out HX.out).mono ?_
          rintro e w4 ⟨v4, rfl, hr4, hb4⟩
          obtain ⟨A4, c4, rfl⟩ := Kd.R_slice hr4
          replace HA := Aside0.mk (HA.out.step hb4)
          replace HE := Aside0.mk (blk_below HE.out hb4)
          clear hb4 hr4 HX e0 e1 c0 c1 c2
          replace HA := Aside0.mk (HA.out.alloc (.cells #[.int .i64 r1, .int .i64 r2, .slice A4 0 c4] 24 (0, 0)))
          have HX : Aside0 ((w4.alloc (.cells #[.int .i64 r1, .int .i64 r2, .slice A4 0 c4] 24 (0, 0))).heap[w4.heap.size]? = some (.cells #[.int .i64 r1, .int .i64 r2, .slice A4 0 c4] 24 (0, 0))) := ⟨blk_new w4 _⟩
          have x0 := blk_cell HX.out 0
          have x1 := blk_cell HX.out 1
          have x2 := blk_cell HX.out 2
          go_wp2_with fail
          refine (awake_ok _).mono ?_
          rintro e wz ⟨rfl, hbz⟩
          replace HA := Aside0.mk (HA.out.step hbz)
          clear hbz
          go_wp2
          go_ret
          exact ⟨rfl, HA.out.hb⟩
    · go_enter Try.func9, Try.ntmps9
      go_wp2_with fail
      refine (HN.out _).mono ?_
      rintro e w1 ⟨rfl, hv1, hb1⟩
      replace HA := Aside0.mk (HA.out.step hb1)
      have hsz : (w.alloc (.cells #[.int .i64 a0_0, .int .i64 a0_1, .slice A0_2 l0_2.length c0_2] 24)).heap.size = w.heap.size + 1 := by simp
      rw [hsz] at hv1
      clear hb1 HN
      have HV := Aside0.mk (fun W (hW : VB W (w.heap.size + 1) 1 (fresh 12) (fun _ => 0) (-8000000000)) => vote_ok (w.heap.size + 1) 1 (fresh 12) (fun _ => 0) (-8000000000) 0 1 a1 W (by decide) hW)
      rw [show voteE 1 (-8000000000) 0 1 a1 = 3 from by unfold voteE; rw [if_pos (.inr (.inr (.inr (.inr hu8))))]] at HV
      go_wp2_with fail
      refine (HV.out _ hv1).mono ?_
      rintro e w2 ⟨rfl, hw2⟩
      replace HA := Aside0.mk (HA.out.vote (by omega) hw2)
      clear hw2 hv1 HV
      go_wp2_with fail
      refine (awake_ok _).mono ?_
      rintro e wz ⟨rfl, hbz⟩
      replace HA := Aside0.mk (HA.out.step hbz)
      clear hbz
      go_wp2
      go_ret
      exact ⟨rfl, HA.out.hb⟩
end Go.Proofs.Ytljbajnmkkebkaa.All
