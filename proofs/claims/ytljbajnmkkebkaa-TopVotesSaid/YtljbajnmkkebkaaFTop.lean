import Derived.Test.YtljbajnmkkebkaaAll12
import Derived.Test.YtljbajnmkkebkaaAll7
import Derived.Test.YtljbajnmkkebkaaAll3
/- TopVotes: what the function does. -/
import Derived.Test.YtljbajnmkkebkaaTopP
import Derived.Test.YtljbajnmkkebkaaVs
namespace Go.Proofs.Ytljbajnmkkebkaa.All
open Go.RowKit Go.Proofs.Ytljbajnmkkebkaa.Vo Go.Proofs.Ytljbajnmkkebkaa.Civ Go.Proofs.Ytljbajnmkkebkaa.CivB Go.Proofs.Ytljbajnmkkebkaa.Ext Go.Proofs.Ytljbajnmkkebkaa.Off Go.Proofs.YtljbajnmkkebkaaW.PrintWords Go.Proofs.YtljbajnmkkebkaaW.PrintLast Go.Proofs.YtljbajnmkkebkaaW.PrintMore
set_option linter.unusedSimpArgs false
set_option linter.unusedVariables false

/-- The block of the table. -/
structure timesynctop_TopVotes.At (w0 w : World) (b x : Int) (A : Option Addr) (n c : Nat) : Prop where
  k0 : w.heap[w0.heap.size]? = some (.cells #[.int .i64 b, .int .i64 x, .slice A n c] 24 (0, 0))
  hb : Below w0.heap.size w0 w
theorem timesynctop_TopVotes.At.step {w0 w w' : World} {b x : Int} {A : Option Addr} {n c : Nat} (h : timesynctop_TopVotes.At w0 w b x A n c) (hb : Below w.heap.size w w') : timesynctop_TopVotes.At w0 w' b x A n c :=
  ⟨blk_below h.k0 hb, below_step h.hb hb⟩
theorem timesynctop_TopVotes.At.alloc {w0 w : World} {b x : Int} {A : Option Addr} {n c : Nat} (h : timesynctop_TopVotes.At w0 w b x A n c) (q : Obj) : timesynctop_TopVotes.At w0 (w.alloc q) b x A n c :=
  ⟨blk_alloc h.k0 q, below_alloc h.hb q⟩
theorem timesynctop_TopVotes.At.start (w : World) (b x : Int) (A : Option Addr) (n c : Nat) : timesynctop_TopVotes.At w (w.alloc (.cells #[.int .i64 b, .int .i64 x, .slice A n c] 24)) b x A n c :=
  ⟨blk_new w _, below_alloc (Below.refl _ _) _⟩
theorem timesynctop_TopVotes.At.vote {w0 w w' : World} {b x : Int} {A : Option Addr} {n c g : Nat} {e s i u : Int} (h : timesynctop_TopVotes.At w0 w b x A n c) (hg : w0.heap.size < g) (hw : VoteW w w' g e s i u) : timesynctop_TopVotes.At w0 w' b x A n c :=
  ⟨VoteW.far h.k0 (by omega) hw, VoteW.below h.hb (by omega) hw⟩
def topX (l : List Int) (j : Nat) : Int := rd l (j : Int)
def timesynctop_TopVotes.f (_ _ : Int) (_ : List (S44)) (_ : List Int) (_ : Int) : Option Bool := some true
theorem timesynctop_TopVotes.nil : leap_Check.f 400 0 0 [] = some 0 := leap_check 400 (by decide) 0 0 []
set_option maxHeartbeats 6400000 in
set_option maxRecDepth 100000 in
theorem timesynctop_TopVotes.calls (a0_0 : Int) (a0_1 : Int) (A0_2 : Option Addr) (c0_2 : Nat) (l0_2 : List (S44)) (A1 : Option Addr) (c1 : Nat) (l1 : List Int) (a2 : Int) (r : Bool) (w : World) (hr0_2 : Kd.C k44 w A0_2 l0_2.length l0_2) (hc0_2 : l0_2.length ≤ c0_2) (hr1 : Kd.C (Kd.int .i64) w A1 l1.length l1) (hc1 : l1.length ≤ c1) (h : timesynctop_TopVotes.f a0_0 a0_1 l0_2 l1 a2 = some r) :
    Calls Try.prog 4 #[.agg #[.int .i64 a0_0, .int .i64 a0_1, .slice A0_2 l0_2.length c0_2], .slice A1 l1.length c1, .int .i64 a2] w fun e w' => e = .returned (.bool r) ∧ Below w.heap.size w w' := by
  obtain rfl := Option.some.inj h
  clear h
  have hu := Try.underlying24
  have hu2 := Try.underlying44
  have hu3 := Try.underlying51
  have HR := Aside0.mk hr0_2
  have HC := Aside0.mk hc0_2
  have HR1 := Aside0.mk hr1
  have HC1 := Aside0.mk hc1
  have H9 := Aside0.mk timesynctop_TopVotes.nil
  have HA := Aside0.mk (timesynctop_TopVotes.At.start w a0_0 a0_1 A0_2 l0_2.length c0_2)
  have hmax := Kd.C_max hr1
  have hmax0 := Kd.C_max hr0_2
  clear hr0_2 hc0_2 hr1 hc1
  by_cases g1 : (l1.length : Int) < 1
  · go_enter Try.func4, Try.ntmps4
    go_wp2_with fail
    refine (leap_Check.calls 400 0 0 none 0 [] 0 _ (Kd.C_nil _ _) (Nat.le_refl _) H9.out).mono ?_
    rintro e wz ⟨rfl, hbz⟩
    replace HA := Aside0.mk (HA.out.step hbz)
    clear hbz
    go_wp2
    go_ret
    exact ⟨rfl, HA.out.hb⟩
  by_cases g2 : 12 < (l1.length : Int)
  · go_enter Try.func4, Try.ntmps4
    go_wp2_with fail
    refine (leap_Check.calls 400 0 0 none 0 [] 0 _ (Kd.C_nil _ _) (Nat.le_refl _) H9.out).mono ?_
    rintro e wz ⟨rfl, hbz⟩
    replace HA := Aside0.mk (HA.out.step hbz)
    clear hbz
    go_wp2
    go_ret
    exact ⟨rfl, HA.out.hb⟩
  by_cases g3 : 100 < (l0_2.length : Int)
  · go_enter Try.func4, Try.ntmps4
    go_wp2_with fail
    refine (leap_Check.calls 400 0 0 none 0 [] 0 _ (Kd.C_nil _ _) (Nat.le_refl _) H9.out).mono ?_
    rintro e wz ⟨rfl, hbz⟩
    replace HA := Aside0.mk (HA.out.step hbz)
    clear hbz
    go_wp2
    go_ret
    exact ⟨rfl, HA.out.hb⟩
  have hK := leap_check 3000 (by decide) a0_0 a0_1 l0_2
  by_cases g4 : chk a0_0 a0_1 l0_2 = 0
  case neg =>
    have HK := Aside0.mk hK
    generalize chk a0_0 a0_1 l0_2 = E at *
    have ge : (E == 0) = false := beq_eq_false_iff_ne.mpr g4
    have gn : (E != 0) = true := bne_iff_ne.mpr g4
    go_enter Try.func4, Try.ntmps4
    go_wp2_with fail
    refine (leap_Check.calls 3000 a0_0 a0_1 A0_2 c0_2 l0_2 E _ (Kd.C_below HR.out HA.out.hb) HC.out HK.out).mono ?_
    rintro e w1 ⟨rfl, hb1⟩
    replace HA := Aside0.mk (HA.out.step hb1)
    clear hb1 HK
    go_wp2_with fail
    refine (leap_Check.calls 400 0 0 none 0 [] 0 _ (Kd.C_nil _ _) (Nat.le_refl _) H9.out).mono ?_
    rintro e wz ⟨rfl, hbz⟩
    replace HA := Aside0.mk (HA.out.step hbz)
    clear hbz
    go_wp2
    go_ret
    exact ⟨rfl, HA.out.hb⟩
  rw [g4] at hK
  have HK := Aside0.mk hK
  clear hK
  by_cases g5 : a2 < -7000000000
  · go_enter Try.func4, Try.ntmps4
    go_wp2_with fail
    refine (leap_Check.calls 3000 a0_0 a0_1 A0_2 c0_2 l0_2 0 _ (Kd.C_below HR.out HA.out.hb) HC.out HK.out).mono ?_
    rintro e w1 ⟨rfl, hb1⟩
    replace HA := Aside0.mk (HA.out.step hb1)
    clear hb1 HK
    go_wp2_with fail
    refine (leap_Check.calls 400 0 0 none 0 [] 0 _ (Kd.C_nil _ _) (Nat.le_refl _) H9.out).mono ?_
    rintro e wz ⟨rfl, hbz⟩
    replace HA := Aside0.mk (HA.out.step hbz)
    clear hbz
    go_wp2
    go_ret
    exact ⟨rfl, HA.out.hb⟩
  by_cases g6 : 7000000000 < a2
  · go_enter Try.func4, Try.ntmps4
    go_wp2_with fail
    refine (leap_Check.calls 3000 a0_0 a0_1 A0_2 c0_2 l0_2 0 _ (Kd.C_below HR.out HA.out.hb) HC.out HK.out).mono ?_
    rintro e w1 ⟨rfl, hb1⟩
    replace HA := Aside0.mk (HA.out.step hb1)
    clear hb1 HK
    go_wp2_with fail
    refine (leap_Check.calls 400 0 0 none 0 [] 0 _ (Kd.C_nil _ _) (Nat.le_refl _) H9.out).mono ?_
    rintro e wz ⟨rfl, hbz⟩
    replace HA := Aside0.mk (HA.out.step hbz)
    clear hbz
    go_wp2
    go_ret
    exact ⟨rfl, HA.out.hb⟩
  have HN := Aside0.mk (fun W => new_ok (l1.length : Int) W (by omega) (by omega))
  go_enter Try.func4, Try.ntmps4
  go_wp2_with fail
  refine (leap_Check.calls 3000 a0_0 a0_1 A0_2 c0_2 l0_2 0 _ (Kd.C_below HR.out HA.out.hb) HC.out HK.out).mono ?_
  rintro e w1 ⟨rfl, hb1⟩
  replace HA := Aside0.mk (HA.out.step hb1)
  clear hb1 HK
  go_wp2_with fail
  refine (HN.out _).mono ?_
  rintro e w2 ⟨rfl, hv2, hb2⟩
  have hg : w.heap.size < w1.heap.size := Nat.lt_of_lt_of_le (blk_lt HA.out.k0) (Nat.le_refl _)
  have HS : Aside0 (VS w w2 w1.heap.size l1.length (topX l1) a2 0) := ⟨⟨by rw [vfi_0, vfa_0]; exact hv2, Nat.le_of_lt hg, below_step HA.out.hb hb2⟩⟩
  replace HA := Aside0.mk (HA.out.step hb2)
  clear hv2 hb2 HN
  go_wp2
  go_loopw [60] (fun v W => ∃ k : Nat, k ≤ l1.length ∧ v = .int .i64 (k : Int) ∧ Aside0 (∀ j, j < k → 0 ≤ topX l1 j ∧ topX l1 j ≤ 3) ∧ Aside0 (VS w W w1.heap.size l1.length (topX l1) a2 k) ∧ Aside0 (timesynctop_TopVotes.At w W a0_0 a0_1 A0_2 l0_2.length c0_2)) (fun v _ => l1.length - (intOf v).toNat)
  case atStart => exact ⟨0, by omega, rfl, ⟨fun j hj => by omega⟩, HS, HA⟩
  case round =>
    clear HA HS
    obtain ⟨k, hk, rfl, HX, HS, HA⟩ := hrel
    by_cases hk2 : k < l1.length
    · have hk3 : (k : Int) < (l1.length : Int) := by omega
      have k0 : (0 : Int) ≤ (k : Int) := by omega
      obtain ⟨ad, ead, hx⟩ := Kd.at_int HR1.out (k : Int) k0 hk3
      subst ead
      replace hx := (HA.out.hb.cell (World.block_lt_of_cell? w _ hx)).trans hx
      rw [Int.toNat_natCast] at hx
      have k0t : ((0 : Int) ≤ (k : Int)) = True := eq_true k0
      have k3t : ((k : Int) < (l1.length : Int)) = True := eq_true hk3
      have HZ := Aside0.mk (show topX l1 k = rd l1 (k : Int) from rfl)
      generalize rd l1 (k : Int) = z at *
      by_cases z0 : z < 0
      · go_wp2
        go_ret
        exact ⟨rfl, HA.out.hb⟩
      by_cases z1 : 3 < z
      · go_wp2
        go_ret
        exact ⟨rfl, HA.out.hb⟩
      have HV := Aside0.mk (HS.out.calls (by omega) hk2 (by rw [HZ.out]; omega) (by omega))
      rw [HZ.out] at HV
      have HY : Aside0 (∀ j, j < k + 1 → 0 ≤ topX l1 j ∧ topX l1 j ≤ 3) := ⟨fun j hj => by
        by_cases e : j = k
        · rw [e, HZ.out]
          omega
        · exact HX.out j (by omega)⟩
      clear HX HZ HS
      go_wp2_with fail
      refine HV.out.mono ?_
      rintro e w3 ⟨rfl, hs, hw⟩
      have HS := Aside0.mk hs
      replace HA := Aside0.mk (HA.out.vote hg hw)
      clear hs hw HV
      go_wp2
      go_roundw
      case rel => exact ⟨k + 1, by omega, by go_num, HY, HS, HA⟩
      case measure => simp [intOf]; omega
    · obtain rfl : k = l1.length := by omega
      clear hk hk2
      obtain ⟨wo, hwo⟩ : ∃ W, W = wr := ⟨_, rfl⟩
      subst hwo
      go_wp2
      go_loopw [10, 78] (fun wv v W => ∃ q : Nat, q ≤ 3 ∧ v = .int .i64 (q : Int) ∧ wv = .int .i64 (wantN (topX l1) l1.length q) ∧ Aside0 (VS w W w1.heap.size l1.length (topX l1) a2 l1.length) ∧ Aside0 (timesynctop_TopVotes.At w W a0_0 a0_1 A0_2 l0_2.length c0_2)) (fun _ v _ => 3 - (intOf v).toNat)
      case atStart => exact ⟨0, by omega, rfl, rfl, HS, HA⟩
      case round =>
        clear HS HA
        obtain ⟨q, hq, rfl, rfl, HS, HA⟩ := hrel
        by_cases hq2 : q < 3
        · have hq3 : (q : Int) < 3 := by omega
          have q0 : (0 : Int) ≤ (q : Int) := by omega
          have HQ := Aside0.mk (show wantN (topX l1) l1.length (q + 1) = (if (l1.length : Int) < 2 * num (topX l1) (q : Int) l1.length then (q : Int) else wantN (topX l1) l1.length q) from rfl)
          generalize wantN (topX l1) l1.length q = WQ at *
          go_wp2
          go_loopw [12, 83] (fun cv v W => ∃ j : Nat, j ≤ l1.length ∧ v = .int .i64 (j : Int) ∧ cv = .int .i64 (num (topX l1) (q : Int) j) ∧ Aside0 (VS w W w1.heap.size l1.length (topX l1) a2 l1.length) ∧ Aside0 (timesynctop_TopVotes.At w W a0_0 a0_1 A0_2 l0_2.length c0_2)) (fun _ v _ => l1.length - (intOf v).toNat)
          case atStart => exact ⟨0, by omega, rfl, rfl, HS, HA⟩
          case round =>
            clear HS HA
            obtain ⟨j, hj, rfl, rfl, HS, HA⟩ := hrel
            have nb := num_bd (topX l1) (q : Int) j
            by_cases hj2 : j < l1.length
            · have hj3 : (j : Int) < (l1.length : Int) := by omega
              have j0 : (0 : Int) ≤ (j : Int) := by omega
              obtain ⟨ad, ead, hx⟩ := Kd.at_int HR1.out (j : Int) j0 hj3
              subst ead
              replace hx := (HA.out.hb.cell (World.block_lt_of_cell? w _ hx)).trans hx
              rw [Int.toNat_natCast] at hx
              have j0t : ((0 : Int) ≤ (j : Int)) = True := eq_true j0
              have j3t : ((j : Int) < (l1.length : Int)) = True := eq_true hj3
              have HZ := Aside0.mk (show num (topX l1) (q : Int) (j + 1) = num (topX l1) (q : Int) j + (if rd l1 (j : Int) = (q : Int) then 1 else 0) from rfl)
              generalize rd l1 (j : Int) = z at *
              generalize num (topX l1) (q : Int) j = N at *
              obtain ⟨nb0, nb1⟩ := nb
              by_cases ze : z = (q : Int)
              · have zb : (z == (q : Int)) = true := beq_iff_eq.mpr ze
                have HZ2 := Aside0.mk (HZ.out.trans (by rw [if_pos ze]))
                clear HZ
                subst ze
                go_wp2
                go_roundw
                case rel => exact ⟨j + 1, by omega, by go_num, by rw [HZ2.out], HS, HA⟩
                case measure => simp [intOf]; omega
              · have zb : (z == (q : Int)) = false := beq_eq_false_iff_ne.mpr ze
                have zd : decide (z = (q : Int)) = false := decide_eq_false ze
                have HZ2 := Aside0.mk (HZ.out.trans (by rw [if_neg ze, Int.add_zero]))
                clear HZ
                go_wp2
                go_roundw
                case rel => exact ⟨j + 1, by omega, by go_num, by rw [HZ2.out], HS, HA⟩
                case measure => simp [intOf]; omega
            · obtain rfl : j = l1.length := by omega
              clear hj hj2
              generalize num (topX l1) (q : Int) l1.length = N at *
              obtain ⟨nb0, nb1⟩ := nb
              by_cases c : (l1.length : Int) < 2 * N
              · have HQ2 := Aside0.mk (HQ.out.trans (if_pos c))
                clear HQ
                go_wp2
                go_roundw
                case rel => exact ⟨q + 1, by omega, by go_num, by rw [HQ2.out], HS, HA⟩
                case measure => simp [intOf]; omega
              · have HQ2 := Aside0.mk (HQ.out.trans (if_neg c))
                clear HQ
                go_wp2
                go_roundw
                case rel => exact ⟨q + 1, by omega, by go_num, by rw [HQ2.out], HS, HA⟩
                case measure => simp [intOf]; omega
        · obtain rfl : q = 3 := by omega
          clear hq hq2
          have hD := want_dec (topX l1) l1.length
          have HG := Aside0.mk (vs_good (m := l1.length) (X := topX l1) (u := a2) HX.out (by omega))
          obtain ⟨t, ok, hm, hok, hl⟩ := next_spec a2 (by omega)
          obtain rfl := hl (by omega)
          obtain ⟨t0, t1, t2⟩ := hok rfl
          clear hok hl
          have m1 : 1 ≤ l1.length := by omega
          have m12 : l1.length ≤ 12 := by omega
          have HD := Aside0.mk (fun W (hW : VS w W w1.heap.size l1.length (topX l1) a2 l1.length) => decision_ok w1.heap.size l1.length _ _ _ a2 W ⟨m1, m12⟩ hW.kv HG.out)
          have HM := Aside0.mk (fun W (hW : VS w W w1.heap.size l1.length (topX l1) a2 l1.length) => arm_ok w1.heap.size l1.length _ _ _ a2 t true W hm ⟨m1, m12⟩ hW.kv HG.out)
          rw [decV_new _ _ _ _ (by omega) (by omega), ← hD] at HD HM
          have hd4 := dec_is (l1.length : Int) (num (topX l1) 0 l1.length) (num (topX l1) 1 l1.length) (num (topX l1) 2 l1.length)
          rw [← hD] at hd4
          clear hD hm HG HX m1 m12
          generalize wantN (topX l1) l1.length 3 = WV at *
          rcases hd4 with rfl | rfl | rfl | rfl
          · rw [show armR 0 t true = (0, 0, false) from rfl] at HM
            go_wp2_with fail
            refine (HD.out _ HS.out).mono ?_
            rintro e w3 ⟨rfl, hb3⟩
            replace HS := Aside0.mk (HS.out.step hb3)
            replace HA := Aside0.mk (HA.out.step hb3)
            clear hb3 HD
            go_wp2_with fail
            refine (HM.out _ HS.out).mono ?_
            rintro e w4 ⟨rfl, hb4⟩
            replace HA := Aside0.mk (HA.out.step hb4)
            clear hb4 HM HS
            replace HA := Aside0.mk (HA.out.alloc (.cells #[.int .i64 0, .int .i64 0] 44 (0, 0)))
            go_wp2
            go_ret
            exact ⟨rfl, HA.out.hb⟩
          · rw [show armR 1 t true = (t, 1, true) from rfl] at HM
            go_wp2_with fail
            refine (HD.out _ HS.out).mono ?_
            rintro e w3 ⟨rfl, hb3⟩
            replace HS := Aside0.mk (HS.out.step hb3)
            replace HA := Aside0.mk (HA.out.step hb3)
            clear hb3 HD
            go_wp2_with fail
            refine (HM.out _ HS.out).mono ?_
            rintro e w4 ⟨rfl, hb4⟩
            replace HA := Aside0.mk (HA.out.step hb4)
            clear hb4 HM HS
            have tl := mb_lt t2
            have t3 := (mb_in t2).1.1
            have HE : Aside0 ((w4.alloc (.cells #[.int .i64 t, .int .i64 (1)] 44 (0, 0))).heap[w4.heap.size]? = some (.cells #[.int .i64 t, .int .i64 (1)] 44 (0, 0))) := ⟨blk_new w4 _⟩
            replace HA := Aside0.mk (HA.out.alloc (.cells #[.int .i64 t, .int .i64 (1)] 44 (0, 0)))
            have hE := ext_f 3000 (by omega) a0_0 a0_1 t (1) l0_2
            have hEE := extErr (b := a0_0) (x := a0_1) (l := l0_2) (t := t) (c := 1) g4 t2 (by decide)
            obtain ⟨R, hR⟩ : ∃ R, extS a0_0 a0_1 l0_2 t (1) = R := ⟨_, rfl⟩
            rw [hR] at hE hEE
            obtain ⟨r1, r2, r3, r4⟩ := R
            dsimp only at hEE
            have HX0 := Aside0.mk hE
            have HEE := Aside0.mk hEE
            clear hE hEE
            by_cases r0 : r4 = 0
            · subst r0
              obtain ⟨k1, k2, k3, k4, k5, k6, e1, rfl, rfl⟩ := ext_ok hR
              have e1' := e1.symm
              clear e1
              subst e1'
              have hT := chk_0 a0_0 a0_1 l0_2 k1
              have k7 := chk_ext k1 k2 k3 k4 k5 k6
              have k8 : lastP (-9000000000) l0_2 < t := by rw [← lastP_prv]; omega
              have o1 := OL_snoc_at t (oldI a0_0 l0_2 l0_2.length + 1) l0_2 a0_0 _ hT.chain k8
              have o2 := OL_snoc_lt (t - 1) t (oldI a0_0 l0_2 l0_2.length + 1) (by omega) l0_2 a0_0
              have o4 := OL_late (t - 1) l0_2 a0_0 _ hT.chain (by omega)
              have o5 := tai_at (b := a0_0) (o2 := oldI a0_0 l0_2 l0_2.length + 1) hT.chain k8
              have o6 := tai_before (b := a0_0) (o2 := oldI a0_0 l0_2 l0_2.length + 1) hT.chain k8 (mb_in t2).2 (by omega)
              rw [← lastO_old] at o4 o6
              rw [o4] at o2
              have ko := (oldI_ok k1).1
              have mge := (mx_ge a0_1 (t + 1)).1
              have F0 := Aside0.mk (leap_check 3000 (by omega) a0_0 (mx a0_1 (t + 1)) (l0_2 ++ [⟨t, oldI a0_0 l0_2 l0_2.length + 1⟩]))
              rw [k7] at F0
              have F1 := Aside0.mk (offset_f 3000 (by omega) a0_0 (mx a0_1 (t + 1)) (t - 1) _ k7)
              rw [o2] at F1
              have F2 := Aside0.mk (offset_f 3000 (by omega) a0_0 (mx a0_1 (t + 1)) t _ k7)
              rw [o1] at F2
              have F3 := Aside0.mk (indicator_f 3000 (by omega) a0_0 (mx a0_1 (t + 1)) t (oldI a0_0 l0_2 l0_2.length + 1) l0_2 k7 (by omega) (by omega) (fun e he => by have := hT.chain.last_le e he; omega) (next_before t t2 (by omega) (by omega)))
              rw [if_pos (show oldI a0_0 l0_2 l0_2.length + 1 > oldI a0_0 l0_2 l0_2.length by omega)] at F3
              have F4 := Aside0.mk (tai_f 3000 (by omega) a0_0 (mx a0_1 (t + 1)) t false _ k7 (by omega))
              rw [o5] at F4
              have F5 := Aside0.mk (tai_f 3000 (by omega) a0_0 (mx a0_1 (t + 1)) (t - 2) false _ k7 (by omega))
              rw [o6] at F5
              have F6 := Aside0.mk (of_mb t2)
              clear hR k1 k2 k3 k4 k5 k7 k8 o1 o2 o4 o5 o6 hT
              generalize oldI a0_0 l0_2 l0_2.length = o at *
              generalize hmx : mx a0_1 (t + 1) = M at *
              clear hmx
              generalize oy (t / 86400) = YY at *
              generalize om (t / 86400) = MM at *
              generalize l0_2 ++ [(⟨t, o + 1⟩ : S44)] = r3 at *
              have e0 := blk_cell HE.out 0
              have e1 := blk_cell HE.out 1
              have c0 := blk_cell HA.out.k0 0
              have c1' := blk_cell HA.out.k0 1
              have c2 := blk_cell HA.out.k0 2
              go_wp2_with fail
              refine (leapvote_Extend.calls 3000 a0_0 a0_1 A0_2 c0_2 l0_2 t (1) _ _ _ _ _ (Kd.C_below HR.out HA.out.hb) HC.out HX0.out).mono ?_
              rintro e w5 ⟨v5, rfl, hr5, hb5⟩
              obtain ⟨A5, c5, rfl⟩ := Kd.R_slice hr5
              replace HA := Aside0.mk (HA.out.step hb5)
              replace HE := Aside0.mk (blk_below HE.out hb5)
              have HK := Aside0.mk (Kd.R_reads' hr5).2.2
              have HL := Aside0.mk (Kd.R_reads' hr5).2.1
              clear hb5 hr5 HX0 e0 e1 c0 c1' c2
              replace HA := Aside0.mk (HA.out.alloc (.cells #[.int .i64 a0_0, .int .i64 M, .slice A5 r3.length c5] 24 (0, 0)))
              replace HE := Aside0.mk (blk_alloc HE.out (.cells #[.int .i64 a0_0, .int .i64 M, .slice A5 r3.length c5] 24 (0, 0)))
              replace HK := Aside0.mk (Kd.C_alloc HK.out (.cells #[.int .i64 a0_0, .int .i64 M, .slice A5 r3.length c5] 24 (0, 0)))
              have HX : Aside0 ((w5.alloc (.cells #[.int .i64 a0_0, .int .i64 M, .slice A5 r3.length c5] 24 (0, 0))).heap[w5.heap.size]? = some (.cells #[.int .i64 a0_0, .int .i64 M, .slice A5 r3.length c5] 24 (0, 0))) := ⟨blk_new w5 _⟩
              have e0 := blk_cell HE.out 0
              have e1 := blk_cell HE.out 1
              have c0 := blk_cell HA.out.k0 0
              have c1' := blk_cell HA.out.k0 1
              have c2 := blk_cell HA.out.k0 2
              have x0 := blk_cell HX.out 0
              have x1 := blk_cell HX.out 1
              have x2 := blk_cell HX.out 2
              go_wp2_with fail
              refine (timesynctop_extendError.calls a0_0 a0_1 A0_2 c0_2 l0_2 t (1) _ _ (Kd.C_below HR.out HA.out.hb) HC.out HEE.out).mono ?_
              rintro e w6 ⟨rfl, hb6⟩
              replace HA := Aside0.mk (HA.out.step hb6)
              replace HE := Aside0.mk (blk_below HE.out hb6)
              replace HX := Aside0.mk (blk_below HX.out hb6)
              replace HK := Aside0.mk (Kd.C_below HK.out hb6)
              clear hb6 HEE e0 e1 c0 c1' c2 x0 x1 x2
              have e0 := blk_cell HE.out 0
              have e1 := blk_cell HE.out 1
              have c0 := blk_cell HA.out.k0 0
              have c1' := blk_cell HA.out.k0 1
              have c2 := blk_cell HA.out.k0 2
              have x0 := blk_cell HX.out 0
              have x1 := blk_cell HX.out 1
              have x2 := blk_cell HX.out 2
              go_wp2_with fail
              refine (civil_Of.calls t YY MM 1 0 0 0 0 0 _ F6.out).mono ?_
              rintro e w7 ⟨rfl, hb7⟩
              replace HA := Aside0.mk ((HA.out.step hb7).alloc (.cells #[.int .i64 YY, .int .i64 MM, .int .i64 1, .int .i64 0, .int .i64 0, .int .i64 0, .int .i64 0] 51 (0, 0)))
              replace HE := Aside0.mk (blk_alloc (blk_below HE.out hb7) (.cells #[.int .i64 YY, .int .i64 MM, .int .i64 1, .int .i64 0, .int .i64 0, .int .i64 0, .int .i64 0] 51 (0, 0)))
              replace HX := Aside0.mk (blk_alloc (blk_below HX.out hb7) (.cells #[.int .i64 YY, .int .i64 MM, .int .i64 1, .int .i64 0, .int .i64 0, .int .i64 0, .int .i64 0] 51 (0, 0)))
              replace HK := Aside0.mk (Kd.C_alloc (Kd.C_below HK.out hb7) (.cells #[.int .i64 YY, .int .i64 MM, .int .i64 1, .int .i64 0, .int .i64 0, .int .i64 0, .int .i64 0] 51 (0, 0)))
              have HDD : Aside0 ((w7.alloc (.cells #[.int .i64 YY, .int .i64 MM, .int .i64 1, .int .i64 0, .int .i64 0, .int .i64 0, .int .i64 0] 51 (0, 0))).heap[w7.heap.size]? = some (.cells #[.int .i64 YY, .int .i64 MM, .int .i64 1, .int .i64 0, .int .i64 0, .int .i64 0, .int .i64 0] 51 (0, 0))) := ⟨blk_new w7 _⟩
              clear hb7 F6 e0 e1 c0 c1' c2 x0 x1 x2
              have e0 := blk_cell HE.out 0
              have e1 := blk_cell HE.out 1
              have x0 := blk_cell HX.out 0
              have x1 := blk_cell HX.out 1
              have x2 := blk_cell HX.out 2
              have d2 := blk_cell HDD.out 2
              have d3 := blk_cell HDD.out 3
              have d4 := blk_cell HDD.out 4
              have d5 := blk_cell HDD.out 5
              have hw1 : IntKind.i64.wrap (t - 1) = t - 1 := (i64_w _).trans (by unfold wrap64; omega)
              have hw2 : IntKind.i64.wrap (t - 2) = t - 2 := (i64_w _).trans (by unfold wrap64; omega)
              have hw3 : IntKind.i64.wrap (o + 1 - o) = 1 := (i64_w _).trans (by unfold wrap64; omega)
              go_wp2_with fail
              go_region_held3 (fun W => W.cell? ⟨w5.heap.size, 0, none⟩ = some (.int .i64 a0_0) ∧ W.cell? ⟨w5.heap.size, 1, none⟩ = some (.int .i64 M) ∧ W.cell? ⟨w5.heap.size, 2, none⟩ = some (.slice A5 r3.length c5) ∧ W.cell? ⟨w4.heap.size, 0, none⟩ = some (.int .i64 t) ∧ W.cell? ⟨w4.heap.size, 1, none⟩ = some (.int .i64 (1)) ∧ W.cell? ⟨w7.heap.size, 2, none⟩ = some (.int .i64 1) ∧ W.cell? ⟨w7.heap.size, 3, none⟩ = some (.int .i64 0) ∧ W.cell? ⟨w7.heap.size, 4, none⟩ = some (.int .i64 0) ∧ W.cell? ⟨w7.heap.size, 5, none⟩ = some (.int .i64 0) ∧ Aside0 (timesynctop_TopVotes.At w W a0_0 a0_1 A0_2 l0_2.length c0_2) ∧ Aside0 (W.heap[w4.heap.size]? = some (.cells #[.int .i64 t, .int .i64 (1)] 44 (0, 0))) ∧ Aside0 (W.heap[w5.heap.size]? = some (.cells #[.int .i64 a0_0, .int .i64 M, .slice A5 r3.length c5] 24 (0, 0))) ∧ Aside0 (Kd.C k44 W A5 r3.length r3) ∧ Aside0 (W.heap[w7.heap.size]? = some (.cells #[.int .i64 YY, .int .i64 MM, .int .i64 1, .int .i64 0, .int .i64 0, .int .i64 0, .int .i64 0] 51 (0, 0))))
                (first
                  | exact ⟨x0, x1, x2, e0, e1, d2, d3, d4, d5, ⟨HA.out.step (below_drew (Below.refl _ _))⟩, ⟨HE.out⟩, ⟨HX.out⟩, ⟨Kd.C_drew HK.out⟩, ⟨HDD.out⟩⟩
                  | (go_split_ands; exact ⟨pw_cell_below hb (by with_reducible assumption), pw_cell_below hb (by with_reducible assumption), pw_cell_below hb (by with_reducible assumption), pw_cell_below hb (by with_reducible assumption), pw_cell_below hb (by with_reducible assumption), pw_cell_below hb (by with_reducible assumption), pw_cell_below hb (by with_reducible assumption), pw_cell_below hb (by with_reducible assumption), pw_cell_below hb (by with_reducible assumption), ⟨timesynctop_TopVotes.At.step (by exact Aside0.out (by with_reducible assumption)) hb⟩, ⟨blk_below (g := w4.heap.size) (o := .cells #[.int .i64 t, .int .i64 (1)] 44 (0, 0)) (by exact Aside0.out (by with_reducible assumption)) hb⟩, ⟨blk_below (g := w5.heap.size) (o := .cells #[.int .i64 a0_0, .int .i64 M, .slice A5 r3.length c5] 24 (0, 0)) (by exact Aside0.out (by with_reducible assumption)) hb⟩, ⟨Kd.C_below (by exact Aside0.out (by with_reducible assumption)) hb⟩, ⟨blk_below (g := w7.heap.size) (o := .cells #[.int .i64 YY, .int .i64 MM, .int .i64 1, .int .i64 0, .int .i64 0, .int .i64 0, .int .i64 0] 51 (0, 0)) (by exact Aside0.out (by with_reducible assumption)) hb⟩⟩))
                (first | (go_at_call 16; (with_reducible refine (leap_Check.calls 3000 a0_0 M A5 c5 r3 _ _ ?hK HL.out F0.out).mono ?_); (case hK => (go_split_ands; exact Aside0.out (by with_reducible assumption))); rintro e w' ⟨rfl, hb⟩) | (go_at_call 24; (with_reducible refine (leap_Offset.calls 3000 a0_0 M A5 c5 r3 t _ _ ?hK HL.out F2.out).mono ?_); (case hK => (go_split_ands; exact Aside0.out (by with_reducible assumption))); rintro e w' ⟨rfl, hb⟩) | (go_at_call 24; (with_reducible refine (leap_Offset.calls 3000 a0_0 M A5 c5 r3 (t - 1) _ _ ?hK HL.out F1.out).mono ?_); (case hK => (go_split_ands; exact Aside0.out (by with_reducible assumption))); rintro e w' ⟨rfl, hb⟩))
              have hHeld := ‹_ ∧ _ ∧ _ ∧ _ ∧ _ ∧ _ ∧ _ ∧ _ ∧ _ ∧ Aside0 (timesynctop_TopVotes.At w _ a0_0 a0_1 _ _ _) ∧ _›
              clear x0 x1 x2 e0 e1 d2 d3 d4 d5 HA HE HX HK HDD
              obtain ⟨x0, x1, x2, e0, e1, d2, d3, d4, d5, HA, HE, HX, HK, HDD⟩ := hHeld
              clear hw3
              go_wp2_with fail
              refine (leap_Indicator.calls 3000 a0_0 M A5 c5 r3 (t - 1) _ _ HK.out HL.out F3.out).mono ?_
              rintro e w8 ⟨rfl, hb7⟩
              replace HA := Aside0.mk (HA.out.step hb7)
              replace HE := Aside0.mk (blk_below HE.out hb7)
              replace HX := Aside0.mk (blk_below HX.out hb7)
              replace HK := Aside0.mk (Kd.C_below HK.out hb7)
              clear hb7 e0 e1 x0 x1 x2
              have e0 := blk_cell HE.out 0
              have e1 := blk_cell HE.out 1
              have x0 := blk_cell HX.out 0
              have x1 := blk_cell HX.out 1
              have x2 := blk_cell HX.out 2
              go_wp2_with fail
              refine (leap_TAI.calls 3000 a0_0 M A5 c5 r3 t false _ _ _ HK.out HL.out F4.out).mono ?_
              rintro e w9 ⟨rfl, hb7⟩
              replace HA := Aside0.mk (HA.out.step hb7)
              replace HE := Aside0.mk (blk_below HE.out hb7)
              replace HX := Aside0.mk (blk_below HX.out hb7)
              replace HK := Aside0.mk (Kd.C_below HK.out hb7)
              clear hb7 e0 e1 x0 x1 x2
              have e0 := blk_cell HE.out 0
              have e1 := blk_cell HE.out 1
              have x0 := blk_cell HX.out 0
              have x1 := blk_cell HX.out 1
              have x2 := blk_cell HX.out 2
              go_wp2_with fail
              refine (leap_TAI.calls 3000 a0_0 M A5 c5 r3 (t - 2) false _ _ _ HK.out HL.out F5.out).mono ?_
              rintro e w10 ⟨rfl, hb7⟩
              replace HA := Aside0.mk (HA.out.step hb7)
              replace HE := Aside0.mk (blk_below HE.out hb7)
              replace HX := Aside0.mk (blk_below HX.out hb7)
              replace HK := Aside0.mk (Kd.C_below HK.out hb7)
              clear hb7 e0 e1 x0 x1 x2
              have e0 := blk_cell HE.out 0
              have e1 := blk_cell HE.out 1
              have x0 := blk_cell HX.out 0
              have x1 := blk_cell HX.out 1
              have x2 := blk_cell HX.out 2
              clear x0 x1 x2
              have hz : (t + (o + 1) - (t - 2 + o) == 3) = true := beq_iff_eq.mpr (by omega)
              go_wp2
              go_ret
              exact ⟨by first | rfl | (rw [hz]; rfl) | (simp only [hz]; rfl), HA.out.hb⟩
            · have rb : (r4 == 0) = false := beq_eq_false_iff_ne.mpr r0
              have rn : (r4 != 0) = true := bne_iff_ne.mpr r0
              obtain rfl := ext_err hR r0
              clear hR r0
              have e0 := blk_cell HE.out 0
              have e1 := blk_cell HE.out 1
              have c0 := blk_cell HA.out.k0 0
              have c1' := blk_cell HA.out.k0 1
              have c2 := blk_cell HA.out.k0 2
              go_wp2_with fail
              refine (leapvote_Extend.calls 3000 a0_0 a0_1 A0_2 c0_2 l0_2 t (1) _ _ _ _ _ (Kd.C_below HR.out HA.out.hb) HC.out HX0.out).mono ?_
              rintro e w5 ⟨v5, rfl, hr5, hb5⟩
              obtain ⟨A5, c5, rfl⟩ := Kd.R_slice hr5
              replace HA := Aside0.mk (HA.out.step hb5)
              replace HE := Aside0.mk (blk_below HE.out hb5)
              have HK := Aside0.mk (Kd.R_reads' hr5).2.2
              have HL := Aside0.mk (Kd.R_reads' hr5).2.1
              clear hb5 hr5 HX0 e0 e1 c0 c1' c2
              replace HA := Aside0.mk (HA.out.alloc (.cells #[.int .i64 r1, .int .i64 r2, .slice A5 0 c5] 24 (0, 0)))
              replace HE := Aside0.mk (blk_alloc HE.out (.cells #[.int .i64 r1, .int .i64 r2, .slice A5 0 c5] 24 (0, 0)))
              replace HK := Aside0.mk (Kd.C_alloc HK.out (.cells #[.int .i64 r1, .int .i64 r2, .slice A5 0 c5] 24 (0, 0)))
              have HX : Aside0 ((w5.alloc (.cells #[.int .i64 r1, .int .i64 r2, .slice A5 0 c5] 24 (0, 0))).heap[w5.heap.size]? = some (.cells #[.int .i64 r1, .int .i64 r2, .slice A5 0 c5] 24 (0, 0))) := ⟨blk_new w5 _⟩
              have e0 := blk_cell HE.out 0
              have e1 := blk_cell HE.out 1
              have c0 := blk_cell HA.out.k0 0
              have c1' := blk_cell HA.out.k0 1
              have c2 := blk_cell HA.out.k0 2
              have x0 := blk_cell HX.out 0
              have x1 := blk_cell HX.out 1
              have x2 := blk_cell HX.out 2
              go_wp2_with fail
              refine (timesynctop_extendError.calls a0_0 a0_1 A0_2 c0_2 l0_2 t (1) _ _ (Kd.C_below HR.out HA.out.hb) HC.out HEE.out).mono ?_
              rintro e w6 ⟨rfl, hb6⟩
              replace HA := Aside0.mk (HA.out.step hb6)
              replace HE := Aside0.mk (blk_below HE.out hb6)
              replace HX := Aside0.mk (blk_below HX.out hb6)
              replace HK := Aside0.mk (Kd.C_below HK.out hb6)
              clear hb6 HEE e0 e1 c0 c1' c2 x0 x1 x2
              have e0 := blk_cell HE.out 0
              have e1 := blk_cell HE.out 1
              have c0 := blk_cell HA.out.k0 0
              have c1' := blk_cell HA.out.k0 1
              have c2 := blk_cell HA.out.k0 2
              have x0 := blk_cell HX.out 0
              have x1 := blk_cell HX.out 1
              have x2 := blk_cell HX.out 2
              go_wp2
              go_ret
              exact ⟨rfl, HA.out.hb⟩
          · rw [show armR 2 t true = (t, -1, true) from rfl] at HM
            go_wp2_with fail
            refine (HD.out _ HS.out).mono ?_
            rintro e w3 ⟨rfl, hb3⟩
            replace HS := Aside0.mk (HS.out.step hb3)
            replace HA := Aside0.mk (HA.out.step hb3)
            clear hb3 HD
            go_wp2_with fail
            refine (HM.out _ HS.out).mono ?_
            rintro e w4 ⟨rfl, hb4⟩
            replace HA := Aside0.mk (HA.out.step hb4)
            clear hb4 HM HS
            have tl := mb_lt t2
            have t3 := (mb_in t2).1.1
            have HE : Aside0 ((w4.alloc (.cells #[.int .i64 t, .int .i64 (-1)] 44 (0, 0))).heap[w4.heap.size]? = some (.cells #[.int .i64 t, .int .i64 (-1)] 44 (0, 0))) := ⟨blk_new w4 _⟩
            replace HA := Aside0.mk (HA.out.alloc (.cells #[.int .i64 t, .int .i64 (-1)] 44 (0, 0)))
            have hE := ext_f 3000 (by omega) a0_0 a0_1 t (-1) l0_2
            have hEE := extErr (b := a0_0) (x := a0_1) (l := l0_2) (t := t) (c := -1) g4 t2 (by decide)
            obtain ⟨R, hR⟩ : ∃ R, extS a0_0 a0_1 l0_2 t (-1) = R := ⟨_, rfl⟩
            rw [hR] at hE hEE
            obtain ⟨r1, r2, r3, r4⟩ := R
            dsimp only at hEE
            have HX0 := Aside0.mk hE
            have HEE := Aside0.mk hEE
            clear hE hEE
            by_cases r0 : r4 = 0
            · subst r0
              obtain ⟨k1, k2, k3, k4, k5, k6, e1, rfl, rfl⟩ := ext_ok hR
              have e1' := e1.symm
              clear e1
              subst e1'
              have hT := chk_0 a0_0 a0_1 l0_2 k1
              have k7 := chk_ext k1 k2 k3 k4 k5 k6
              have k8 : lastP (-9000000000) l0_2 < t := by rw [← lastP_prv]; omega
              have o1 := OL_snoc_at t (oldI a0_0 l0_2 l0_2.length + -1) l0_2 a0_0 _ hT.chain k8
              have o2 := OL_snoc_lt (t - 1) t (oldI a0_0 l0_2 l0_2.length + -1) (by omega) l0_2 a0_0
              have o4 := OL_late (t - 1) l0_2 a0_0 _ hT.chain (by omega)
              have o5 := tai_at (b := a0_0) (o2 := oldI a0_0 l0_2 l0_2.length + -1) hT.chain k8
              have o6 := tai_before (b := a0_0) (o2 := oldI a0_0 l0_2 l0_2.length + -1) hT.chain k8 (mb_in t2).2 (by omega)
              rw [← lastO_old] at o4 o6
              rw [o4] at o2
              have ko := (oldI_ok k1).1
              have mge := (mx_ge a0_1 (t + 1)).1
              have F0 := Aside0.mk (leap_check 3000 (by omega) a0_0 (mx a0_1 (t + 1)) (l0_2 ++ [⟨t, oldI a0_0 l0_2 l0_2.length + -1⟩]))
              rw [k7] at F0
              have F1 := Aside0.mk (offset_f 3000 (by omega) a0_0 (mx a0_1 (t + 1)) (t - 1) _ k7)
              rw [o2] at F1
              have F2 := Aside0.mk (offset_f 3000 (by omega) a0_0 (mx a0_1 (t + 1)) t _ k7)
              rw [o1] at F2
              have F3 := Aside0.mk (indicator_f 3000 (by omega) a0_0 (mx a0_1 (t + 1)) t (oldI a0_0 l0_2 l0_2.length + -1) l0_2 k7 (by omega) (by omega) (fun e he => by have := hT.chain.last_le e he; omega) (next_before t t2 (by omega) (by omega)))
              rw [if_neg (show ¬ oldI a0_0 l0_2 l0_2.length + -1 > oldI a0_0 l0_2 l0_2.length by omega)] at F3
              have F4 := Aside0.mk (tai_f 3000 (by omega) a0_0 (mx a0_1 (t + 1)) t false _ k7 (by omega))
              rw [o5] at F4
              have F5 := Aside0.mk (tai_f 3000 (by omega) a0_0 (mx a0_1 (t + 1)) (t - 2) false _ k7 (by omega))
              rw [o6] at F5
              have F6 := Aside0.mk (of_mb t2)
              clear hR k1 k2 k3 k4 k5 k7 k8 o1 o2 o4 o5 o6 hT
              generalize oldI a0_0 l0_2 l0_2.length = o at *
              generalize hmx : mx a0_1 (t + 1) = M at *
              clear hmx
              generalize oy (t / 86400) = YY at *
              generalize om (t / 86400) = MM at *
              generalize l0_2 ++ [(⟨t, o + -1⟩ : S44)] = r3 at *
              have e0 := blk_cell HE.out 0
              have e1 := blk_cell HE.out 1
              have c0 := blk_cell HA.out.k0 0
              have c1' := blk_cell HA.out.k0 1
              have c2 := blk_cell HA.out.k0 2
              go_wp2_with fail
              refine (leapvote_Extend.calls 3000 a0_0 a0_1 A0_2 c0_2 l0_2 t (-1) _ _ _ _ _ (Kd.C_below HR.out HA.out.hb) HC.out HX0.out).mono ?_
              rintro e w5 ⟨v5, rfl, hr5, hb5⟩
              obtain ⟨A5, c5, rfl⟩ := Kd.R_slice hr5
              replace HA := Aside0.mk (HA.out.step hb5)
              replace HE := Aside0.mk (blk_below HE.out hb5)
              have HK := Aside0.mk (Kd.R_reads' hr5).2.2
              have HL := Aside0.mk (Kd.R_reads' hr5).2.1
              clear hb5 hr5 HX0 e0 e1 c0 c1' c2
              replace HA := Aside0.mk (HA.out.alloc (.cells #[.int .i64 a0_0, .int .i64 M, .slice A5 r3.length c5] 24 (0, 0)))
              replace HE := Aside0.mk (blk_alloc HE.out (.cells #[.int .i64 a0_0, .int .i64 M, .slice A5 r3.length c5] 24 (0, 0)))
              replace HK := Aside0.mk (Kd.C_alloc HK.out (.cells #[.int .i64 a0_0, .int .i64 M, .slice A5 r3.length c5] 24 (0, 0)))
              have HX : Aside0 ((w5.alloc (.cells #[.int .i64 a0_0, .int .i64 M, .slice A5 r3.length c5] 24 (0, 0))).heap[w5.heap.size]? = some (.cells #[.int .i64 a0_0, .int .i64 M, .slice A5 r3.length c5] 24 (0, 0))) := ⟨blk_new w5 _⟩
              have e0 := blk_cell HE.out 0
              have e1 := blk_cell HE.out 1
              have c0 := blk_cell HA.out.k0 0
              have c1' := blk_cell HA.out.k0 1
              have c2 := blk_cell HA.out.k0 2
              have x0 := blk_cell HX.out 0
              have x1 := blk_cell HX.out 1
              have x2 := blk_cell HX.out 2
              go_wp2_with fail
              refine (timesynctop_extendError.calls a0_0 a0_1 A0_2 c0_2 l0_2 t (-1) _ _ (Kd.C_below HR.out HA.out.hb) HC.out HEE.out).mono ?_
              rintro e w6 ⟨rfl, hb6⟩
              replace HA := Aside0.mk (HA.out.step hb6)
              replace HE := Aside0.mk (blk_below HE.out hb6)
              replace HX := Aside0.mk (blk_below HX.out hb6)
              replace HK := Aside0.mk (Kd.C_below HK.out hb6)
              clear hb6 HEE e0 e1 c0 c1' c2 x0 x1 x2
              have e0 := blk_cell HE.out 0
              have e1 := blk_cell HE.out 1
              have c0 := blk_cell HA.out.k0 0
              have c1' := blk_cell HA.out.k0 1
              have c2 := blk_cell HA.out.k0 2
              have x0 := blk_cell HX.out 0
              have x1 := blk_cell HX.out 1
              have x2 := blk_cell HX.out 2
              go_wp2_with fail
              refine (civil_Of.calls t YY MM 1 0 0 0 0 0 _ F6.out).mono ?_
              rintro e w7 ⟨rfl, hb7⟩
              replace HA := Aside0.mk ((HA.out.step hb7).alloc (.cells #[.int .i64 YY, .int .i64 MM, .int .i64 1, .int .i64 0, .int .i64 0, .int .i64 0, .int .i64 0] 51 (0, 0)))
              replace HE := Aside0.mk (blk_alloc (blk_below HE.out hb7) (.cells #[.int .i64 YY, .int .i64 MM, .int .i64 1, .int .i64 0, .int .i64 0, .int .i64 0, .int .i64 0] 51 (0, 0)))
              replace HX := Aside0.mk (blk_alloc (blk_below HX.out hb7) (.cells #[.int .i64 YY, .int .i64 MM, .int .i64 1, .int .i64 0, .int .i64 0, .int .i64 0, .int .i64 0] 51 (0, 0)))
              replace HK := Aside0.mk (Kd.C_alloc (Kd.C_below HK.out hb7) (.cells #[.int .i64 YY, .int .i64 MM, .int .i64 1, .int .i64 0, .int .i64 0, .int .i64 0, .int .i64 0] 51 (0, 0)))
              have HDD : Aside0 ((w7.alloc (.cells #[.int .i64 YY, .int .i64 MM, .int .i64 1, .int .i64 0, .int .i64 0, .int .i64 0, .int .i64 0] 51 (0, 0))).heap[w7.heap.size]? = some (.cells #[.int .i64 YY, .int .i64 MM, .int .i64 1, .int .i64 0, .int .i64 0, .int .i64 0, .int .i64 0] 51 (0, 0))) := ⟨blk_new w7 _⟩
              clear hb7 F6 e0 e1 c0 c1' c2 x0 x1 x2
              have e0 := blk_cell HE.out 0
              have e1 := blk_cell HE.out 1
              have x0 := blk_cell HX.out 0
              have x1 := blk_cell HX.out 1
              have x2 := blk_cell HX.out 2
              have d2 := blk_cell HDD.out 2
              have d3 := blk_cell HDD.out 3
              have d4 := blk_cell HDD.out 4
              have d5 := blk_cell HDD.out 5
              have hw1 : IntKind.i64.wrap (t - 1) = t - 1 := (i64_w _).trans (by unfold wrap64; omega)
              have hw2 : IntKind.i64.wrap (t - 2) = t - 2 := (i64_w _).trans (by unfold wrap64; omega)
              have hw3 : IntKind.i64.wrap (o + -1 - o) = -1 := (i64_w _).trans (by unfold wrap64; omega)
              go_wp2_with fail
              go_region_held3 (fun W => W.cell? ⟨w5.heap.size, 0, none⟩ = some (.int .i64 a0_0) ∧ W.cell? ⟨w5.heap.size, 1, none⟩ = some (.int .i64 M) ∧ W.cell? ⟨w5.heap.size, 2, none⟩ = some (.slice A5 r3.length c5) ∧ W.cell? ⟨w4.heap.size, 0, none⟩ = some (.int .i64 t) ∧ W.cell? ⟨w4.heap.size, 1, none⟩ = some (.int .i64 (-1)) ∧ W.cell? ⟨w7.heap.size, 2, none⟩ = some (.int .i64 1) ∧ W.cell? ⟨w7.heap.size, 3, none⟩ = some (.int .i64 0) ∧ W.cell? ⟨w7.heap.size, 4, none⟩ = some (.int .i64 0) ∧ W.cell? ⟨w7.heap.size, 5, none⟩ = some (.int .i64 0) ∧ Aside0 (timesynctop_TopVotes.At w W a0_0 a0_1 A0_2 l0_2.length c0_2) ∧ Aside0 (W.heap[w4.heap.size]? = some (.cells #[.int .i64 t, .int .i64 (-1)] 44 (0, 0))) ∧ Aside0 (W.heap[w5.heap.size]? = some (.cells #[.int .i64 a0_0, .int .i64 M, .slice A5 r3.length c5] 24 (0, 0))) ∧ Aside0 (Kd.C k44 W A5 r3.length r3) ∧ Aside0 (W.heap[w7.heap.size]? = some (.cells #[.int .i64 YY, .int .i64 MM, .int .i64 1, .int .i64 0, .int .i64 0, .int .i64 0, .int .i64 0] 51 (0, 0))))
                (first
                  | exact ⟨x0, x1, x2, e0, e1, d2, d3, d4, d5, ⟨HA.out.step (below_drew (Below.refl _ _))⟩, ⟨HE.out⟩, ⟨HX.out⟩, ⟨Kd.C_drew HK.out⟩, ⟨HDD.out⟩⟩
                  | (go_split_ands; exact ⟨pw_cell_below hb (by with_reducible assumption), pw_cell_below hb (by with_reducible assumption), pw_cell_below hb (by with_reducible assumption), pw_cell_below hb (by with_reducible assumption), pw_cell_below hb (by with_reducible assumption), pw_cell_below hb (by with_reducible assumption), pw_cell_below hb (by with_reducible assumption), pw_cell_below hb (by with_reducible assumption), pw_cell_below hb (by with_reducible assumption), ⟨timesynctop_TopVotes.At.step (by exact Aside0.out (by with_reducible assumption)) hb⟩, ⟨blk_below (g := w4.heap.size) (o := .cells #[.int .i64 t, .int .i64 (-1)] 44 (0, 0)) (by exact Aside0.out (by with_reducible assumption)) hb⟩, ⟨blk_below (g := w5.heap.size) (o := .cells #[.int .i64 a0_0, .int .i64 M, .slice A5 r3.length c5] 24 (0, 0)) (by exact Aside0.out (by with_reducible assumption)) hb⟩, ⟨Kd.C_below (by exact Aside0.out (by with_reducible assumption)) hb⟩, ⟨blk_below (g := w7.heap.size) (o := .cells #[.int .i64 YY, .int .i64 MM, .int .i64 1, .int .i64 0, .int .i64 0, .int .i64 0, .int .i64 0] 51 (0, 0)) (by exact Aside0.out (by with_reducible assumption)) hb⟩⟩))
                (first | (go_at_call 16; (with_reducible refine (leap_Check.calls 3000 a0_0 M A5 c5 r3 _ _ ?hK HL.out F0.out).mono ?_); (case hK => (go_split_ands; exact Aside0.out (by with_reducible assumption))); rintro e w' ⟨rfl, hb⟩) | (go_at_call 24; (with_reducible refine (leap_Offset.calls 3000 a0_0 M A5 c5 r3 t _ _ ?hK HL.out F2.out).mono ?_); (case hK => (go_split_ands; exact Aside0.out (by with_reducible assumption))); rintro e w' ⟨rfl, hb⟩) | (go_at_call 24; (with_reducible refine (leap_Offset.calls 3000 a0_0 M A5 c5 r3 (t - 1) _ _ ?hK HL.out F1.out).mono ?_); (case hK => (go_split_ands; exact Aside0.out (by with_reducible assumption))); rintro e w' ⟨rfl, hb⟩))
              have hHeld := ‹_ ∧ _ ∧ _ ∧ _ ∧ _ ∧ _ ∧ _ ∧ _ ∧ _ ∧ Aside0 (timesynctop_TopVotes.At w _ a0_0 a0_1 _ _ _) ∧ _›
              clear x0 x1 x2 e0 e1 d2 d3 d4 d5 HA HE HX HK HDD
              obtain ⟨x0, x1, x2, e0, e1, d2, d3, d4, d5, HA, HE, HX, HK, HDD⟩ := hHeld
              clear hw3
              go_wp2_with fail
              refine (leap_Indicator.calls 3000 a0_0 M A5 c5 r3 (t - 1) _ _ HK.out HL.out F3.out).mono ?_
              rintro e w8 ⟨rfl, hb7⟩
              replace HA := Aside0.mk (HA.out.step hb7)
              replace HE := Aside0.mk (blk_below HE.out hb7)
              replace HX := Aside0.mk (blk_below HX.out hb7)
              replace HK := Aside0.mk (Kd.C_below HK.out hb7)
              clear hb7 e0 e1 x0 x1 x2
              have e0 := blk_cell HE.out 0
              have e1 := blk_cell HE.out 1
              have x0 := blk_cell HX.out 0
              have x1 := blk_cell HX.out 1
              have x2 := blk_cell HX.out 2
              go_wp2_with fail
              refine (leap_TAI.calls 3000 a0_0 M A5 c5 r3 t false _ _ _ HK.out HL.out F4.out).mono ?_
              rintro e w9 ⟨rfl, hb7⟩
              replace HA := Aside0.mk (HA.out.step hb7)
              replace HE := Aside0.mk (blk_below HE.out hb7)
              replace HX := Aside0.mk (blk_below HX.out hb7)
              replace HK := Aside0.mk (Kd.C_below HK.out hb7)
              clear hb7 e0 e1 x0 x1 x2
              have e0 := blk_cell HE.out 0
              have e1 := blk_cell HE.out 1
              have x0 := blk_cell HX.out 0
              have x1 := blk_cell HX.out 1
              have x2 := blk_cell HX.out 2
              go_wp2_with fail
              refine (leap_TAI.calls 3000 a0_0 M A5 c5 r3 (t - 2) false _ _ _ HK.out HL.out F5.out).mono ?_
              rintro e w10 ⟨rfl, hb7⟩
              replace HA := Aside0.mk (HA.out.step hb7)
              replace HE := Aside0.mk (blk_below HE.out hb7)
              replace HX := Aside0.mk (blk_below HX.out hb7)
              replace HK := Aside0.mk (Kd.C_below HK.out hb7)
              clear hb7 e0 e1 x0 x1 x2
              have e0 := blk_cell HE.out 0
              have e1 := blk_cell HE.out 1
              have x0 := blk_cell HX.out 0
              have x1 := blk_cell HX.out 1
              have x2 := blk_cell HX.out 2
              clear x0 x1 x2
              have hz : (t + (o + -1) - (t - 2 + o) == 1) = true := beq_iff_eq.mpr (by omega)
              go_wp2
              go_ret
              exact ⟨by first | rfl | (rw [hz]; rfl) | (simp only [hz]; rfl), HA.out.hb⟩
            · have rb : (r4 == 0) = false := beq_eq_false_iff_ne.mpr r0
              have rn : (r4 != 0) = true := bne_iff_ne.mpr r0
              obtain rfl := ext_err hR r0
              clear hR r0
              have e0 := blk_cell HE.out 0
              have e1 := blk_cell HE.out 1
              have c0 := blk_cell HA.out.k0 0
              have c1' := blk_cell HA.out.k0 1
              have c2 := blk_cell HA.out.k0 2
              go_wp2_with fail
              refine (leapvote_Extend.calls 3000 a0_0 a0_1 A0_2 c0_2 l0_2 t (-1) _ _ _ _ _ (Kd.C_below HR.out HA.out.hb) HC.out HX0.out).mono ?_
              rintro e w5 ⟨v5, rfl, hr5, hb5⟩
              obtain ⟨A5, c5, rfl⟩ := Kd.R_slice hr5
              replace HA := Aside0.mk (HA.out.step hb5)
              replace HE := Aside0.mk (blk_below HE.out hb5)
              have HK := Aside0.mk (Kd.R_reads' hr5).2.2
              have HL := Aside0.mk (Kd.R_reads' hr5).2.1
              clear hb5 hr5 HX0 e0 e1 c0 c1' c2
              replace HA := Aside0.mk (HA.out.alloc (.cells #[.int .i64 r1, .int .i64 r2, .slice A5 0 c5] 24 (0, 0)))
              replace HE := Aside0.mk (blk_alloc HE.out (.cells #[.int .i64 r1, .int .i64 r2, .slice A5 0 c5] 24 (0, 0)))
              replace HK := Aside0.mk (Kd.C_alloc HK.out (.cells #[.int .i64 r1, .int .i64 r2, .slice A5 0 c5] 24 (0, 0)))
              have HX : Aside0 ((w5.alloc (.cells #[.int .i64 r1, .int .i64 r2, .slice A5 0 c5] 24 (0, 0))).heap[w5.heap.size]? = some (.cells #[.int .i64 r1, .int .i64 r2, .slice A5 0 c5] 24 (0, 0))) := ⟨blk_new w5 _⟩
              have e0 := blk_cell HE.out 0
              have e1 := blk_cell HE.out 1
              have c0 := blk_cell HA.out.k0 0
              have c1' := blk_cell HA.out.k0 1
              have c2 := blk_cell HA.out.k0 2
              have x0 := blk_cell HX.out 0
              have x1 := blk_cell HX.out 1
              have x2 := blk_cell HX.out 2
              go_wp2_with fail
              refine (timesynctop_extendError.calls a0_0 a0_1 A0_2 c0_2 l0_2 t (-1) _ _ (Kd.C_below HR.out HA.out.hb) HC.out HEE.out).mono ?_
              rintro e w6 ⟨rfl, hb6⟩
              replace HA := Aside0.mk (HA.out.step hb6)
              replace HE := Aside0.mk (blk_below HE.out hb6)
              replace HX := Aside0.mk (blk_below HX.out hb6)
              replace HK := Aside0.mk (Kd.C_below HK.out hb6)
              clear hb6 HEE e0 e1 c0 c1' c2 x0 x1 x2
              have e0 := blk_cell HE.out 0
              have e1 := blk_cell HE.out 1
              have c0 := blk_cell HA.out.k0 0
              have c1' := blk_cell HA.out.k0 1
              have c2 := blk_cell HA.out.k0 2
              have x0 := blk_cell HX.out 0
              have x1 := blk_cell HX.out 1
              have x2 := blk_cell HX.out 2
              go_wp2
              go_ret
              exact ⟨rfl, HA.out.hb⟩
          · rw [show armR 3 t true = (0, 0, false) from rfl] at HM
            go_wp2_with fail
            refine (HD.out _ HS.out).mono ?_
            rintro e w3 ⟨rfl, hb3⟩
            replace HS := Aside0.mk (HS.out.step hb3)
            replace HA := Aside0.mk (HA.out.step hb3)
            clear hb3 HD
            go_wp2_with fail
            refine (HM.out _ HS.out).mono ?_
            rintro e w4 ⟨rfl, hb4⟩
            replace HA := Aside0.mk (HA.out.step hb4)
            clear hb4 HM HS
            replace HA := Aside0.mk (HA.out.alloc (.cells #[.int .i64 0, .int .i64 0] 44 (0, 0)))
            go_wp2
            go_ret
            exact ⟨rfl, HA.out.hb⟩
end Go.Proofs.Ytljbajnmkkebkaa.All
