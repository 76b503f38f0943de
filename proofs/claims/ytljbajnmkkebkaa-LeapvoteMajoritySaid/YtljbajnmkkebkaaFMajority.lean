/- LeapvoteMajority: what the function does. -/
import Derived.Test.YtljbajnmkkebkaaVs
import Derived.Test.YtljbajnmkkebkaaNext
namespace Go.Proofs.Ytljbajnmkkebkaa.All
open Go.RowKit Go.Proofs.Ytljbajnmkkebkaa.Vo Go.Proofs.Ytljbajnmkkebkaa.Ext Go.Proofs.YtljbajnmkkebkaaW.PrintWords Go.Proofs.YtljbajnmkkebkaaW.PrintLast Go.Proofs.YtljbajnmkkebkaaW.PrintMore
set_option linter.unusedSimpArgs false
set_option linter.unusedVariables false

/-- The votes of LeapvoteMajority: q of them are K. -/
def majX (q K : Int) (l : List Int) (j : Nat) : Int := if (j : Int) < q then K else if (j : Int) < (l.length : Int) then rd l (j : Int) % 4 else 3
theorem majX_bd {q K : Int} {l : List Int} (hK : 0 ≤ K ∧ K ≤ 2) (hl : ∀ z ∈ l, 0 ≤ z ∧ z ≤ 255) (j : Nat) : 0 ≤ majX q K l j ∧ majX q K l j ≤ 3 := by
  unfold majX
  split
  · omega
  · split
    · omega
    · omega
theorem rd_bd {l : List Int} (hl : ∀ z ∈ l, 0 ≤ z ∧ z ≤ 255) (j : Nat) (hj : j < l.length) : 0 ≤ rd l (j : Int) ∧ rd l (j : Int) ≤ 255 := by
  have e : rd l (j : Int) = l[j] := by
    unfold rd
    rw [Int.toNat_natCast, List.getD_eq_getElem?_getD, List.getElem?_eq_getElem hj]
    rfl
  rw [e]
  exact hl _ (List.getElem_mem hj)
theorem maj_num {q K : Int} {l : List Int} (m n : Nat) (hq : q = (n : Int)) (hn : n ≤ m) : q ≤ num (majX q K l) K m := by
  have h := num_all (majX q K l) K n (fun j hj => by unfold majX; rw [if_pos (by omega)])
  have h2 := num_mono (majX q K l) K n (m - n)
  rw [show n + (m - n) = m by omega] at h2
  omega
def timesynclaw54_LeapvoteMajority.f (_ say : Int) (l : List Int) (utc : Int) : Option Bool := if (0 ≤ say ∧ say ≤ 255) ∧ (∀ z ∈ l, 0 ≤ z ∧ z ≤ 255) ∧ (-2147483648 ≤ utc ∧ utc ≤ 2147483647) then some true else none
set_option maxHeartbeats 3200000 in
set_option maxRecDepth 100000 in
theorem timesynclaw54_LeapvoteMajority.calls (a0 : Int) (a1 : Int) (A2 : Option Addr) (c2 : Nat) (l2 : List Int) (a3 : Int) (r : Bool) (w : World) (hr2 : Kd.C (Kd.int .u8) w A2 l2.length l2) (hc2 : l2.length ≤ c2) (h : timesynclaw54_LeapvoteMajority.f a0 a1 l2 a3 = some r) :
    Calls Try.prog 7 #[.int .i64 a0, .int .u8 a1, .slice A2 l2.length c2, .int .i32 a3] w fun e w' => e = .returned (.bool r) ∧ Below w.heap.size w w' := by
  unfold timesynclaw54_LeapvoteMajority.f at h
  by_cases hh : (0 ≤ a1 ∧ a1 ≤ 255) ∧ (∀ z ∈ l2, 0 ≤ z ∧ z ≤ 255) ∧ (-2147483648 ≤ a3 ∧ a3 ≤ 2147483647)
  case neg =>
    rw [if_neg hh] at h
    cases h
  rw [if_pos hh] at h
  obtain rfl := Option.some.inj h
  clear h
  obtain ⟨⟨say0, say1⟩, hz, ⟨utc0, utc1⟩⟩ := hh
  have HZ := Aside0.mk hz
  have HR := Aside0.mk hr2
  have HC := Aside0.mk hc2
  clear hz hr2 hc2
  have hu2 := Try.underlying44
  by_cases h0 : a0 < 1
  · have HN := Aside0.mk (fun W => new_bad a0 W (by omega))
    go_enter Try.func7, Try.ntmps7
    go_wp2_with fail
    refine (HN.out _).mono ?_
    rintro e w1 ⟨rfl, rfl⟩
    go_wp2_with fail
    refine (awake_ok _).mono ?_
    rintro e w2 ⟨rfl, hb⟩
    have HB := Aside0.mk hb
    clear hb
    go_wp2
    go_ret
    exact ⟨rfl, HB.out⟩
  by_cases h1 : 12 < a0
  · have HN := Aside0.mk (fun W => new_bad a0 W (by omega))
    go_enter Try.func7, Try.ntmps7
    go_wp2_with fail
    refine (HN.out _).mono ?_
    rintro e w1 ⟨rfl, rfl⟩
    go_wp2_with fail
    refine (awake_ok _).mono ?_
    rintro e w2 ⟨rfl, hb⟩
    have HB := Aside0.mk hb
    clear hb
    go_wp2
    go_ret
    exact ⟨rfl, HB.out⟩
  obtain ⟨m, rfl⟩ := Int.eq_ofNat_of_zero_le (show 0 ≤ a0 by omega)
  have HN := Aside0.mk (fun W => new_ok (m : Int) W (by omega) (by omega))
  go_enter Try.func7, Try.ntmps7
  go_wp2_with fail
  refine (HN.out _).mono ?_
  rintro e w1 ⟨rfl, hv, hb⟩
  have HA : Aside0 (VS w w1 w.heap.size m (majX ((m : Int) / 2 + 1) (a1 % 3) l2) a3 0) := ⟨⟨by rw [vfi_0, vfa_0]; exact hv, Nat.le_refl _, hb⟩⟩
  clear hv hb HN
  go_wp2
  have q0 : (m : Int) < 2 * ((m : Int) / 2 + 1) := by omega
  have q1 : (m : Int) / 2 + 1 ≤ (m : Int) := by omega
  have q2 : 1 ≤ (m : Int) / 2 + 1 := by omega
  have K0 : 0 ≤ a1 % 3 := by omega
  have K1 : a1 % 3 ≤ 2 := by omega
  have m12 : m ≤ 12 := by omega
  have m1 : 1 ≤ m := by omega
  generalize (m : Int) / 2 + 1 = q at *
  generalize a1 % 3 = K at *
  go_loopw [39] (fun v W => ∃ k : Nat, k ≤ m ∧ v = .int .i64 (k : Int) ∧ Aside0 (VS w W w.heap.size m (majX q K l2) a3 k)) (fun v _ => m - (intOf v).toNat)
  case atStart => exact ⟨0, by omega, rfl, HA⟩
  case round =>
    clear HA
    obtain ⟨k, hk, rfl, HA⟩ := hrel
    by_cases hk2 : k < m
    · have hk3 : (k : Int) < (m : Int) := by omega
      have HV := Aside0.mk (HA.out.calls (by omega) hk2 (majX_bd ⟨K0, K1⟩ HZ.out k) (by omega))
      have HB := Aside0.mk HA.out.hb
      clear HA
      by_cases c1 : (k : Int) < q
      · rw [show majX q K l2 k = K from by unfold majX; rw [if_pos c1]] at HV
        go_wp2_with fail
        refine HV.out.mono ?_
        rintro e w2 ⟨rfl, hs, _⟩
        have HS := Aside0.mk hs
        clear hs HV
        go_wp2
        go_roundw
        case rel => exact ⟨k + 1, by omega, by go_num, HS⟩
        case measure => simp [intOf]; omega
      · by_cases c2 : (k : Int) < (l2.length : Int)
        · rw [show majX q K l2 k = rd l2 (k : Int) % 4 from by unfold majX; rw [if_neg c1, if_pos c2]] at HV
          obtain ⟨ad, ead, hx⟩ := Kd.at_int HR.out (k : Int) (by omega) (by omega)
          subst ead
          obtain ⟨z0, z1⟩ := rd_bd HZ.out k (by omega)
          generalize rd l2 (k : Int) = z at *
          replace hx := (HB.out.cell (World.block_lt_of_cell? w _ hx)).trans hx
          rw [Int.toNat_natCast] at hx
          have p0 : ((0 : Int) ≤ (k : Int)) = True := eq_true (by omega)
          have p1 : ((k : Int) < (l2.length : Int)) = True := eq_true c2
          go_wp2_with fail
          refine HV.out.mono ?_
          rintro e w2 ⟨rfl, hs, _⟩
          have HS := Aside0.mk hs
          clear hs HV
          go_wp2
          go_roundw
          case rel => exact ⟨k + 1, by omega, by go_num, HS⟩
          case measure => simp [intOf]; omega
        · rw [show majX q K l2 k = 3 from by unfold majX; rw [if_neg c1, if_neg c2]] at HV
          go_wp2_with fail
          refine HV.out.mono ?_
          rintro e w2 ⟨rfl, hs, _⟩
          have HS := Aside0.mk hs
          clear hs HV
          go_wp2
          go_roundw
          case rel => exact ⟨k + 1, by omega, by go_num, HS⟩
          case measure => simp [intOf]; omega
    · obtain rfl : k = m := by omega
      have HG := Aside0.mk (vs_good (m := k) (X := majX q K l2) (u := a3) (fun j _ => majX_bd ⟨K0, K1⟩ HZ.out j) (by omega))
      have HQ := Aside0.mk (fun W (hW : VS w W w.heap.size k (majX q K l2) a3 k) => counts_ok w.heap.size k _ _ _ a3 W ⟨m1, m12⟩ hW.kv HG.out)
      rw [tc_v _ _ _ _ _ (by omega), tc_v _ _ _ _ _ (by omega), tc_v _ _ _ _ _ (by omega), if_pos (by omega), if_pos (by omega), if_pos (by omega)] at HQ
      have hmost := dec_most (majX q K l2) K k (by omega) (by have := maj_num (l := l2) (K := K) (q := q) k q.toNat (by omega) (by omega); omega)
      have H1 := Aside0.mk (fun W (hW : VS w W w.heap.size k (majX q K l2) a3 k) => decision_ok w.heap.size k _ _ _ a3 W ⟨m1, m12⟩ hW.kv HG.out)
      rw [decV_new _ _ _ _ (by omega) (by omega), hmost] at H1
      have H2 := Aside0.mk (fun W (hW : VS w W w.heap.size k (majX q K l2) a3 k) => decision_ok w.heap.size k _ _ _ (a3 + 86399) W ⟨m1, m12⟩ hW.kv HG.out)
      rw [decV_new _ _ _ _ (by omega) (by omega), hmost] at H2
      have H3 := Aside0.mk (fun W (hW : VS w W w.heap.size k (majX q K l2) a3 k) => decision_ok w.heap.size k _ _ _ (a3 + 86400) W ⟨m1, m12⟩ hW.kv HG.out)
      rw [decV_old _ _ _ _ (by omega) (by omega)] at H3
      obtain ⟨t, ok, hm, _, hok⟩ := next_spec a3 (by omega)
      obtain rfl := hok (by omega)
      have H4 := Aside0.mk (fun W (hW : VS w W w.heap.size k (majX q K l2) a3 k) => arm_ok w.heap.size k _ _ _ a3 t true W hm ⟨m1, m12⟩ hW.kv HG.out)
      rw [decV_new _ _ _ _ (by omega) (by omega), hmost, show (armR K t true).2.2 = (K != 0) from by unfold armR; obtain rfl | rfl | rfl : K = 0 ∨ K = 1 ∨ K = 2 := (by omega) <;> rfl] at H4
      have hsum := num_sum (majX q K l2) k
      have n0 := (num_bd (majX q K l2) 0 k).1
      have n1 := (num_bd (majX q K l2) 1 k).1
      have n2 := (num_bd (majX q K l2) 2 k).1
      clear hm hok hmost HG
      generalize num (majX q K l2) 0 k = N0 at *
      generalize num (majX q K l2) 1 k = N1 at *
      generalize num (majX q K l2) 2 k = N2 at *
      generalize (armR K t true).1 = R1 at *
      generalize (armR K t true).2.1 = R2 at *
      go_wp2_with fail
      refine (HQ.out _ HA.out).mono ?_
      rintro e w2 ⟨rfl, hb2⟩
      replace HA := Aside0.mk (HA.out.step hb2)
      clear hb2 HQ
      go_wp2_with fail
      refine (H1.out _ HA.out).mono ?_
      rintro e w3 ⟨rfl, hb3⟩
      replace HA := Aside0.mk (HA.out.step hb3)
      clear hb3 H1
      go_wp2_with fail
      refine (H2.out _ HA.out).mono ?_
      rintro e w4 ⟨rfl, hb4⟩
      replace HA := Aside0.mk (HA.out.step hb4)
      clear hb4 H2
      go_wp2_with fail
      refine (H3.out _ HA.out).mono ?_
      rintro e w5 ⟨rfl, hb5⟩
      replace HA := Aside0.mk (HA.out.step hb5)
      clear hb5 H3
      go_wp2_with fail
      refine (H4.out _ HA.out).mono ?_
      rintro e w6 ⟨rfl, hb6⟩
      replace HA := Aside0.mk (HA.out.step hb6)
      clear hb6 H4
      go_wp2_with fail
      refine (awake_ok _).mono ?_
      rintro e w7 ⟨rfl, hb7⟩
      replace HA := Aside0.mk ((HA.out.alloc _).step hb7)
      clear hb7
      go_wp2
      go_ret
      exact ⟨rfl, HA.out.hb⟩
end Go.Proofs.Ytljbajnmkkebkaa.All
