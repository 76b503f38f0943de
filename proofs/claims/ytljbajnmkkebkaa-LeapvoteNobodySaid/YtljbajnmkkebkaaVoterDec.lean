/- Decision and Counts of leapvote. No condition but what is said. -/
import Derived.Test.YtljbajnmkkebkaaVoterTally
namespace Go.Proofs.Ytljbajnmkkebkaa.Vo
open Go.RowKit Go.Proofs.Ytljbajnmkkebkaa.All Go.Proofs.YtljbajnmkkebkaaW.PrintWords Go.Proofs.YtljbajnmkkebkaaW.PrintLast Go.Proofs.YtljbajnmkkebkaaW.PrintMore
set_option linter.unusedSimpArgs false
set_option linter.unusedVariables false

set_option maxHeartbeats 1600000 in
set_option maxRecDepth 100000 in
theorem tally_nil (u : Int) (w : World) : Calls Try.prog 45 #[.pointer none, .int .i64 u] w fun e w' => e = .returned (.agg (four 0 0 0 0)) ∧ Below w.heap.size w w' := by
  have hu3 := Try.underlying85
  go_enter Try.func45, Try.ntmps45
  go_wp2
  refine bodyPost_ret (v := .agg (four 0 0 0 0)) (by simp [results, Try.results45, go_sem]) rfl ?_
  exact ⟨rfl, by repeat (first | exact Below.refl _ _ | apply below_alloc | refine Below.setCell ?_ (by simp) _)⟩
set_option maxHeartbeats 1600000 in
set_option maxRecDepth 100000 in
theorem tally_out (g : Nat) (u : Int) (w : World) (hu : ¬ (-8000000000 ≤ u ∧ u ≤ 8000000000)) : Calls Try.prog 45 #[.pointer (some ⟨g, 0, none⟩), .int .i64 u] w fun e w' => e = .returned (.agg (four 0 0 0 0)) ∧ Below w.heap.size w w' := by
  have hu3 := Try.underlying85
  have HS := Aside0.mk (fun W => second_ok u W)
  rw [decide_eq_false hu] at HS
  go_enter Try.func45, Try.ntmps45
  go_wp2_with fail
  refine (HS.out _).mono ?_
  rintro e w1 ⟨rfl, hb⟩
  obtain ⟨d, rfl⟩ := hb.out
  go_wp2
  refine bodyPost_ret (v := .agg (four 0 0 0 0)) (by simp [results, Try.results45, go_sem]) rfl ?_
  exact ⟨rfl, by repeat (first | exact Below.refl _ _ | apply below_alloc | apply pw_below_drewN | refine Below.setCell ?_ (by simp) _)⟩
/-- What the counts decide. -/
def dec (n a b c : Int) : Int := if 0 < a ∧ n < 2 * a then 0 else if 0 < b ∧ n < 2 * b then 1 else if 0 < c ∧ n < 2 * c then 2 else 3
set_option maxHeartbeats 3200000 in
set_option maxRecDepth 100000 in
theorem dec_ok (g : Nat) (n a b c d u : Int) (w : World) (hn : 1 ≤ n ∧ n ≤ 12) (ha : 0 ≤ a ∧ a ≤ 12) (hb : 0 ≤ b ∧ b ≤ 12) (hc : 0 ≤ c ∧ c ≤ 12) (hd : 0 ≤ d ∧ d ≤ 12) (c0 : w.cell? ⟨g, 0, none⟩ = some (.int .i64 n))
    (ht : ∀ W, Below w.heap.size w W → Calls Try.prog 45 #[.pointer (some ⟨g, 0, none⟩), .int .i64 u] W fun e w' => e = .returned (.agg #[.int .i64 a, .int .i64 b, .int .i64 c, .int .i64 d]) ∧ Below W.heap.size W w') :
    Calls Try.prog 19 #[.pointer (some ⟨g, 0, none⟩), .int .i64 u] w fun e w' => e = .returned (.int .i64 (dec n a b c)) ∧ Below w.heap.size w w' := by
  have hu1 := Try.underlying84
  have hu3 := Try.underlying85
  have i0 : ∀ W, (Instr.index 85 (.agg #[.int .i64 a, .int .i64 b, .int .i64 c, .int .i64 d]) (.int .i64 0)).run Try.prog W = .ok (.int .i64 a) W := fun _ => by kernel_rfl
  have i1 : ∀ W, (Instr.index 85 (.agg #[.int .i64 a, .int .i64 b, .int .i64 c, .int .i64 d]) (.int .i64 1)).run Try.prog W = .ok (.int .i64 b) W := fun _ => by kernel_rfl
  have i2 : ∀ W, (Instr.index 85 (.agg #[.int .i64 a, .int .i64 b, .int .i64 c, .int .i64 d]) (.int .i64 2)).run Try.prog W = .ok (.int .i64 c) W := fun _ => by kernel_rfl
  have i3 : ∀ W, (Instr.index 85 (.agg #[.int .i64 a, .int .i64 b, .int .i64 c, .int .i64 d]) (.int .i64 3)).run Try.prog W = .ok (.int .i64 d) W := fun _ => by kernel_rfl
  have HT := Aside0.mk ht
  clear ht
  go_enter Try.func19, Try.ntmps19
  go_wp2_with fail
  refine (HT.out _ (Below.refl _ _)).mono ?_
  rintro e w1 ⟨rfl, hb1⟩
  have HB := Aside0.mk hb1
  replace c0 := pw_cell_below hb1 c0
  clear hb1 HT
  go_wp2
  obtain ⟨n0, n1⟩ := hn
  obtain ⟨a0, a1⟩ := ha
  obtain ⟨b0, b1⟩ := hb
  obtain ⟨e0, e1⟩ := hc
  obtain ⟨d0, d1⟩ := hd
  go_loop [10] (fun q => (q = .int .i64 0 ∧ Aside0 (dec n a b c = dec n a b c)) ∨ (q = .int .i64 1 ∧ Aside0 (dec n a b c = (if 0 < b ∧ n < 2 * b then 1 else if 0 < c ∧ n < 2 * c then 2 else 3))) ∨ (q = .int .i64 2 ∧ Aside0 (dec n a b c = (if 0 < c ∧ n < 2 * c then 2 else 3))) ∨ (q = .int .i64 3 ∧ Aside0 (dec n a b c = 3)) ∨ (q = .int .i64 4 ∧ Aside0 (dec n a b c = 3))) (fun q => 4 - (intOf q).toNat)
  case atStart => exact .inl ⟨rfl, ⟨rfl⟩⟩
  case round =>
    rcases hrel with ⟨rfl, HD⟩ | ⟨rfl, HD⟩ | ⟨rfl, HD⟩ | ⟨rfl, HD⟩ | ⟨rfl, HD⟩
    · by_cases h1 : 0 < a
      · have h1b : decide (0 < a) = true := decide_eq_true h1
        by_cases h2 : n < 2 * a
        · have h2b : decide (n < 2 * a) = true := decide_eq_true h2
          have hD := HD.out
          have hD2 : dec n a b c = (if 0 < a ∧ n < 2 * a then 0 else if 0 < b ∧ n < 2 * b then 1 else if 0 < c ∧ n < 2 * c then 2 else 3) := rfl
          rw [if_pos ⟨h1, h2⟩] at hD2
          have HN := Aside0.mk hD2
          clear hD hD2 HD
          go_wp2
          go_ret
          exact ⟨by rw [HN.out]; rfl, HB.out⟩
        · have h2b : decide (n < 2 * a) = false := decide_eq_false h2
          have hD := HD.out
          have hD2 : dec n a b c = (if 0 < a ∧ n < 2 * a then 0 else if 0 < b ∧ n < 2 * b then 1 else if 0 < c ∧ n < 2 * c then 2 else 3) := rfl
          rw [if_neg (by omega)] at hD2
          have HN := Aside0.mk hD2
          clear hD HD hD2
          go_wp2
          go_round
          case rel => exact .inr (.inl ⟨rfl, HN⟩)
          case measure => simp [intOf]
      · have h1b : decide (0 < a) = false := decide_eq_false h1
        have hD := HD.out
        have hD2 : dec n a b c = (if 0 < a ∧ n < 2 * a then 0 else if 0 < b ∧ n < 2 * b then 1 else if 0 < c ∧ n < 2 * c then 2 else 3) := rfl
        rw [if_neg (by omega)] at hD2
        have HN := Aside0.mk hD2
        clear hD HD hD2
        go_wp2
        go_round
        case rel => exact .inr (.inl ⟨rfl, HN⟩)
        case measure => simp [intOf]
    · by_cases h1 : 0 < b
      · have h1b : decide (0 < b) = true := decide_eq_true h1
        by_cases h2 : n < 2 * b
        · have h2b : decide (n < 2 * b) = true := decide_eq_true h2
          have hD := HD.out
          rw [if_pos ⟨h1, h2⟩] at hD
          have HN := Aside0.mk hD
          clear hD HD
          go_wp2
          go_ret
          exact ⟨by rw [HN.out]; rfl, HB.out⟩
        · have h2b : decide (n < 2 * b) = false := decide_eq_false h2
          have hD := HD.out
          rw [if_neg (by omega)] at hD
          have HN := Aside0.mk hD
          clear hD HD
          go_wp2
          go_round
          case rel => exact .inr (.inr (.inl ⟨rfl, HN⟩))
          case measure => simp [intOf]
      · have h1b : decide (0 < b) = false := decide_eq_false h1
        have hD := HD.out
        rw [if_neg (by omega)] at hD
        have HN := Aside0.mk hD
        clear hD HD
        go_wp2
        go_round
        case rel => exact .inr (.inr (.inl ⟨rfl, HN⟩))
        case measure => simp [intOf]
    · by_cases h1 : 0 < c
      · have h1b : decide (0 < c) = true := decide_eq_true h1
        by_cases h2 : n < 2 * c
        · have h2b : decide (n < 2 * c) = true := decide_eq_true h2
          have hD := HD.out
          rw [if_pos ⟨h1, h2⟩] at hD
          have HN := Aside0.mk hD
          clear hD HD
          go_wp2
          go_ret
          exact ⟨by rw [HN.out]; rfl, HB.out⟩
        · have h2b : decide (n < 2 * c) = false := decide_eq_false h2
          have hD := HD.out
          rw [if_neg (by omega)] at hD
          have HN := Aside0.mk hD
          clear hD HD
          go_wp2
          go_round
          case rel => exact .inr (.inr (.inr (.inl ⟨rfl, HN⟩)))
          case measure => simp [intOf]
      · have h1b : decide (0 < c) = false := decide_eq_false h1
        have hD := HD.out
        rw [if_neg (by omega)] at hD
        have HN := Aside0.mk hD
        clear hD HD
        go_wp2
        go_round
        case rel => exact .inr (.inr (.inr (.inl ⟨rfl, HN⟩)))
        case measure => simp [intOf]
    · go_wp2
      go_round
      case rel => exact .inr (.inr (.inr (.inr ⟨rfl, HD⟩)))
      case measure => simp [intOf]
    · go_wp2
      go_ret
      exact ⟨by rw [HD.out]; rfl, HB.out⟩
end Go.Proofs.Ytljbajnmkkebkaa.Vo
