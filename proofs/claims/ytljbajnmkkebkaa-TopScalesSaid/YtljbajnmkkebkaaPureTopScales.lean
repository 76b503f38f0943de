/- The plain law of TopScales. No condition beyond the arguments' kinds. -/
import Derived.Test.YtljbajnmkkebkaaAll9
import Derived.Test.YtljbajnmkkebkaaAll6
import Derived.Test.YtljbajnmkkebkaaUtc
import Derived.Test.YtljbajnmkkebkaaSmM
import Derived.Test.YtljbajnmkkebkaaRow
namespace Go.Proofs.Ytljbajnmkkebkaa.Pure
open Go.RowKit Go.Proofs.Ytljbajnmkkebkaa.All Go.Proofs.Ytljbajnmkkebkaa.Row Go.Proofs.Ytljbajnmkkebkaa.CivB Go.Proofs.Ytljbajnmkkebkaa.Sm Go.Proofs.Ytljbajnmkkebkaa.Utc Go.Proofs.YtljbajnmkkebkaaW.PrintWords Go.Proofs.YtljbajnmkkebkaaW.PrintLast

theorem awake02 (k : Nat) (hk : 300 ≤ k) : timesynctop_awake02.f k = some true := by
  unfold timesynctop_awake02.f
  rw [read_s k hk, Option.bind_some]
  rfl
theorem TopScales : ∀ (a0_0 : Int) (a0_1 : Int) (l0_2 : List (S44)) (a1_0 : Int) (a1_1 : Int) (a2 : Int) (a3 : Int), I64 a0_0 → I64 a0_1 → l0_2.length ≤ 9223372036854775807 → (∀ z ∈ l0_2, I64 z.f0 ∧ I64 z.f1) → I64 a1_0 → I64 a1_1 → I64 a2 → I64 a3 → ∃ k, timesynctop_TopScales.f k a0_0 a0_1 l0_2 a1_0 a1_1 a2 a3 = some true := by
  intro b x l K W t d _ _ _ _ _ _ _ _
  refine ⟨1000, ?_⟩
  have jt : timesynctop_TopScales.j0 1000 t d true b x l K W = some true := by
    rw [timesynctop_TopScales.j0, if_pos rfl, awake02 999 (by omega)]
    rfl
  unfold timesynctop_TopScales.f
  by_cases h : (l.length : Int) > 100
  · rw [if_pos h, jt]
  · rw [if_neg h, check_s 1000 (by omega), Option.bind_some]
    by_cases h0 : chkS b x l K W = 0
    · rw [if_pos h0]
      by_cases h1 : t < -7000000000
      · rw [if_pos h1, jt]
      · rw [if_neg h1]
        by_cases h2 : t > 7000000000
        · rw [if_pos h2, jt]
        · rw [if_neg h2]
          by_cases h3 : d < 0
          · rw [if_pos h3, jt]
          · rw [if_neg h3]
            by_cases h4 : d > 1000000000000000
            · rw [decide_eq_true h4, jt]
            · rw [decide_eq_false h4]
              have hp := chkS_0 b x l K W h0
              have hT := hp.tab
              have hck : chk b x l = 0 := by
                by_cases g : chk b x l = 0
                · exact g
                · unfold chkS at h0
                  rw [if_neg g] at h0
                  exact h0
              have hu := UL_bd t l b hT.base hT.all
              have hbk := (back t l b (-9000000000) hT.chain (by omega) (.inr rfl)).2
              have hus : utcS t b l = ((UL t b l).1, (UL t b l).2, 0) := by
                unfold utcS
                rw [if_pos (by omega)]
              have ra := readS_in (t := t * 1000000000) h0 (by omega)
              have rb := readS_in (t := t * 1000000000 + d) h0 (by omega)
              rw [timesynctop_TopScales.j0, if_neg (by decide), utc_f 999 (by omega) b x t l hck (by omega), Option.bind_some, hus]
              dsimp only
              rw [if_pos rfl, tai_f 999 (by omega) b x _ _ l hck (by omega), Option.bind_some, hbk]
              dsimp only
              rw [if_pos rfl, timesynctop_TopScales.j1, if_neg (by simp), wz (x := t * 1000000000) (by omega), wz (x := t * 1000000000 + d) (by omega), read_s 998 (by omega), Option.bind_some, read_s 998 (by omega), Option.bind_some, ra, rb]
              dsimp only
              rw [if_pos rfl, timesynctop_TopScales.j2, if_neg (by decide)]
              by_cases hK : K = 1
              · rw [if_pos hK]
              · have hW : 2 ≤ W ∧ W ≤ 172800 := by rcases hp.kind with g | g <;> omega
                obtain ⟨n, rfl⟩ := Int.eq_ofNat_of_zero_le (show 0 ≤ d by omega)
                have hr := rise K W hW b l hT.chain (t * 1000000000) n
                have hd : decide (RP (t * 1000000000) b W (pts K W b l) ≤ RP (t * 1000000000 + n) b W (pts K W b l)) = true := decide_eq_true (by omega)
                rw [if_neg hK, wz (x := t * 1000000000) (by omega), active_s 997 (by omega), Option.bind_some, hd]
                by_cases g1 : (winS b x l K W (t * 1000000000)).2.2.2.2 = true
                · rw [if_pos g1]
                · rw [if_neg g1]
                  by_cases g2 : (UL t b l).2 = true
                  · rw [if_pos g2]
                  · have g3 : (UL t b l).2 = false := by simpa using g2
                    have ew : winS b x l K W (t * 1000000000) = WP (t * 1000000000) (pts K W b l) := by unfold winS; rw [if_pos h0, if_pos (by omega)]
                    rw [ew] at g1
                    have hj := (joins K W hW (t * 1000000000) l b _ hT.chain).1 (by simpa using g1)
                    have hlb := label t l b _ hT.chain g3
                    rw [if_neg g2, wz (x := (UL t b l).1 * 1000000000) (by omega), if_pos (by rw [hj, hlb])]
    · rw [if_neg h0, jt]

end Go.Proofs.Ytljbajnmkkebkaa.Pure
