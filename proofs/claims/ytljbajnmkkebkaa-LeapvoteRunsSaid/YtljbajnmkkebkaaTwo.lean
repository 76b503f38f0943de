/- The two voters beside each other: they answer alike. No condition but what is said. -/
import Derived.Test.YtljbajnmkkebkaaRvoterAll
import Derived.Test.YtljbajnmkkebkaaAwake
import Derived.Test.YtljbajnmkkebkaaCalS
import Derived.Test.YtljbajnmkkebkaaFNobody
namespace Go.Proofs.Ytljbajnmkkebkaa.Vo
open Go.RowKit Go.Proofs.Ytljbajnmkkebkaa.All Go.Proofs.YtljbajnmkkebkaaW.PrintWords Go.Proofs.YtljbajnmkkebkaaW.PrintLast Go.Proofs.YtljbajnmkkebkaaW.PrintMore
set_option linter.unusedSimpArgs false
set_option linter.unusedVariables false

/-- What holds between the votes of the one and of the other. -/
structure Like (fi fa : Nat → Int) (last : Int) (fs ga : Nat → Int) (fh : Nat → Bool) (rl : Int) (cl : Bool) : Prop where
  gd : Good fi fa
  gr : ∀ j, j < 12 → -8000000000 ≤ ga j ∧ ga j ≤ 8000000000
  has : ∀ j, j < 12 → fh j = true → fi j = fs j ∧ fa j = ga j
  no : ∀ j, j < 12 → fh j = false → fi j = 3
  l1 : cl = true → last = rl
  l0 : cl = false → last = -8000000000
theorem Like.cnt {fi fa : Nat → Int} {last : Int} {fs ga : Nat → Int} {fh : Nat → Bool} {rl : Int} {cl : Bool} (h : Like fi fa last fs ga fh rl cl) (u c : Int) (hc : c ≠ 3) : ∀ k, k ≤ 12 → cnt fi fa u c k = rcnt fs ga fh u c k
  | 0, _ => rfl
  | k + 1, hk => by
    rw [Vo.cnt, rcnt, h.cnt u c hc k (by omega)]
    congr 1
    cases hh : fh k with
    | true =>
      obtain ⟨e1, e2⟩ := h.has k (by omega) hh
      rw [e1, e2]
      by_cases g : u - ga k < 86400 ∧ fs k = c
      · rw [if_pos g, if_pos ⟨rfl, g.2, by omega⟩]
      · rw [if_neg g, if_neg (fun q => g ⟨by omega, q.2.1⟩)]
    | false =>
      have e := h.no k (by omega) hh
      rw [if_neg (fun q => hc (by rw [← q.2, e])), if_neg (fun q => by cases q.1)]
theorem Like.tc {fi fa : Nat → Int} {last : Int} {fs ga : Nat → Int} {fh : Nat → Bool} {rl : Int} {cl : Bool} (h : Like fi fa last fs ga fh rl cl) (u c : Int) (hc : c ≠ 3) (m : Nat) (hm : m ≤ 12) : rtc fs ga fh u c m = tc fi fa u c m := by
  unfold rtc Vo.tc
  rw [h.cnt u c hc m hm]
theorem Like.vote {fi fa : Nat → Int} {last : Int} {fs ga : Nat → Int} {fh : Nat → Bool} {rl : Int} {cl : Bool} (h : Like fi fa last fs ga fh rl cl) (n s i u : Int) : rvoteE n rl cl s i u = voteE n last s i u := by
  unfold rvoteE voteE
  by_cases g : s < 0 ∨ n ≤ s ∨ i < 0 ∨ 3 < i ∨ ¬ (-8000000000 ≤ u ∧ u ≤ 8000000000)
  · rw [if_pos g, if_pos g]
  · rw [if_neg g, if_neg g]
    cases cl
    · have e := h.l0 rfl
      rw [if_neg (fun q => by cases q.1), if_neg (by omega)]
    · have e := h.l1 rfl
      rw [e]
      by_cases q : u < rl
      · rw [if_pos ⟨rfl, q⟩, if_pos q]
      · rw [if_neg (fun z => q z.2), if_neg q]
theorem Like.put {fi fa : Nat → Int} {last : Int} {fs ga : Nat → Int} {fh : Nat → Bool} {rl : Int} {cl : Bool} (h : Like fi fa last fs ga fh rl cl) (k : Nat) (i u : Int) (hi : 0 ≤ i ∧ i ≤ 3) (hu : -8000000000 ≤ u ∧ u ≤ 8000000000) : Like (upd fi k i) (upd fa k u) u (upd fs k i) (upd ga k u) (updb fh k true) u true := by
  refine ⟨fun j hj => ?_, fun j hj => ?_, fun j hj hh => ?_, fun j hj hh => ?_, fun _ => rfl, fun q => by cases q⟩
  · unfold upd
    have := h.gd j hj
    by_cases e : j = k
    · rw [if_pos e, if_pos e]
      exact ⟨hi, hu⟩
    · rw [if_neg e, if_neg e]
      exact this
  · unfold upd
    by_cases e : j = k
    · rw [if_pos e]
      exact hu
    · rw [if_neg e]
      exact h.gr j hj
  · unfold upd
    by_cases e : j = k
    · rw [if_pos e, if_pos e, if_pos e, if_pos e]
      exact ⟨rfl, rfl⟩
    · rw [if_neg e, if_neg e, if_neg e, if_neg e]
      unfold updb at hh
      rw [if_neg e] at hh
      exact h.has j hj hh
  · unfold upd
    unfold updb at hh
    by_cases e : j = k
    · rw [if_pos e] at hh
      cases hh
    · rw [if_neg e] at hh ⊢
      exact h.no j hj hh
theorem Like.start : Like (fresh 12) (fun _ => 0) (-8000000000) (fun _ => 0) (fun _ => 0) (fun _ => false) 0 false := by
  refine ⟨fun j hj => ?_, fun j hj => (by omega), fun j hj hh => (by cases hh), fun j hj _ => ?_, fun q => (by cases q), fun _ => rfl⟩
  · unfold fresh
    rw [if_pos hj]
    omega
  · unfold fresh
    rw [if_pos hj]
theorem RB.vote {w w' : World} {g : Nat} {n : Int} {fs fa : Nat → Int} {fh : Nat → Bool} {last : Int} {cl : Bool} {s i u : Int} (hn : n ≤ 12) (h : RB w g n fs fa fh last cl) (e : rvoteE n last cl s i u = 0) (hw : RVoteW w w' g 0 s i u) : RB w' g n (upd fs s.toNat i) (upd fa s.toNat u) (updb fh s.toNat true) u true := by
  obtain ⟨d, rfl⟩ := hw
  rw [if_pos rfl]
  have hs : s.toNat < 12 := by
    unfold rvoteE at e
    split at e
    · omega
    · omega
  have h1 : RB (w.drewN d) g n fs fa fh last cl := h
  have h2 := blk_put h1 (1 + s.toNat) (.int .i64 i) (RC_set_said n fs fa fh last cl s.toNat hs i)
  have h3 := blk_put h2 (13 + s.toNat) (.int .i64 u) (RC_set_at n _ fa fh last cl s.toNat hs u)
  have h4 := blk_put h3 (25 + s.toNat) (.bool true) (RC_set_has n _ _ fh last cl s.toNat hs true)
  have h5 := blk_put h4 37 (.int .i64 u) (RC_set_last n _ _ _ last cl u)
  exact blk_put h5 38 (.bool true) (RC_set_cl n _ _ _ u cl true)
theorem RVoteW.below {w0 w w' : World} {b g : Nat} {e s i u : Int} (hb : Below b w0 w) (hg : b ≤ g) (h : RVoteW w w' g e s i u) : Below b w0 w' := by
  obtain ⟨d, rfl⟩ := h
  by_cases e0 : e = 0
  · rw [if_pos e0]
    exact (((((pw_below_drewN hb d).setCell hg _).setCell hg _).setCell hg _).setCell hg _).setCell hg _
  · rw [if_neg e0]
    exact pw_below_drewN hb d
theorem RVoteW.far {w w' : World} {g h : Nat} {e s i u : Int} {t : TypeId} {cs : Array Value} (hh : w.heap[h]? = some (.cells cs t (0, 0))) (hn : h ≠ g) (hw : RVoteW w w' g e s i u) : w'.heap[h]? = some (.cells cs t (0, 0)) := by
  obtain ⟨d, rfl⟩ := hw
  by_cases e0 : e = 0
  · rw [if_pos e0]
    have h1 : (w.drewN d).heap[h]? = some (.cells cs t (0, 0)) := hh
    exact blk_far (p := ⟨g, 38, none⟩) (blk_far (p := ⟨g, 37, none⟩) (blk_far (p := ⟨g, 25 + s.toNat, none⟩) (blk_far (p := ⟨g, 13 + s.toNat, none⟩) (blk_far (p := ⟨g, 1 + s.toNat, none⟩) h1 hn _) hn _) hn _) hn _) hn _
  · rw [if_neg e0]
    exact hh
/-- The two voters in memory, at the pointers p and q. -/
inductive TW (w0 w : World) : Option Addr → Option Addr → Prop
  | none (hb : Below w0.heap.size w0 w) : TW w0 w none none
  | two (g1 g2 m : Nat) (fi fa : Nat → Int) (last : Int) (fs ga : Nat → Int) (fh : Nat → Bool) (rl : Int) (cl : Bool) (hb : Below w0.heap.size w0 w) (hm : 1 ≤ m ∧ m ≤ 12) (hv : VB w g1 (m : Int) fi fa last) (hr : RB w g2 (m : Int) fs ga fh rl cl) (hn : g1 ≠ g2) (b1 : w0.heap.size ≤ g1) (b2 : w0.heap.size ≤ g2) (hl : Like fi fa last fs ga fh rl cl) : TW w0 w (some ⟨g1, 0, .none⟩) (some ⟨g2, 0, .none⟩)
theorem TW.below {w0 w : World} {p q : Option Addr} (h : TW w0 w p q) : Below w0.heap.size w0 w := by
  cases h with
  | none hb => exact hb
  | two _ _ _ _ _ _ _ _ _ _ _ hb => exact hb
theorem TW.step {w0 w w' : World} {p q : Option Addr} (h : TW w0 w p q) (hb : Below w.heap.size w w') : TW w0 w' p q := by
  cases h with
  | none h0 => exact .none (below_step h0 hb)
  | two g1 g2 m fi fa last fs ga fh rl cl h0 hm hv hr hn b1 b2 hl => exact .two g1 g2 m fi fa last fs ga fh rl cl (below_step h0 hb) hm (blk_below hv hb) (blk_below hr hb) hn b1 b2 hl
theorem TW.alloc {w0 w : World} {p q : Option Addr} (h : TW w0 w p q) (o : Obj) : TW w0 (w.alloc o) p q := h.step (below_alloc (Below.refl _ _) o)
theorem TW.drewN {w0 w : World} {p q : Option Addr} (h : TW w0 w p q) (n : Nat) : TW w0 (w.drewN n) p q := h.step (pw_below_drewN (Below.refl _ _) n)
theorem TW.drew {w0 w : World} {p q : Option Addr} (h : TW w0 w p q) : TW w0 w.drew p q := h.step (below_drew (Below.refl _ _))
theorem TW.lt {w0 w : World} {p q : Option Addr} (h : TW w0 w p q) : (∀ a, p = some a → a.block < w.heap.size) ∧ (∀ a, q = some a → a.block < w.heap.size) := by
  cases h with
  | none h0 => exact ⟨fun a e => (by cases e), fun a e => (by cases e)⟩
  | two g1 g2 m fi fa last fs ga fh rl cl h0 hm hv hr hn b1 b2 hl =>
    refine ⟨fun a e => ?_, fun a e => ?_⟩
    · cases e
      exact blk_lt hv
    · cases e
      exact blk_lt hr
/-- All blocks but the pointer's are as before. -/
def Kept (p : Option Addr) (w w' : World) : Prop := ∀ (h : Nat) (t : TypeId) (cs : Array Value), (∀ a, p = some a → h ≠ a.block) → w.heap[h]? = some (.cells cs t (0, 0)) → w'.heap[h]? = some (.cells cs t (0, 0))
/-- Both votes answer alike. -/
theorem TW.vote {w0 w : World} {p q : Option Addr} (h : TW w0 w p q) (s i u : Int) : ∃ e : Int,
    Calls Try.prog 18 #[.pointer p, .int .i64 s, .int .i64 i, .int .i64 u] w fun r W1 => r = .returned (.int .i64 e) ∧ Kept p w W1 ∧
      Calls Try.prog 28 #[.pointer q, .int .i64 s, .int .i64 i, .int .i64 u] W1 fun r W3 => r = .returned (.int .i64 e) ∧ Kept q W1 W3 ∧ TW w0 W3 p q := by
  cases h with
  | none h0 =>
    refine ⟨1, (vote_nil s i u w).mono ?_⟩
    rintro r W1 ⟨rfl, h1⟩
    obtain rfl : w = W1 := h1.symm
    refine ⟨rfl, fun _ _ _ _ k => k, (rvote_nil s i u w).mono ?_⟩
    rintro r W3 ⟨rfl, h3⟩
    obtain rfl : w = W3 := h3.symm
    exact ⟨rfl, fun _ _ _ _ k => k, .none h0⟩
  | two g1 g2 m fi fa last fs ga fh rl cl h0 hm hv hr hn b1 b2 hl =>
    refine ⟨voteE (m : Int) last s i u, (vote_ok g1 (m : Int) fi fa last s i u w (by omega) hv).mono ?_⟩
    rintro r W1 ⟨rfl, hw⟩
    have hv1 := VB.vote (by omega) hv hw
    have hr1 : RB W1 g2 (m : Int) fs ga fh rl cl := VoteW.far hr (Ne.symm hn) hw
    have hb1 := VoteW.below h0 b1 hw
    refine ⟨rfl, fun h t cs hne k => VoteW.far k (hne _ rfl) hw, (rvote_ok g2 (m : Int) fs ga fh rl cl s i u W1 (by omega) hr1).mono ?_⟩
    rintro r W3 ⟨rfl, hx⟩
    rw [hl.vote] at hx ⊢
    refine ⟨rfl, fun h t cs hne k => RVoteW.far k (hne _ rfl) hx, ?_⟩
    by_cases e : voteE (m : Int) last s i u = 0
    · rw [if_pos e, if_pos e, if_pos e] at hv1
      rw [e] at hx
      have hq : (0 ≤ i ∧ i ≤ 3) ∧ (-8000000000 ≤ u ∧ u ≤ 8000000000) := by
        unfold voteE at e
        split at e
        · omega
        · omega
      exact .two g1 g2 m _ _ _ _ _ _ _ _ (RVoteW.below hb1 b2 hx) hm (RVoteW.far hv1 hn hx) (RB.vote (by omega) hr1 ((hl.vote _ _ _ _).trans e) hx) hn b1 b2 (hl.put s.toNat i u hq.1 hq.2)
    · rw [if_neg e, if_neg e, if_neg e] at hv1
      have hx2 := RVoteW.below hb1 b2 hx
      obtain ⟨d, rfl⟩ := hx
      rw [if_neg e] at hx2 ⊢
      exact .two g1 g2 m fi fa last fs ga fh rl cl hx2 hm hv1 hr1 hn b1 b2 hl
/-- All questions are answered alike. -/
theorem TW.ask {w0 w : World} {p q : Option Addr} (h : TW w0 w p q) (u : Int) : ∃ (a b c D x y : Int) (ok : Bool),
    (∀ W, Below w.heap.size w W → Calls Try.prog 29 #[.pointer p, .int .i64 u] W fun e w' => e = .returned (.tuple #[.int .i64 a, .int .i64 b, .int .i64 c]) ∧ Below W.heap.size W w') ∧
    (∀ W, Below w.heap.size w W → Calls Try.prog 30 #[.pointer q, .int .i64 u] W fun e w' => e = .returned (.tuple #[.int .i64 a, .int .i64 b, .int .i64 c]) ∧ Below W.heap.size W w') ∧
    (∀ W, Below w.heap.size w W → Calls Try.prog 20 #[.pointer p, .int .i64 u] W fun e w' => e = .returned (.tuple #[.agg #[.int .i64 x, .int .i64 y], .bool ok]) ∧ Below W.heap.size W w') ∧
    (∀ W, Below w.heap.size w W → Calls Try.prog 31 #[.pointer q, .int .i64 u] W fun e w' => e = .returned (.tuple #[.agg #[.int .i64 x, .int .i64 y], .bool ok]) ∧ Below W.heap.size W w') ∧
    (∀ W, Below w.heap.size w W → Calls Try.prog 19 #[.pointer p, .int .i64 u] W fun e w' => e = .returned (.int .i64 D) ∧ Below W.heap.size W w') ∧
    (∀ W, Below w.heap.size w W → Calls Try.prog 32 #[.pointer q, .int .i64 u] W fun e w' => e = .returned (.int .i64 D) ∧ Below W.heap.size W w') := by
  obtain ⟨t, ok, hm⟩ := leap_month.total u 1
  have hx : timesyncref54_next.f 2000 u = some (t, ok) := (CivB.next_r u).trans hm
  cases h with
  | none h0 =>
    exact ⟨0, 0, 0, 3, 0, 0, false, fun W _ => counts_nil u W, fun W _ => rcounts_nil u W, fun W _ => arm_nil u t ok W hm, fun W _ => rarm_nil u t ok W hx, fun W _ => decision_nil u W, fun W _ => rdecision_nil u W⟩
  | two g1 g2 m fi fa last fs ga fh rl cl h0 hM hv hr hn b1 b2 hl =>
    refine ⟨tc fi fa u 0 m, tc fi fa u 1 m, tc fi fa u 2 m, decV fi fa u m, (armR (decV fi fa u m) t ok).1, (armR (decV fi fa u m) t ok).2.1, (armR (decV fi fa u m) t ok).2.2, fun W hW => counts_ok g1 m fi fa last u W hM (blk_below hv hW) hl.gd, fun W hW => ?_, fun W hW => arm_ok g1 m fi fa last u t ok W hm hM (blk_below hv hW) hl.gd, fun W hW => ?_, fun W hW => decision_ok g1 m fi fa last u W hM (blk_below hv hW) hl.gd, fun W hW => ?_⟩
    · have k := rcounts_ok g2 m fs ga fh rl cl u W hM (blk_below hr hW) hl.gr
      rw [hl.tc u 0 (by omega) m hM.2, hl.tc u 1 (by omega) m hM.2, hl.tc u 2 (by omega) m hM.2] at k
      exact k
    · have k := rarm_ok g2 m fs ga fh rl cl u t ok W hx hM (blk_below hr hW) hl.gr
      rw [hl.tc u 0 (by omega) m hM.2, hl.tc u 1 (by omega) m hM.2, hl.tc u 2 (by omega) m hM.2] at k
      exact k
    · have k := rdecision_ok g2 m fs ga fh rl cl u W hM (blk_below hr hW) hl.gr
      rw [hl.tc u 0 (by omega) m hM.2, hl.tc u 1 (by omega) m hM.2, hl.tc u 2 (by omega) m hM.2] at k
      exact k
end Go.Proofs.Ytljbajnmkkebkaa.Vo
