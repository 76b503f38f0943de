/- LeapvoteRuns: what the function does. -/
import Derived.Test.YtljbajnmkkebkaaTwo
import Derived.Test.YtljbajnmkkebkaaRow
namespace Go.Proofs.Ytljbajnmkkebkaa.Row
open Go.ChangeShapes Go.WideShapes Go.RowKit Go.Deep Go.Proofs.YtljbajnmkkebkaaW.PrintWords Go.Proofs.YtljbajnmkkebkaaW.PrintLast
section
variable {H : Type} {enc : TypeId × Value → H} {P : Program} {w : World} {base : Nat} {spare : Nat → Bool} {held : Bool}
/-- A slice of structs of three numbers. -/
theorem rows3 {α : Type} (K : Kd α) (mk : Int → Int → Int → α) (hz : K.sz = 3) (hmk : ∀ w x y z, K.K w (mk x y z) [.int .i64 x, .int .i64 y, .int .i64 z])
    {t e tI : TypeId} {f0 f1 f2 : Field} {fuel : Nat} {v : Value} {x : DataW H × List MemPlace} (ht : P.underlying t = some (.slice e)) (he : P.underlying e = some (.struct #[f0, f1, f2]))
    (hone : oneCellFields P #[f0, f1, f2] = true) (hC : P.cellsOf e = 3) (h0 : f0.type = tI) (h1 : f1.type = tI) (h2 : f2.type = tI) (hI : P.underlying tI = some (.int .i64)) (h : DataW.trod enc P w base spare held fuel t [v] = some x) :
    ∃ (A : Option Addr) (n c : Nat) (l : List α), v = .slice A n c ∧ l.length = n ∧ K.C w A n l ∧ n ≤ c ∧ n ≤ 9223372036854775807 ∧ ∀ q ∈ l, ∃ x y z, q = mk x y z ∧ I64 x ∧ I64 y ∧ I64 z := by
  rcases open_slice ht h with ⟨hcs, _⟩ | ⟨a, len, cap, m, n, D, Pl, hcs, hb, hl, hm, hmm, hx, hi⟩
  · obtain rfl : v = .slice none 0 0 := by simpa using hcs
    exact ⟨none, 0, 0, [], rfl, rfl, Kd.C_nil K w, by omega, by omega, by simp⟩
  · obtain rfl : v = .slice (some a) len cap := by simpa using hcs
    have hm' : len ≤ m := by rw [hmm]; split <;> omega
    have hmax : cap ≤ 9223372036854775807 := by simpa [maxLen] using hm
    have key : ∀ i, i < len → ∃ x y z, I64 x ∧ I64 y ∧ I64 z ∧ w.cell? (a.add (i * 3)) = some (.int .i64 x) ∧ w.cell? (a.add (i * 3 + 1)) = some (.int .i64 y) ∧ w.cell? (a.add (i * 3 + 2)) = some (.int .i64 z) := by
      intro i hil
      obtain ⟨cs', hc, ht'⟩ := hi i (by omega)
      rw [hC] at hc
      obtain ⟨ys, n', _, hy, hlen, hyl, hf⟩ := DataW.trod_struct he ht'
      obtain ⟨_, hcl, hat⟩ := World.cells?_some hc
      have hlen' : cs'.length = 3 := hlen.trans hC
      obtain ⟨o0, k0⟩ := hone_of hone 0 f0 rfl
      obtain ⟨o1, k1⟩ := hone_of hone 1 f1 rfl
      obtain ⟨o2, k2⟩ := hone_of hone 2 f2 rfl
      have g0 := hf 0 f0 rfl
      have g1 := hf 1 f1 rfl
      have g2 := hf 2 f2 rfl
      rw [o0, k0] at g0
      rw [o1, k1] at g1
      rw [o2, k2] at g2
      match cs', hlen' with
      | [u0, u1, u2], _ =>
        rw [List.getElem?_eq_getElem (by simp at hyl; omega), h0] at g0
        rw [List.getElem?_eq_getElem (by simp at hyl; omega), h1] at g1
        rw [List.getElem?_eq_getElem (by simp at hyl; omega), h2] at g2
        obtain ⟨x, rfl, wx⟩ := int_field hI (by simpa using g0)
        obtain ⟨y, rfl, wy⟩ := int_field hI (by simpa using g1)
        obtain ⟨z, rfl, wz⟩ := int_field hI (by simpa using g2)
        have c0 := hat 0 (by omega)
        have c1 := hat 1 (by omega)
        have c2 := hat 2 (by omega)
        rw [Go.Deep.add_add] at c0 c1 c2
        exact ⟨x, y, z, i64_of_wf wx, i64_of_wf wy, i64_of_wf wz, by simpa using c0, by simpa using c1, by simpa using c2⟩
    clear hi hx ht h
    have keyl : ∀ i, ∃ q : α, i < len → ∃ x y z, q = mk x y z ∧ I64 x ∧ I64 y ∧ I64 z ∧ w.cell? (a.add (i * 3)) = some (.int .i64 x) ∧ w.cell? (a.add (i * 3 + 1)) = some (.int .i64 y) ∧ w.cell? (a.add (i * 3 + 2)) = some (.int .i64 z) := by
      intro i
      by_cases hil : i < len
      · obtain ⟨x, y, z, h1, h2, h3, h4, h5, h6⟩ := key i hil
        exact ⟨mk x y z, fun _ => ⟨x, y, z, rfl, h1, h2, h3, h4, h5, h6⟩⟩
      · exact ⟨mk 0 0 0, fun h => absurd h hil⟩
    obtain ⟨Z, hZ⟩ := Classical.axiomOfChoice keyl
    refine ⟨some a, len, cap, (List.range len).map Z, rfl, by simp, ⟨by simp, by omega, fun _ => ⟨a, rfl, ?_⟩⟩, hl, by omega, ?_⟩
    · intro j p hj
      rw [hz]
      have hjl : j < len := by
        have := (List.getElem?_eq_some_iff.1 hj).1
        simpa using this
      obtain ⟨x, y, z, e, _, _, _, c0, c1, c2⟩ := hZ j hjl
      have hp : p = Z j := by
        simp [List.getElem?_map, List.getElem?_range hjl] at hj
        exact hj.symm
      rw [hp, e]
      refine ⟨_, rfl, hmk w x y z, ?_⟩
      intro i u hu
      match i, hu with
      | 0, hu => obtain rfl : Value.int .i64 x = u := by simpa using hu
                 exact c0
      | 1, hu => obtain rfl : Value.int .i64 y = u := by simpa using hu
                 exact c1
      | 2, hu => obtain rfl : Value.int .i64 z = u := by simpa using hu
                 exact c2
      | i + 3, hu => simp at hu
    · intro z hz'
      obtain ⟨i, hi, rfl⟩ := List.mem_map.1 hz'
      obtain ⟨x, y, z, e, wx, wy, wz, _⟩ := hZ i (List.mem_range.1 hi)
      exact ⟨x, y, z, e, wx, wy, wz⟩
end
end Go.Proofs.Ytljbajnmkkebkaa.Row
namespace Go.Proofs.Ytljbajnmkkebkaa.All
open Go.RowKit Go.Proofs.YtljbajnmkkebkaaW.PrintWords Go.Proofs.YtljbajnmkkebkaaW.PrintLast Go.Proofs.YtljbajnmkkebkaaW.PrintMore
structure S60 where
  f0 : Int
  f1 : Int
  f2 : Int
def z60 : S60 := ⟨(0 : Int), (0 : Int), (0 : Int)⟩
def k60 : Kd S60 := Kd.iso (Kd.pair (Kd.int .i64) (Kd.pair (Kd.int .i64) (Kd.int .i64))) (fun x : S60 => (x.f0, x.f1, x.f2))
theorem k60_open {w : World} {x : S60} {cs : List Value} (h : k60.K w x cs) : cs = [.int .i64 x.f0, .int .i64 x.f1, .int .i64 x.f2] := by
  obtain ⟨_, _, rfl, rfl, _, _, rfl, rfl, rfl⟩ := h
  exact rfl
theorem k60_mk (w : World) (x : S60) : k60.K w x [.int .i64 x.f0, .int .i64 x.f1, .int .i64 x.f2] := ⟨[.int .i64 x.f0], [.int .i64 x.f1, .int .i64 x.f2], rfl, rfl, [.int .i64 x.f1], [.int .i64 x.f2], rfl, rfl, rfl⟩
def rd_T60 (xs : List S60) (i : Int) : S60 := xs.getD i.toNat z60
theorem at_T60 {w : World} {A : Option Addr} {n : Nat} {xs : List S60} (h : Kd.C k60 w A n xs) (i : Int) (h0 : 0 ≤ i) (h1 : i < n) : ∃ ad , A = some ad ∧ w.cell? (ad.add (i.toNat * 3)) = some (.int .i64 (rd_T60 xs i).f0) ∧ w.cell? ⟨(ad.add (i.toNat * 3)).block, (ad.add (i.toNat * 3)).off + 1, none⟩ = some (.int .i64 (rd_T60 xs i).f1) ∧ w.cell? ⟨(ad.add (i.toNat * 3)).block, (ad.add (i.toNat * 3)).off + 2, none⟩ = some (.int .i64 (rd_T60 xs i).f2) := by
  obtain ⟨ad, c, e, _, hK, hc0⟩ := Kd.C_get h z60 i h0 h1
  have hc : ∀ j u, c[j]? = some u → w.cell? (ad.add (i.toNat * 3 + j)) = some u := hc0
  obtain rfl := k60_open hK
  exact ⟨ad, e, hc 0 _ rfl, by rw [← add_field _ _ 1 (by omega)]; exact hc 1 _ rfl, by rw [← add_field _ _ 2 (by omega)]; exact hc 2 _ rfl⟩
end Go.Proofs.Ytljbajnmkkebkaa.All
namespace Go.Proofs.Ytljbajnmkkebkaa.All
open Go.RowKit Go.Proofs.Ytljbajnmkkebkaa.Vo Go.Proofs.YtljbajnmkkebkaaW.PrintWords Go.Proofs.YtljbajnmkkebkaaW.PrintLast Go.Proofs.YtljbajnmkkebkaaW.PrintMore
set_option linter.unusedSimpArgs false
set_option linter.unusedVariables false

/-- The voters and the blocks of a vote and of the two seconds. -/
structure timesynclaw54_LeapvoteRuns.At (w0 w : World) (p q : Option Addr) (g h : Nat) (s i u v : Int) : Prop where
  tw : TW w0 w p q
  k0 : w.heap[g]? = some (.cells #[.int .i64 s, .int .i64 i, .int .i64 u] 60 (0, 0))
  k1 : w.heap[h]? = some (.cells #[.int .i64 u, .int .i64 v] 3 (0, 0))
theorem timesynclaw54_LeapvoteRuns.At.step {w0 w w' : World} {p q : Option Addr} {g h : Nat} {s i u v : Int} (a : timesynclaw54_LeapvoteRuns.At w0 w p q g h s i u v) (hb : Below w.heap.size w w') : timesynclaw54_LeapvoteRuns.At w0 w' p q g h s i u v := ⟨a.tw.step hb, blk_below a.k0 hb, blk_below a.k1 hb⟩
theorem timesynclaw54_LeapvoteRuns.At.alloc {w0 w : World} {p q : Option Addr} {g h : Nat} {s i u v : Int} (a : timesynclaw54_LeapvoteRuns.At w0 w p q g h s i u v) (o : Obj) : timesynclaw54_LeapvoteRuns.At w0 (w.alloc o) p q g h s i u v := a.step (below_alloc (Below.refl _ _) o)
def timesynclaw54_LeapvoteRuns.f (_ : Int) (_ : List S60) (_ : Int) : Option Bool := some true
set_option maxHeartbeats 6400000 in
set_option maxRecDepth 100000 in
theorem timesynclaw54_LeapvoteRuns.calls (a0 : Int) (A1 : Option Addr) (c1 : Nat) (l1 : List S60) (a2 : Int) (r : Bool) (w : World) (hr1 : Kd.C k60 w A1 l1.length l1) (hc1 : l1.length ≤ c1) (h : timesynclaw54_LeapvoteRuns.f a0 l1 a2 = some r) :
    Calls Try.prog 5 #[.int .i64 a0, .slice A1 l1.length c1, .int .i64 a2] w fun e w' => e = .returned (.bool r) ∧ Below w.heap.size w w' := by
  obtain rfl := Option.some.inj h
  clear h
  have hu2 := Try.underlying44
  have hu3 := Try.underlying60
  have HR := Aside0.mk hr1
  have HC := Aside0.mk hc1
  have HB0 := Aside0.mk (Below.refl w.heap.size w)
  clear hr1 hc1
  by_cases h100 : 100 < (l1.length : Int)
  · go_enter Try.func5, Try.ntmps5
    go_wp2_with fail
    refine (awake_ok _).mono ?_
    rintro e w1 ⟨rfl, hb1⟩
    have HB := Aside0.mk hb1
    clear hb1
    go_wp2
    go_ret
    exact ⟨rfl, HB.out⟩
  have p0 : (l1.length : Int) ≤ 100 := by omega
  by_cases hn : 1 ≤ a0 ∧ a0 ≤ 12
  · obtain ⟨m, rfl⟩ := Int.eq_ofNat_of_zero_le (show 0 ≤ a0 by omega)
    have HN := Aside0.mk (fun W => new_ok (m : Int) W hn.1 hn.2)
    have HM := Aside0.mk (fun W => rnew_ok (m : Int) W hn.1 hn.2)
    have hm : 1 ≤ m ∧ m ≤ 12 := by omega
    clear hn
    go_enter Try.func5, Try.ntmps5
    go_wp2_with fail
    refine (HN.out _).mono ?_
    rintro e w1 ⟨rfl, hv1, hb1⟩
    go_wp2_with fail
    refine (HM.out _).mono ?_
    rintro e w2 ⟨rfl, hv2, hb2⟩
    have HT : Aside0 (TW w w2 (some ⟨w.heap.size, 0, none⟩) (some ⟨w1.heap.size, 0, none⟩)) := ⟨.two w.heap.size w1.heap.size m _ _ _ _ _ _ _ _ (below_step hb1 hb2) hm (blk_below hv1 hb2) hv2 (by have := blk_lt hv1; omega) (Nat.le_refl _) (Nat.le_of_lt (blk_lt hv1)) Like.start⟩
    clear hv1 hv2 hb1 hb2 HN HM
    go_wp2
    go_loopw [38] (fun v W => ∃ k : Nat, k ≤ l1.length ∧ v = .int .i64 (k : Int) ∧ Aside0 (TW w W (some ⟨w.heap.size, 0, none⟩) (some ⟨w1.heap.size, 0, none⟩))) (fun v _ => l1.length - (intOf v).toNat)
    case atStart => exact ⟨0, by omega, rfl, HT⟩
    case round =>
      clear HT
      obtain ⟨k, hk, rfl, HT⟩ := hrel
      obtain ⟨wo, hwo⟩ : ∃ W, W = wr := ⟨_, rfl⟩
      subst hwo
      by_cases hk2 : k < l1.length
      · have hk3 : (k : Int) < (l1.length : Int) := by omega
        have k0 : (0 : Int) ≤ (k : Int) := by omega
        obtain ⟨ad, ead, hx0, hx1, hx2⟩ := at_T60 HR.out (k : Int) k0 hk3
        subst ead
        generalize (rd_T60 l1 (k : Int)).f0 = s at *
        generalize (rd_T60 l1 (k : Int)).f1 = i at *
        generalize (rd_T60 l1 (k : Int)).f2 = u at *
        replace hx0 := (HT.out.below.cell (World.block_lt_of_cell? w _ hx0)).trans hx0
        replace hx1 := (HT.out.below.cell (World.block_lt_of_cell? w _ hx1)).trans hx1
        replace hx2 := (HT.out.below.cell (World.block_lt_of_cell? w _ hx2)).trans hx2
        rw [Int.toNat_natCast] at hx0 hx1 hx2
        have k0t : ((0 : Int) ≤ (k : Int)) = True := eq_true k0
        have k3t : ((k : Int) < (l1.length : Int)) = True := eq_true hk3
        have ho : (wo.alloc (.cells #[.int .i64 s, .int .i64 i, .int .i64 u] 60 (0, 0))).heap[wo.heap.size]? = some (.cells #[.int .i64 s, .int .i64 i, .int .i64 u] 60 (0, 0)) := blk_new wo _
        have HL := Aside0.mk HT.out.lt
        replace HT := Aside0.mk ((HT.out.alloc (.cells #[.int .i64 s, .int .i64 i, .int .i64 u] 60 (0, 0))).drew)
        obtain ⟨e0, hvote⟩ := HT.out.vote s i u
        have HV := Aside0.mk hvote
        have HO := Aside0.mk ho
        have o0 := blk_cell HO.out 0
        have o1 := blk_cell HO.out 1
        have o2 := blk_cell HO.out 2
        clear hvote ho
        go_wp2_with fail
        go_region_held3 (fun W => W.cell? ⟨wo.heap.size, 0, none⟩ = some (.int .i64 s) ∧ W.cell? ⟨wo.heap.size, 1, none⟩ = some (.int .i64 i) ∧ W.cell? ⟨wo.heap.size, 2, none⟩ = some (.int .i64 u) ∧ Aside0 (W.heap[wo.heap.size]? = some (.cells #[.int .i64 s, .int .i64 i, .int .i64 u] 60 (0, 0))))
          (first
            | exact ⟨o0, o1, o2, ⟨HO.out⟩⟩
            | exact ⟨blk_cell hk1 0, blk_cell hk1 1, blk_cell hk1 2, ⟨hk1⟩⟩)
          (first
            | (go_at_call 18; (with_reducible refine HV.out.mono ?_); rintro e w' ⟨rfl, hkp, hv2⟩; have HV2 := Aside0.mk hv2; have hk1 := hkp wo.heap.size _ _ (fun a e => Nat.ne_of_gt (HL.out.1 a e)) HO.out; clear hv2 hkp)
            | (go_at_call 28; (with_reducible refine HV2.out.mono ?_); rintro e w' ⟨rfl, hkp, htw⟩; have HT2 := Aside0.mk htw; replace hk1 := hkp wo.heap.size _ _ (fun a e => Nat.ne_of_gt (HL.out.2 a e)) hk1; clear htw hkp))
        have HA : Aside0 (timesynclaw54_LeapvoteRuns.At w (w'.alloc (.cells #[.int .i64 u, .int .i64 a2] 3 (0, 0))) (some ⟨w.heap.size, 0, none⟩) (some ⟨w1.heap.size, 0, none⟩) wo.heap.size w'.heap.size s i u a2) := ⟨⟨HT2.out.alloc _, blk_alloc hk1 _, blk_new w' _⟩⟩
        have q2 := blk_cell hk1 2
        clear o0 o1 o2 HT HT2 HV HV2 HO hx0 hx1 hx2
        go_wp2
        go_loopw [64] (fun v W => ∃ j : Nat, j ≤ 2 ∧ v = .int .i64 (j : Int) ∧ Aside0 (timesynclaw54_LeapvoteRuns.At w W (some ⟨w.heap.size, 0, none⟩) (some ⟨w1.heap.size, 0, none⟩) wo.heap.size w'.heap.size s i u a2)) (fun v _ => 2 - (intOf v).toNat)
        case atStart => exact ⟨0, by omega, rfl, HA⟩
        case round =>
          clear HA
          obtain ⟨j, hj, rfl, HA⟩ := hrel
          by_cases hj2 : j < 2
          · have hj3 : (j : Int) < 2 := by omega
            have hl := blk_lt HA.out.k1
            obtain ⟨T, hT⟩ : ∃ T, wr.cell? ⟨w'.heap.size, j, none⟩ = some (.int .i64 T) := by
              have h := blk_cell HA.out.k1 j
              obtain rfl | rfl : j = 0 ∨ j = 1 := by omega
              · exact ⟨_, h⟩
              · exact ⟨_, h⟩
            obtain ⟨a, b, c, D, x, y, ok, f1, f2, f3, f4, f5, f6⟩ := HA.out.tw.ask T
            have F1 := Aside0.mk f1
            have F2 := Aside0.mk f2
            have F3 := Aside0.mk f3
            have F4 := Aside0.mk f4
            have F5 := Aside0.mk f5
            have F6 := Aside0.mk f6
            have HW := Aside0.mk (Below.refl wr.heap.size wr)
            clear f1 f2 f3 f4 f5 f6
            go_wp2_with fail
            refine (F1.out _ HW.out).mono ?_
            rintro e v1 ⟨rfl, hb1⟩
            replace HW := Aside0.mk (below_step HW.out hb1)
            clear hb1 F1
            go_wp2_with fail
            refine (F2.out _ HW.out).mono ?_
            rintro e v2 ⟨rfl, hb2⟩
            replace HW := Aside0.mk (below_step HW.out hb2)
            clear hb2 F2
            go_wp2_with fail
            refine (F3.out _ HW.out).mono ?_
            rintro e v3 ⟨rfl, hb3⟩
            have HX : Aside0 ((v3.alloc (.cells #[.int .i64 x, .int .i64 y] 44 (0, 0))).heap[v3.heap.size]? = some (.cells #[.int .i64 x, .int .i64 y] 44 (0, 0))) := ⟨blk_new v3 _⟩
            replace HW := Aside0.mk (below_alloc (below_step HW.out hb3) (.cells #[.int .i64 x, .int .i64 y] 44 (0, 0)))
            clear hb3 F3
            go_wp2_with fail
            refine (F4.out _ HW.out).mono ?_
            rintro e v4 ⟨rfl, hb4⟩
            have HY : Aside0 ((v4.alloc (.cells #[.int .i64 x, .int .i64 y] 44 (0, 0))).heap[v4.heap.size]? = some (.cells #[.int .i64 x, .int .i64 y] 44 (0, 0))) := ⟨blk_new v4 _⟩
            replace HX := Aside0.mk (blk_alloc (blk_below HX.out hb4) (.cells #[.int .i64 x, .int .i64 y] 44 (0, 0)))
            replace HW := Aside0.mk (below_alloc (below_step HW.out hb4) (.cells #[.int .i64 x, .int .i64 y] 44 (0, 0)))
            clear hb4 F4
            have x0 := blk_cell HX.out 0
            have x1 := blk_cell HX.out 1
            have y0 := blk_cell HY.out 0
            have y1 := blk_cell HY.out 1
            go_wp2_with fail
            refine (F5.out _ HW.out).mono ?_
            rintro e v5 ⟨rfl, hb5⟩
            replace HW := Aside0.mk (below_step HW.out hb5)
            clear hb5 F5 x0 x1 y0 y1
            go_wp2_with fail
            refine (F6.out _ HW.out).mono ?_
            rintro e v6 ⟨rfl, hb6⟩
            replace HW := Aside0.mk (below_step HW.out hb6)
            clear hb6 F6
            have HF := Aside0.mk (HA.out.step HW.out)
            clear HA HW HX HY hT
            go_wp2
            go_roundw
            case rel => exact ⟨j + 1, by omega, by go_num, HF⟩
            case measure => simp [intOf]; omega
          · obtain rfl : j = 2 := by omega
            have HF := Aside0.mk HA.out.tw
            clear HA
            go_wp2
            go_roundw
            case rel => exact ⟨k + 1, by omega, by go_num, HF⟩
            case measure => simp [intOf]; omega
      · obtain rfl : k = l1.length := by omega
        go_wp2_with fail
        refine (awake_ok _).mono ?_
        rintro e w4 ⟨rfl, hb4⟩
        have HB := Aside0.mk (below_step HT.out.below hb4)
        clear hb4
        go_wp2
        go_ret
        exact ⟨rfl, HB.out⟩
  · have HN := Aside0.mk (fun W => new_bad a0 W hn)
    have HM := Aside0.mk (fun W => rnew_bad a0 W hn)
    clear hn
    go_enter Try.func5, Try.ntmps5
    go_wp2_with fail
    refine (HN.out _).mono ?_
    rintro e w1 ⟨rfl, hw1⟩
    obtain rfl : w = w1 := hw1.symm
    go_wp2_with fail
    refine (HM.out _).mono ?_
    rintro e w2 ⟨rfl, hw2⟩
    obtain rfl : w = w2 := hw2.symm
    have HT : Aside0 (TW w w none none) := ⟨.none HB0.out⟩
    clear HN HM
    go_wp2
    go_loopw [38] (fun v W => ∃ k : Nat, k ≤ l1.length ∧ v = .int .i64 (k : Int) ∧ Aside0 (TW w W (none) (none))) (fun v _ => l1.length - (intOf v).toNat)
    case atStart => exact ⟨0, by omega, rfl, HT⟩
    case round =>
      clear HT
      obtain ⟨k, hk, rfl, HT⟩ := hrel
      obtain ⟨wo, hwo⟩ : ∃ W, W = wr := ⟨_, rfl⟩
      subst hwo
      by_cases hk2 : k < l1.length
      · have hk3 : (k : Int) < (l1.length : Int) := by omega
        have k0 : (0 : Int) ≤ (k : Int) := by omega
        obtain ⟨ad, ead, hx0, hx1, hx2⟩ := at_T60 HR.out (k : Int) k0 hk3
        subst ead
        generalize (rd_T60 l1 (k : Int)).f0 = s at *
        generalize (rd_T60 l1 (k : Int)).f1 = i at *
        generalize (rd_T60 l1 (k : Int)).f2 = u at *
        replace hx0 := (HT.out.below.cell (World.block_lt_of_cell? w _ hx0)).trans hx0
        replace hx1 := (HT.out.below.cell (World.block_lt_of_cell? w _ hx1)).trans hx1
        replace hx2 := (HT.out.below.cell (World.block_lt_of_cell? w _ hx2)).trans hx2
        rw [Int.toNat_natCast] at hx0 hx1 hx2
        have k0t : ((0 : Int) ≤ (k : Int)) = True := eq_true k0
        have k3t : ((k : Int) < (l1.length : Int)) = True := eq_true hk3
        have ho : (wo.alloc (.cells #[.int .i64 s, .int .i64 i, .int .i64 u] 60 (0, 0))).heap[wo.heap.size]? = some (.cells #[.int .i64 s, .int .i64 i, .int .i64 u] 60 (0, 0)) := blk_new wo _
        have HL := Aside0.mk HT.out.lt
        replace HT := Aside0.mk ((HT.out.alloc (.cells #[.int .i64 s, .int .i64 i, .int .i64 u] 60 (0, 0))).drew)
        obtain ⟨e0, hvote⟩ := HT.out.vote s i u
        have HV := Aside0.mk hvote
        have HO := Aside0.mk ho
        have o0 := blk_cell HO.out 0
        have o1 := blk_cell HO.out 1
        have o2 := blk_cell HO.out 2
        clear hvote ho
        go_wp2_with fail
        go_region_held3 (fun W => W.cell? ⟨wo.heap.size, 0, none⟩ = some (.int .i64 s) ∧ W.cell? ⟨wo.heap.size, 1, none⟩ = some (.int .i64 i) ∧ W.cell? ⟨wo.heap.size, 2, none⟩ = some (.int .i64 u) ∧ Aside0 (W.heap[wo.heap.size]? = some (.cells #[.int .i64 s, .int .i64 i, .int .i64 u] 60 (0, 0))))
          (first
            | exact ⟨o0, o1, o2, ⟨HO.out⟩⟩
            | exact ⟨blk_cell hk1 0, blk_cell hk1 1, blk_cell hk1 2, ⟨hk1⟩⟩)
          (first
            | (go_at_call 18; (with_reducible refine HV.out.mono ?_); rintro e w' ⟨rfl, hkp, hv2⟩; have HV2 := Aside0.mk hv2; have hk1 := hkp wo.heap.size _ _ (fun a e => Nat.ne_of_gt (HL.out.1 a e)) HO.out; clear hv2 hkp)
            | (go_at_call 28; (with_reducible refine HV2.out.mono ?_); rintro e w' ⟨rfl, hkp, htw⟩; have HT2 := Aside0.mk htw; replace hk1 := hkp wo.heap.size _ _ (fun a e => Nat.ne_of_gt (HL.out.2 a e)) hk1; clear htw hkp))
        have HA : Aside0 (timesynclaw54_LeapvoteRuns.At w (w'.alloc (.cells #[.int .i64 u, .int .i64 a2] 3 (0, 0))) (none) (none) wo.heap.size w'.heap.size s i u a2) := ⟨⟨HT2.out.alloc _, blk_alloc hk1 _, blk_new w' _⟩⟩
        have q2 := blk_cell hk1 2
        clear o0 o1 o2 HT HT2 HV HV2 HO hx0 hx1 hx2
        go_wp2
        go_loopw [64] (fun v W => ∃ j : Nat, j ≤ 2 ∧ v = .int .i64 (j : Int) ∧ Aside0 (timesynclaw54_LeapvoteRuns.At w W (none) (none) wo.heap.size w'.heap.size s i u a2)) (fun v _ => 2 - (intOf v).toNat)
        case atStart => exact ⟨0, by omega, rfl, HA⟩
        case round =>
          clear HA
          obtain ⟨j, hj, rfl, HA⟩ := hrel
          by_cases hj2 : j < 2
          · have hj3 : (j : Int) < 2 := by omega
            have hl := blk_lt HA.out.k1
            obtain ⟨T, hT⟩ : ∃ T, wr.cell? ⟨w'.heap.size, j, none⟩ = some (.int .i64 T) := by
              have h := blk_cell HA.out.k1 j
              obtain rfl | rfl : j = 0 ∨ j = 1 := by omega
              · exact ⟨_, h⟩
              · exact ⟨_, h⟩
            obtain ⟨a, b, c, D, x, y, ok, f1, f2, f3, f4, f5, f6⟩ := HA.out.tw.ask T
            have F1 := Aside0.mk f1
            have F2 := Aside0.mk f2
            have F3 := Aside0.mk f3
            have F4 := Aside0.mk f4
            have F5 := Aside0.mk f5
            have F6 := Aside0.mk f6
            have HW := Aside0.mk (Below.refl wr.heap.size wr)
            clear f1 f2 f3 f4 f5 f6
            go_wp2_with fail
            refine (F1.out _ HW.out).mono ?_
            rintro e v1 ⟨rfl, hb1⟩
            replace HW := Aside0.mk (below_step HW.out hb1)
            clear hb1 F1
            go_wp2_with fail
            refine (F2.out _ HW.out).mono ?_
            rintro e v2 ⟨rfl, hb2⟩
            replace HW := Aside0.mk (below_step HW.out hb2)
            clear hb2 F2
            go_wp2_with fail
            refine (F3.out _ HW.out).mono ?_
            rintro e v3 ⟨rfl, hb3⟩
            have HX : Aside0 ((v3.alloc (.cells #[.int .i64 x, .int .i64 y] 44 (0, 0))).heap[v3.heap.size]? = some (.cells #[.int .i64 x, .int .i64 y] 44 (0, 0))) := ⟨blk_new v3 _⟩
            replace HW := Aside0.mk (below_alloc (below_step HW.out hb3) (.cells #[.int .i64 x, .int .i64 y] 44 (0, 0)))
            clear hb3 F3
            go_wp2_with fail
            refine (F4.out _ HW.out).mono ?_
            rintro e v4 ⟨rfl, hb4⟩
            have HY : Aside0 ((v4.alloc (.cells #[.int .i64 x, .int .i64 y] 44 (0, 0))).heap[v4.heap.size]? = some (.cells #[.int .i64 x, .int .i64 y] 44 (0, 0))) := ⟨blk_new v4 _⟩
            replace HX := Aside0.mk (blk_alloc (blk_below HX.out hb4) (.cells #[.int .i64 x, .int .i64 y] 44 (0, 0)))
            replace HW := Aside0.mk (below_alloc (below_step HW.out hb4) (.cells #[.int .i64 x, .int .i64 y] 44 (0, 0)))
            clear hb4 F4
            have x0 := blk_cell HX.out 0
            have x1 := blk_cell HX.out 1
            have y0 := blk_cell HY.out 0
            have y1 := blk_cell HY.out 1
            go_wp2_with fail
            refine (F5.out _ HW.out).mono ?_
            rintro e v5 ⟨rfl, hb5⟩
            replace HW := Aside0.mk (below_step HW.out hb5)
            clear hb5 F5 x0 x1 y0 y1
            go_wp2_with fail
            refine (F6.out _ HW.out).mono ?_
            rintro e v6 ⟨rfl, hb6⟩
            replace HW := Aside0.mk (below_step HW.out hb6)
            clear hb6 F6
            have HF := Aside0.mk (HA.out.step HW.out)
            clear HA HW HX HY hT
            go_wp2
            go_roundw
            case rel => exact ⟨j + 1, by omega, by go_num, HF⟩
            case measure => simp [intOf]; omega
          · obtain rfl : j = 2 := by omega
            have HF := Aside0.mk HA.out.tw
            clear HA
            go_wp2
            go_roundw
            case rel => exact ⟨k + 1, by omega, by go_num, HF⟩
            case measure => simp [intOf]; omega
      · obtain rfl : k = l1.length := by omega
        go_wp2_with fail
        refine (awake_ok _).mono ?_
        rintro e w4 ⟨rfl, hb4⟩
        have HB := Aside0.mk (below_step HT.out.below hb4)
        clear hb4
        go_wp2
        go_ret
        exact ⟨rfl, HB.out⟩
end Go.Proofs.Ytljbajnmkkebkaa.All
