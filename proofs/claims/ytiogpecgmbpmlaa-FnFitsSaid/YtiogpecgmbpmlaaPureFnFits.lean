/- The plain part of the proof that the law FnFits answers true for every input: what its printed functions compute answers true, for all lists and numbers that the walk hands over; no condition beyond those. -/
import Derived.Test.YtiogpecgmbpmlaaPCx29
import Derived.Test.YtiogpecgmbpmlaaM
import Derived.Test.YtiogpecgmbpmlaaMf
namespace Go.Proofs.Ytiogpecgmbpmlaa.Pure
open Go.RowKit Go.Proofs.Ytiogpecgmbpmlaa.PC Go.Proofs.YtiogpecgmbpmlaaW.PrintWords Go.Proofs.YtiogpecgmbpmlaaW.PrintLast Go.Proofs.YtiogpecgmbpmlaaW.PrintMore Go.Proofs.Ytiogpecgmbpmlaa.M
set_option linter.unusedVariables false
set_option linter.unusedSimpArgs false
set_option maxRecDepth 4000

theorem spec_pick_ev (l : List Int) (p n : Int) (hl : l.length ≤ 2000) (hb : ∀ x ∈ l, 0 ≤ x ∧ x ≤ 255) (hp0 : 0 ≤ p) (hp1 : p ≤ 1000000) :
    ∃ v : Int, Ev (fun k => spec_l6Rd_pick.f k l p n) (v, p + 1) ∧ 0 ≤ v ∧ (v < n ∨ v = 0) := by
  have hw : wrap64 (p + 1) = p + 1 := wid (by omega) (by omega)
  by_cases hn : n < 1
  · refine ⟨0, ?_, by omega, Or.inr rfl⟩
    refine Ev.congr (fun k => by rw [spec_l6Rd_pick.f]) (ev_pos hn ?_)
    refine Ev.step (fun k => by rw [spec_l6Rd_pick.j0]) (ev_pos rfl (ev_val ?_))
    rw [hw]
  · by_cases h0 : l.length = 0
    · refine ⟨0, ?_, by omega, Or.inr rfl⟩
      refine Ev.congr (fun k => by rw [spec_l6Rd_pick.f]) (ev_neg hn ?_)
      have e : ((l.length : Int) == 0) = true := by rw [beq_iff_eq]; omega
      rw [e]
      refine Ev.step (fun k => by rw [spec_l6Rd_pick.j0]) (ev_pos rfl (ev_val ?_))
      rw [hw]
    · have e : ((l.length : Int) == 0) = false := by rw [beq_eq_false_iff_ne]; omega
      have hw2 : wrap64 (p + 1 - 1) = p := by rw [wid (by omega) (by omega)]; omega
      have tm : ∀ a : Int, 0 ≤ a → 0 ≤ Int.tmod a n ∧ Int.tmod a n < n := fun a ha => by
        rw [Int.tmod_eq_emod_of_nonneg ha]
        exact ⟨Int.emod_nonneg _ (by omega), Int.emod_lt_of_pos _ (by omega)⟩
      have rb : ∀ i : Int, 0 ≤ i → i < l.length → 0 ≤ rd l i ∧ rd l i ≤ 255 := fun i h0 h1 => by
        obtain ⟨j, rfl⟩ := Int.eq_ofNat_of_zero_le h0
        exact hb _ (rd_mem (by omega))
      by_cases hk : p < (l.length : Int)
      · have hr := rb p hp0 hk
        refine ⟨Int.tmod (wrap64 (rd l p)) n, ?_, ?_, ?_⟩
        · refine Ev.congr (fun k => by rw [spec_l6Rd_pick.f]) (ev_neg hn ?_)
          rw [e, hw]
          refine Ev.step (fun k => by rw [spec_l6Rd_pick.j0]) (ev_neg (by simp) ?_)
          rw [hw2]
          exact ev_pos hk (ev_pos hp0 (ev_neg (by omega) (ev_val rfl)))
        · rw [wid (by omega) (by omega)]; exact (tm _ hr.1).1
        · rw [wid (by omega) (by omega)]; exact Or.inl (tm _ hr.1).2
      · have tl : ∀ a : Int, 0 ≤ a → 0 ≤ Int.tmod a (l.length : Int) ∧ Int.tmod a (l.length : Int) < (l.length : Int) := fun a ha => by
          rw [Int.tmod_eq_emod_of_nonneg ha]
          exact ⟨Int.emod_nonneg _ (by omega), Int.emod_lt_of_pos _ (by omega)⟩
        have h1 := tl p hp0
        have hw3 : wrap64 (p * 7) = p * 7 := wid (by omega) (by omega)
        have hw4 : wrap64 (p * 7 + 3) = p * 7 + 3 := wid (by omega) (by omega)
        have h2 := tl (p * 7 + 3) (by omega)
        have r1 := rb _ h1.1 h1.2
        have r2 := rb _ h2.1 h2.2
        generalize hA : Int.tmod p (l.length : Int) = A at *
        generalize hB : Int.tmod (p * 7 + 3) (l.length : Int) = B at *
        have hq : 0 ≤ Int.tdiv p (l.length : Int) ∧ Int.tdiv p (l.length : Int) ≤ 1000000 := by
          rw [Int.tdiv_eq_ediv_of_nonneg hp0]
          exact ⟨Int.ediv_nonneg hp0 (by omega), Int.le_trans (Int.ediv_le_self _ hp0) hp1⟩
        generalize hQ : Int.tdiv p (l.length : Int) = Q at *
        have hx : wrap64 (wrap64 (wrap64 (wrap64 (wrap64 (rd l A) * 131) + wrap64 (wrap64 (rd l B) * 1117)) + wrap64 (p * 29)) + wrap64 (wrap64 Q * 53)) = rd l A * 131 + rd l B * 1117 + p * 29 + Q * 53 := by
          rw [wid (x := rd l A) (by omega) (by omega), wid (x := rd l B) (by omega) (by omega), wid (x := Q) (by omega) (by omega), wid (x := rd l A * 131) (by omega) (by omega), wid (x := rd l B * 1117) (by omega) (by omega), wid (x := p * 29) (by omega) (by omega), wid (x := Q * 53) (by omega) (by omega)]
          rw [wid (x := rd l A * 131 + rd l B * 1117) (by omega) (by omega), wid (x := rd l A * 131 + rd l B * 1117 + p * 29) (by omega) (by omega), wid (by omega) (by omega)]
        obtain ⟨X, hX⟩ : ∃ X, X = rd l A * 131 + rd l B * 1117 + p * 29 + Q * 53 := ⟨_, rfl⟩
        have hX0 : 0 ≤ X ∧ X < 1099511627776 := by omega
        have hd : 0 ≤ Int.tdiv X 64 ∧ Int.tdiv X 64 < 1099511627776 := by
          rw [Int.tdiv_eq_ediv_of_nonneg hX0.1]
          omega
        have hb := xor_nonneg X (Int.tdiv X 64) hX0.1 hX0.2 hd.1 hd.2
        refine ⟨Int.tmod (Go.bits .xor .i64 X (Int.tdiv X 64)) n, ?_, (tm _ hb).1, Or.inl (tm _ hb).2⟩
        refine Ev.congr (fun k => by rw [spec_l6Rd_pick.f]) (ev_neg hn ?_)
        rw [e, hw]
        refine Ev.step (fun k => by rw [spec_l6Rd_pick.j0]) (ev_neg (by simp) ?_)
        rw [hw2, hw3, hw4, hA, hB, hQ, hx, ← hX, wid (x := Int.tdiv X 64) (by omega) (by omega)]
        exact ev_neg hk (ev_neg (by omega) (ev_pos h1.1 (ev_pos h1.2 (ev_pos h2.1 (ev_pos h2.2 (ev_neg (by omega) (ev_val rfl)))))))

theorem spec_l91Length_ev (l : List Int) (p : Int) (hl : l.length ≤ 2000) (hb : ∀ x ∈ l, 0 ≤ x ∧ x ≤ 255) (hp0 : 0 ≤ p) (hp1 : p ≤ 100000) :
    ∃ v : Int, Ev (fun k => spec_l91Length.f k l p) (v, p + 3) ∧ 1 ≤ v ∧ v ≤ 60 := by
  obtain ⟨v1, e1, a1, b1⟩ := spec_pick_ev l p 12 hl hb hp0 (by omega)
  obtain ⟨v2, e2, a2, b2⟩ := spec_pick_ev l (p + 1) 6 hl hb (by omega) (by omega)
  obtain ⟨v3, e3, a3, b3⟩ := spec_pick_ev l (p + 1 + 1) 48 hl hb (by omega) (by omega)
  have h2 : 0 ≤ Int.tdiv v2 5 ∧ Int.tdiv v2 5 ≤ 1 := by
    rw [Int.tdiv_eq_ediv_of_nonneg a2]
    omega
  have h3 : 0 ≤ Int.tdiv v2 5 * v3 ∧ Int.tdiv v2 5 * v3 ≤ 47 := by
    generalize Int.tdiv v2 5 = q at *
    rcases (by omega : q = 0 ∨ q = 1) with rfl | rfl <;> omega
  refine ⟨1 + v1 + Int.tdiv v2 5 * v3, ?_, by omega, by omega⟩
  refine Ev.congr (fun k => by rw [spec_l91Length.f]) (Ev.bind e1 ?_)
  refine Ev.bind e2 ?_
  refine Ev.bind e3 (ev_val ?_)
  show (wrap64 (wrap64 (1 + v1) + wrap64 (wrap64 (Int.tdiv v2 5) * v3)), p + 1 + 1 + 1) = _
  rw [wid (x := Int.tdiv v2 5) (by omega) (by omega), wid (x := Int.tdiv v2 5 * v3) (by omega) (by omega), wid (x := 1 + v1) (by omega) (by omega), wid (by omega) (by omega)]
  congr 1
  omega

theorem spec_l6Open_ev (l : List Int) : ∃ m : List Int, spec_l6Open.f l = some (m, 0) ∧ m.length ≤ 2000 ∧ (∀ x ∈ m, x ∈ l) := by
  unfold spec_l6Open.f
  by_cases h : (l.length : Int) > 2000
  · rw [if_pos h, if_pos (by omega)]
    exact ⟨_, rfl, by simp; omega, fun x hx => List.mem_of_mem_take hx⟩
  · rw [if_neg h]
    exact ⟨_, rfl, by omega, fun x hx => hx⟩

theorem spec_l91Ruler_ev (l : List Int) (p : Int) (most : Int) (hl : l.length ≤ 2000) (hb : ∀ x ∈ l, 0 ≤ x ∧ x ≤ 255) (hp0 : 0 ≤ p) (hp1 : p ≤ 5000) (hm : 1 ≤ most ∧ most ≤ 100) :
    ∃ (m : List Int) (q : Int), Ev (fun k => spec_l91Ruler.f k l p most) (m, q) ∧ m.length ≤ 101 ∧ (p ≤ q ∧ q ≤ p + 400) := by
  obtain ⟨v, e1, v1, v2⟩ := spec_pick_ev l p most hl hb hp0 (by omega)
  obtain ⟨n, hn⟩ : ∃ n : Nat, 1 + v = (n : Int) := ⟨(1 + v).toNat, by omega⟩
  have w1 : Aside0 (wrap64 (1 + v) = (n : Int)) := ⟨by rw [wid (by omega) (by omega)]; exact hn⟩
  have hn1 : 1 ≤ n ∧ n ≤ 100 := by omega
  have key : ∀ (d i : Nat) (s : List Int) (c : Int), i + d = n → s.length = i → (p ≤ c ∧ c ≤ p + 1 + 3 * i) → ∃ r : List Int × Int, Ev (fun k => spec_l91Ruler.l0 k s (n : Int) (i : Int) l c) r ∧ r.1.length ≤ 101 ∧ (p ≤ r.2 ∧ r.2 ≤ p + 400) := by
    intro d
    induction d with
    | zero =>
      intro i s c hd hs hc
      obtain ⟨u, eu, u1, u2⟩ := spec_pick_ev l c 30 hl hb (by omega) (by omega)
      by_cases c0 : u = 0
      · obtain ⟨g, eg, g1, g2⟩ := spec_pick_ev l (c + 1) (n : Int) hl hb (by omega) (by omega)
        obtain ⟨f, ef, f1, f2⟩ := spec_pick_ev l (c + 1 + 1) 2 hl hb (by omega) (by omega)
        refine ⟨(s.set g.toNat (wrap64 (f * 61)), c + 1 + 1 + 1), ?_, by simp; omega, by simp only []; omega⟩
        refine Ev.step (fun k => by rw [spec_l91Ruler.l0]) (ev_neg (by omega) ?_)
        refine Ev.bind eu (ev_pos c0 ?_)
        refine Ev.bind eg ?_
        refine Ev.bind ef ?_
        exact ev_pos g1 (ev_pos (by show g < (s.length : Int); omega) (ev_val rfl))
      · refine ⟨(s, c + 1), ?_, by show s.length ≤ 101; omega, by simp only []; omega⟩
        refine Ev.step (fun k => by rw [spec_l91Ruler.l0]) (ev_neg (by omega) ?_)
        exact Ev.bind eu (ev_neg c0 (ev_val rfl))
    | succ d ih =>
      intro i s c hd hs hc
      obtain ⟨u, eu, u1, u2⟩ := spec_l91Length_ev l c hl hb (by omega) (by omega)
      obtain ⟨r, e2, hr⟩ := ih (i + 1) (s ++ [u]) (c + 3) (by omega) (by simp; omega) (by omega)
      refine ⟨r, ?_, hr⟩
      refine Ev.step (fun k => by rw [spec_l91Ruler.l0]) (ev_pos (by omega) ?_)
      refine Ev.bind eu ?_
      refine ev_pos (by omega) ?_
      rw [wsucc (i := i) (n := 101) (by omega) (by omega)]
      exact e2
  obtain ⟨⟨m, q⟩, e2, h1, h2⟩ := key n 0 [] (p + 1) (by omega) rfl (by omega)
  refine ⟨m, q, ?_, h1, h2⟩
  refine Ev.congr (fun k => by rw [spec_l91Ruler.f]) ?_
  refine Ev.bind e1 ?_
  rw [w1.out]
  exact e2

theorem l6In_eq (a b c : Int) : spec_l6In.f a b c = some (decide (b ≤ a ∧ a ≤ c)) := by
  unfold spec_l6In.f
  by_cases h : a ≥ b
  · rw [if_pos h]
    simp [show b ≤ a from h]
  · rw [if_neg h]
    simp [show ¬ b ≤ a from h]

theorem spec_l5Ruler_ev (l : List Int) (hn : l.length ≤ 1000000000000000) : Ev (fun k => spec_l5Ruler.f k l) (bl (Rul l)) := by
  have key := up_ev (σ := Unit) l.length (fun k _ i => spec_l5Ruler.l0 k l i) (fun _ i => bl (Ok l i ∧ Len9 l)) (fun _ _ => True)
    (by
      intro _ _
      refine Ev.step (fun k => by rw [spec_l5Ruler.l0]) ?_
      refine ev_neg (by omega) (ev_opt (l6In_eq _ _ _) (ev_val ?_))
      refine bl_dec ⟨fun h => ⟨fun j hj hl => by omega, by unfold Len9; omega⟩, fun h => ?_⟩
      have := h.2
      unfold Len9 at this
      omega)
    (by
      intro _ i hi _ ih
      have h1 := ih () trivial
      refine Ev.step (fun k => by rw [spec_l5Ruler.l0]) ?_
      refine ev_pos (by omega) (ev_pos (by omega) (ev_opt (l6In_eq _ _ _) ?_))
      refine ev_ite (fun c => ?_) (fun c => ev_val ?_)
      · have c := of_decide_eq_true c
        rw [wsucc hi hn]
        exact ev_eq h1 (bl_congr ⟨fun h => ⟨h.1.cons (by omega) (by omega), h.2⟩, fun h => ⟨h.1.tail, h.2⟩⟩)
      · refine (bl_false fun h => c (decide_eq_true ?_)).symm
        exact h.1 i (by omega) hi)
  refine Ev.congr (fun k => by rw [spec_l5Ruler.f]) ?_
  refine ev_eq (key () 0 (by omega) trivial) (bl_congr ?_)
  exact ⟨fun h => ⟨h.1, h.2⟩, fun h => ⟨h.1, h.2⟩⟩

theorem spec_l5Ends_ev (l : List Int) (h : Rul l) (s : Nat) (hs : s ≤ 512) : Ev (fun k => spec_l5Ends.f k l (s : Int)) (endM l s l.length) := by
  have hl := h.len
  have key := up_ev (σ := Int × Int × Int) l.length (fun k q j => spec_l5Ends.l0 k l (s : Int) q.1 q.2.1 q.2.2 j) (fun _ _ => endM l s l.length) (fun q j => q = endM l s j)
    (by
      intro q hq
      rw [hq]
      exact Ev.step (fun k => by rw [spec_l5Ends.l0]) (ev_neg (by omega) (ev_val rfl)))
    (by
      intro q j hj hq ih
      have hb := endM_bd h s j (by omega)
      have hx := h.1.at hj
      have hbit := bit_at hl.2 hj hs
      have hix := idx_at hl.2 hj
      have e : endM l s (j + 1) = if bitM l.length s j = 0 then ((endM l s j).1 + rd l (j : Int), mn (endM l s j).2.1 ((endM l s j).1 + rd l (j : Int)), mx (endM l s j).2.2 ((endM l s j).1 + rd l (j : Int))) else ((endM l s j).1 - rd l (j : Int), mn (endM l s j).2.1 ((endM l s j).1 - rd l (j : Int)), mx (endM l s j).2.2 ((endM l s j).1 - rd l (j : Int))) := rfl
      have hbt := bitM_lt l.length s j
      rw [← hq] at hb e
      refine Ev.step (fun k => by rw [spec_l5Ends.l0]) ?_
      rw [hbit, hix, wsucc hj (by omega), wid (x := q.1 + rd l (j : Int)) (by omega) (by omega), wid (x := q.1 - rd l (j : Int)) (by omega) (by omega)]
      refine ev_pos (by omega) (ev_pos (by omega) (ev_ite (fun c => ?_) (fun c => ?_)))
      · rw [if_neg (by omega)] at e
        exact ev_pos (by omega) (ih (_, _, _) e.symm)
      · rw [if_pos (by omega)] at e
        exact ev_pos (by omega) (ih (_, _, _) e.symm))
  refine Ev.congr (fun k => by rw [spec_l5Ends.f]) ?_
  exact key (0, 0, 0) 0 (by omega) rfl

theorem spec_l5Least_ev (l : List Int) (h : Rul l) : Ev (fun k => spec_l5Least.f k l) (leastM l (2 ^ l.length)) := by
  have hl := h.len
  have hp : 2 ^ l.length ≤ 2 ^ 9 := Nat.pow_le_pow_right (by decide) hl.2
  have hs1 := shl_one hl.2
  generalize hN : 2 ^ l.length = N at hp hs1
  have key := up_ev (σ := Int × Int) N (fun k s i => spec_l5Least.l0 k l s.1 s.2 i) (fun _ _ => leastM l N) (fun s i => s = leastM l i)
    (by
      intro s hs
      refine Ev.step (fun k => by rw [spec_l5Least.l0, hs1]) ?_
      exact ev_neg (by omega) (ev_val (by rw [← hs])))
    (by
      intro s i hi hs ih
      have hb := endM_bd h i l.length (Nat.le_refl _)
      refine Ev.step (fun k => by rw [spec_l5Least.l0, hs1]) ?_
      refine ev_pos (by omega) (Ev.bind (spec_l5Ends_ev l h i (by omega)) ?_)
      rw [wsucc hi (by omega), wid (x := (endM l i l.length).2.2 - (endM l i l.length).2.1) (by omega) (by omega)]
      have e : leastM l (i + 1) = if i = 0 then (spanM l i, (i : Int)) else if spanM l i < (leastM l i).1 then (spanM l i, (i : Int)) else leastM l i := rfl
      rw [← hs] at e
      unfold spanM at e
      refine ev_ite (fun c => ?_) (fun c => ?_)
      · rw [if_pos (by omega)] at e
        exact ih (_, _) e.symm
      · rw [if_neg (by omega)] at e
        refine ev_ite (fun c1 => ?_) (fun c1 => ?_)
        · rw [if_pos c1] at e
          exact ih (_, _) e.symm
        · rw [if_neg c1] at e
          exact ih (_, _) e.symm)
  refine Ev.congr (fun k => by rw [spec_l5Least.f]) ?_
  exact key (0, 0) 0 (by omega) rfl

theorem spec_FoldSpan_ev (l : List Int) (hn : l.length ≤ 1000000000000000) : Ev (fun k => spec_FoldSpan.f k l) (bif bl (Rul l) then ((leastM l (2 ^ l.length)).1, true) else (0, false)) := by
  refine Ev.congr (fun k => by rw [spec_FoldSpan.f]) (Ev.bind (spec_l5Ruler_ev l hn) (ev_ite (fun c => ?_) (fun c => ev_val ?_)))
  · have h := bl_iff.1 c
    rw [c]
    exact Ev.bind (spec_l5Least_ev l h) (ev_val rfl)
  · rw [Bool.not_eq_true] at c
    rw [c]; rfl

theorem wrap64_in (x : Int) : -9223372036854775808 ≤ wrap64 x ∧ wrap64 x ≤ 9223372036854775807 := by
  unfold wrap64
  omega
theorem spec_DrawFoldFits_ev (l : List Int) (hb : ∀ x ∈ l, 0 ≤ x ∧ x ≤ 255) : ∃ (m : List Int) (d : Int), Ev (fun k => spec_DrawFoldFits.f k l) (m, d) ∧ m.length ≤ 101 ∧ (-9223372036854775808 ≤ d ∧ d ≤ 9223372036854775807) := by
  obtain ⟨c, hc, hc1, hc2⟩ := spec_l6Open_ev l
  have hbc : ∀ x ∈ c, 0 ≤ x ∧ x ≤ 255 := fun x hx => hb x (hc2 x hx)
  obtain ⟨m, q, e, h1, hq1, hq2⟩ := spec_l91Ruler_ev c 0 8 hc1 hbc (by omega) (by omega) (by omega)
  have hn : m.length ≤ 1000000000000000 := by omega
  have es := spec_FoldSpan_ev m hn
  obtain ⟨u, eu, u1, u2⟩ := spec_pick_ev c q 4 hc1 hbc (by omega) (by omega)
  have yes : ∀ (z : Int) (p : Int), 0 ≤ p → p ≤ 500 → ∃ d : Int, Ev (fun k => spec_DrawFoldFits.j0 k m z true c p) (m, d) ∧ (-9223372036854775808 ≤ d ∧ d ≤ 9223372036854775807) := by
    intro z p hp0 hp1
    obtain ⟨v, ev, v1, v2⟩ := spec_pick_ev c p 80 hc1 hbc (by omega) (by omega)
    obtain ⟨w, ew, w1, w2⟩ := spec_pick_ev c (p + 1) 24 hc1 hbc (by omega) (by omega)
    refine ⟨wrap64 (v - (wrap64 ((wrap64 (Int.tdiv w 23)) * 80))), ?_, wrap64_in _⟩
    refine Ev.step (fun k => by rw [spec_DrawFoldFits.j0]) (ev_pos rfl ?_)
    exact Ev.bind ev (Ev.bind ew (ev_val rfl))
  have no : ∀ (z : Int) (p : Int), 0 ≤ p → p ≤ 500 → ∃ d : Int, Ev (fun k => spec_DrawFoldFits.j0 k m z false c p) (m, d) ∧ (-9223372036854775808 ≤ d ∧ d ≤ 9223372036854775807) := by
    intro z p hp0 hp1
    obtain ⟨v, ev, v1, v2⟩ := spec_pick_ev c p 3 hc1 hbc (by omega) (by omega)
    obtain ⟨w, ew, w1, w2⟩ := spec_pick_ev c (p + 1) 3 hc1 hbc (by omega) (by omega)
    refine ⟨wrap64 ((wrap64 (z + v)) - w), ?_, wrap64_in _⟩
    refine Ev.step (fun k => by rw [spec_DrawFoldFits.j0]) (ev_neg (by simp) ?_)
    exact Ev.bind ev (Ev.bind ew (ev_val rfl))
  by_cases h : Rul m
  · rw [bl_true h] at es
    by_cases h0 : u = 0
    · obtain ⟨d, ed, hd⟩ := yes (leastM m (2 ^ m.length)).1 (q + 1) (by omega) (by omega)
      refine ⟨m, d, ?_, h1, hd⟩
      refine Ev.congr (fun k => by rw [spec_DrawFoldFits.f]) (ev_opt hc (Ev.bind e (Ev.bind es (ev_pos rfl (Ev.bind eu ?_)))))
      simp only [h0, beq_self_eq_true]
      exact ed
    · obtain ⟨d, ed, hd⟩ := no (leastM m (2 ^ m.length)).1 (q + 1) (by omega) (by omega)
      refine ⟨m, d, ?_, h1, hd⟩
      refine Ev.congr (fun k => by rw [spec_DrawFoldFits.f]) (ev_opt hc (Ev.bind e (Ev.bind es (ev_pos rfl (Ev.bind eu ?_)))))
      have hf : (u == 0) = false := beq_eq_false_iff_ne.mpr h0
      simp only [hf]
      exact ed
  · rw [bl_false h] at es
    simp only [cond_false] at es
    obtain ⟨d, ed, hd⟩ := yes 0 q (by omega) (by omega)
    refine ⟨m, d, ?_, h1, hd⟩
    refine Ev.congr (fun k => by rw [spec_DrawFoldFits.f]) (ev_opt hc (Ev.bind e (Ev.bind es ?_)))
    exact ev_neg (by simp) ed

theorem impl_isRuler_ev (l : List Int) (hn : l.length ≤ 1000000000000000) : Ev (fun k => impl_isRuler.f k l) (bl (Rul l)) := by
  have key := up_ev (σ := Unit) l.length (fun k _ i => impl_isRuler.l0 k l l (l.length : Int) i) (fun _ i => bl (Ok l i ∧ Len9 l)) (fun _ _ => True)
    (by
      intro _ _
      refine Ev.step (fun k => by rw [impl_isRuler.l0]) ?_
      refine ev_neg (by omega) (ev_ite (fun c => ev_val ?_) (fun c => ev_val ?_))
      · refine bl_dec ⟨fun h => ⟨fun j hj hl => by omega, by unfold Len9; omega⟩, fun h => ?_⟩
        have := h.2
        unfold Len9 at this
        omega
      · refine (bl_false fun h => ?_).symm
        have := h.2
        unfold Len9 at this
        omega)
    (by
      intro _ i hi _ ih
      have h1 := ih () trivial
      refine Ev.step (fun k => by rw [impl_isRuler.l0]) ?_
      refine ev_pos (by omega) (ev_pos (by omega) (ev_pos (by omega) ?_))
      refine ev_ite (fun c => ev_val ?_) (fun c => ev_ite (fun c2 => ev_val ?_) (fun c2 => ?_))
      · refine (bl_false fun h => ?_).symm
        have := h.1 i (by omega) hi
        omega
      · refine (bl_false fun h => ?_).symm
        have := h.1 i (by omega) hi
        omega
      · rw [wsucc hi hn]
        exact ev_eq h1 (bl_congr ⟨fun h => ⟨h.1.cons (by omega) (by omega), h.2⟩, fun h => ⟨h.1.tail, h.2⟩⟩))
  refine Ev.congr (fun k => by rw [impl_isRuler.f]) ?_
  refine ev_eq (key () 0 (by omega) trivial) (bl_congr ?_)
  exact ⟨fun h => ⟨h.1, h.2⟩, fun h => ⟨h.1, h.2⟩⟩

theorem impl_sum_ev (l : List Int) (h : Rul l) : Ev (fun k => impl_sum.f k l) (tot l) := by
  have hl := h.len
  have key := up_ev (σ := Int) l.length (fun k s i => impl_sum.l0 k s l (l.length : Int) i) (fun s i => s + tot (l.drop i)) (fun s i => 0 ≤ s ∧ s ≤ 60 * i)
    (by
      intro s _
      refine Ev.step (fun k => by rw [impl_sum.l0]) ?_
      exact ev_neg (by omega) (ev_val (by rw [tot_drop_end]; omega)))
    (by
      intro s i hi hs ih
      have := h.1.at hi
      refine Ev.step (fun k => by rw [impl_sum.l0]) ?_
      refine ev_pos (by omega) (ev_pos (by omega) (ev_pos (by omega) ?_))
      rw [wsucc hi (by omega), wid (by omega) (by omega)]
      exact ev_eq (ih _ (by omega)) (by rw [tot_drop hi]; omega))
  refine Ev.congr (fun k => by rw [impl_sum.f]) ?_
  exact ev_eq (key 0 0 (by omega) (by omega)) (by simp)

theorem slices_Index_bool_ev (s : List Bool) (n : Nat) (hn : n ≤ 10000) (Q : Int → Prop) (hs : Rep s (n : Int) Q) : ∃ r : Int, Ev (fun k => slices_Index_bool_bool.f k s true) r ∧ (0 ≤ r ↔ ∃ z : Nat, z ≤ n ∧ Q (z : Int)) := by
  have hl := hs.1
  have key := up_ex (σ := Unit) (n + 1) (fun k _ i => slices_Index_bool_bool.l0 k s true (s.length : Int) i) (fun r => 0 ≤ r ↔ ∃ z : Nat, z ≤ n ∧ Q (z : Int)) (fun _ i => ∀ z : Nat, z < i → ¬ Q (z : Int))
    (by
      intro _ hz
      refine ⟨-1, ?_, fun h => by omega, fun ⟨z, hz1, hz2⟩ => absurd hz2 (hz z (by omega))⟩
      refine Ev.step (fun k => by rw [slices_Index_bool_bool.l0]) ?_
      exact ev_neg (by omega) (ev_val rfl))
    (by
      intro _ i hi hz ih
      have hr := hs.2 i (by omega)
      by_cases c : Q (i : Int)
      · refine ⟨(i : Int), ?_, fun _ => ⟨i, by omega, c⟩, fun _ => by omega⟩
        refine Ev.step (fun k => by rw [slices_Index_bool_bool.l0]) ?_
        exact ev_pos (by omega) (ev_pos (by omega) (ev_pos (by omega) (ev_pos (by rw [hr.2 c]; rfl) (ev_val rfl))))
      · obtain ⟨r, h1, h2⟩ := ih () fun z hz2 => by
          by_cases e : z = i
          · subst e; exact c
          · exact hz z (by omega)
        have hf : rdOf false s (i : Int) = false := by
          rw [← Bool.not_eq_true]
          exact fun h => c (hr.1 h)
        refine ⟨r, ?_, h2⟩
        refine Ev.step (fun k => by rw [slices_Index_bool_bool.l0]) ?_
        rw [wsucc (n := n + 1) hi (by omega)]
        exact ev_pos (by omega) (ev_pos (by omega) (ev_pos (by omega) (ev_neg (by rw [hf]; simp) h1))))
  obtain ⟨r, h1, h2⟩ := key () 0 (by omega) fun z hz => by omega
  refine ⟨r, ?_, h2⟩
  refine Ev.congr (fun k => by rw [slices_Index_bool_bool.f]) ?_
  exact h1
theorem slices_Contains_bool_ev (s : List Bool) (n : Nat) (hn : n ≤ 10000) (Q : Int → Prop) (hs : Rep s (n : Int) Q) : Ev (fun k => slices_Contains_bool_bool.f k s true) (bl (∃ z : Nat, z ≤ n ∧ Q (z : Int))) := by
  obtain ⟨r, h1, h2⟩ := slices_Index_bool_ev s n hn Q hs
  refine Ev.congr (fun k => by rw [slices_Contains_bool_bool.f]) (Ev.bind h1 (ev_val ?_))
  exact bl_dec h2

theorem impl_FoldFits_ev (l : List Int) (sp : Int) (hn : l.length ≤ 1000000000000000) : Ev (fun k => impl_FoldFits.f k l sp) (bl (Rul l ∧ 0 ≤ sp ∧ Fit l sp)) := by
  have ht : ¬ (Rul l ∧ 0 ≤ sp) → Ev (fun k => impl_FoldFits.j0 k l sp true) (bl (Rul l ∧ 0 ≤ sp ∧ Fit l sp)) := by
    intro hx
    refine Ev.step (fun k => by rw [impl_FoldFits.j0]) ?_
    exact ev_pos rfl (ev_val (bl_false fun h => hx ⟨h.1, h.2.1⟩).symm)
  refine Ev.congr (fun k => by rw [impl_FoldFits.f]) (Ev.bind (impl_isRuler_ev l hn) (ev_ite (fun c => ?_) (fun c => ht fun h => c (bl_true h.1))))
  have h := bl_iff.1 c
  have hl := h.len
  have htot := h.tot
  by_cases c0 : sp < 0
  · rw [decide_eq_true c0]
    exact ht fun h => by omega
  rw [decide_eq_false c0]
  refine Ev.step (fun k => by rw [impl_FoldFits.j0]) (ev_neg (by simp) (Ev.bind (impl_sum_ev l h) ?_))
  have hmn : 0 ≤ mn sp (tot l) ∧ mn sp (tot l) ≤ 540 := by unfold mn; split <;> omega
  rw [bl_congr (P := Rul l ∧ 0 ≤ sp ∧ Fit l sp) (Q := Fit l (mn sp (tot l))) ⟨fun hh => (Fit_min h sp hh.2.1).2 hh.2.2, fun hh => ⟨h, by omega, (Fit_min h sp (by omega)).1 hh⟩⟩]
  generalize mn sp (tot l) = q at *
  obtain ⟨n, rfl⟩ := Int.eq_ofNat_of_zero_le hmn.1
  clear htot c0
  have w1 : Aside0 (wrap64 ((n : Int) + 1) = (n : Int) + 1) := ⟨wid (by omega) (by omega)⟩
  have cA : 0 ≤ (n : Int) + 1 := by omega
  have cB : ((n : Int) + 1).toNat ≤ 281474976710656 := by omega
  rw [w1.out]
  have key0 := up_ev (σ := Unit) (n + 1) (fun k _ f => impl_FoldFits.l0 k l (n : Int) ((n : Int) + 1) f) (fun _ _ => bl (Fit l (n : Int))) (fun _ f => ∀ z : Nat, z < f → ¬ ∃ x, Pst l (n : Int) (fun x => x = (z : Int)) l.length x)
    (by
      intro _ hz
      refine Ev.step (fun k => by rw [impl_FoldFits.l0]) (ev_neg (by omega) (ev_val (bl_false ?_).symm))
      intro hf
      obtain ⟨f, hf1, hf2⟩ := Fit_from.1 hf
      have := hz f.toNat (by omega)
      rw [show ((f.toNat : Nat) : Int) = f by omega] at this
      exact this hf2)
    (by
      intro _ f hf hz ihf
      have hP : ∀ x : Int, x = (f : Int) → 0 ≤ x ∧ x ≤ (n : Int) := fun x hx => by omega
      obtain ⟨P, hPd⟩ : ∃ P : Nat → Int → Prop, P = Pst l (n : Int) (fun x => x = (f : Int)) := ⟨_, rfl⟩
      have wf : Aside0 (wrap64 ((f : Int) + 1) = ((f + 1 : Nat) : Int)) := ⟨wsucc (n := n + 1) hf (by omega)⟩
      have k1 := up_ev (σ := List Bool) l.length (fun k s i => impl_FoldFits.l1 k l (n : Int) s ((n : Int) + 1) (f : Int) l (l.length : Int) i) (fun _ _ => bl (Fit l (n : Int))) (fun s i => Rep s (n : Int) (P i))
        (by
          intro s hs
          refine Ev.step (fun k => by rw [impl_FoldFits.l1]) (ev_neg (by omega) (Ev.bind (slices_Contains_bool_ev s n (by omega) _ hs) (ev_ite (fun c => ev_val ?_) (fun c => ?_))))
          · obtain ⟨z, hz1, hz2⟩ := bl_iff.1 c
            rw [hPd] at hz2
            exact (bl_true (Fit_from.2 ⟨(f : Int), by omega, _, hz2⟩)).symm
          · rw [wf.out]
            refine ihf () fun z hz2 => ?_
            by_cases e : z = f
            · subst e
              rintro ⟨x, hx⟩
              have hx2 := Pst_in hP _ x hx
              rw [← hPd] at hx
              exact c (bl_true ⟨x.toNat, by omega, by rw [show ((x.toNat : Nat) : Int) = x by omega]; exact hx⟩)
            · exact hz z (by omega))
        (by
          intro s i hi hs ih
          have ha := h.1.at hi
          have hsl := hs.1
          have wi : Aside0 (wrap64 ((i : Int) + 1) = ((i + 1 : Nat) : Int)) := ⟨wsucc hi (by omega)⟩
          have k2 := up_ev (σ := List Bool) (n + 1) (fun k t y => impl_FoldFits.l2 k l (n : Int) (rd l (i : Int)) t ((n : Int) + 1) (f : Int) l (l.length : Int) (i : Int) s (s.length : Int) y) (fun _ _ => bl (Fit l (n : Int))) (fun t y => Rep t (n : Int) (Qst (P i) (rd l (i : Int)) (y : Int)))
            (by
              intro t ht
              refine Ev.step (fun k => by rw [impl_FoldFits.l2]) (ev_neg (by omega) ?_)
              rw [wi.out]
              refine ih t (ht.congr fun z z0 z1 => ?_)
              rw [hPd, show ((n + 1 : Nat) : Int) = (n : Int) + 1 by omega]
              exact Qst_full hP i z z0 z1)
            (by
              intro t y hy ht ihy
              have htl := ht.1
              have hr := hs.2 y (by omega)
              have wy : Aside0 (wrap64 ((y : Int) + 1) = ((y + 1 : Nat) : Int)) := ⟨wsucc (n := n + 1) hy (by omega)⟩
              have wa : Aside0 (wrap64 ((y : Int) + rd l (i : Int)) = (y : Int) + rd l (i : Int)) := ⟨wid (by omega) (by omega)⟩
              have wb : Aside0 (wrap64 ((y : Int) - rd l (i : Int)) = (y : Int) - rd l (i : Int)) := ⟨wid (by omega) (by omega)⟩
              have e1 : ((y + 1 : Nat) : Int) = (y : Int) + 1 := by omega
              refine Ev.step (fun k => by rw [impl_FoldFits.l2]) ?_
              refine ev_pos (by omega) (ev_pos (by omega) (ev_pos (by omega) ?_))
              by_cases hp : P i (y : Int)
              · have hrt := hr.2 hp
                rw [hrt, wa.out]
                refine ev_pos rfl ?_
                have hfin : ∀ t2 : List Bool, Rep t2 (n : Int) (fun z => z = (y : Int) + rd l (i : Int) ∧ (y : Int) + rd l (i : Int) ≤ n ∨ Qst (P i) (rd l (i : Int)) (y : Int) z) → Ev (fun k => if true = true then (if (wrap64 ((y : Int) - rd l (i : Int))) ≥ 0 then (if 0 ≤ (wrap64 ((y : Int) - rd l (i : Int))) then (if (wrap64 ((y : Int) - rd l (i : Int))) < (t.length : Int) then (impl_FoldFits.l2 k l (n : Int) (rd l (i : Int)) (t2.set ((wrap64 ((y : Int) - rd l (i : Int))) : Int).toNat true) ((n : Int) + 1) (f : Int) l (l.length : Int) (i : Int) s (s.length : Int) (wrap64 ((y : Int) + 1))) else (none)) else (none)) else (impl_FoldFits.l2 k l (n : Int) (rd l (i : Int)) t2 ((n : Int) + 1) (f : Int) l (l.length : Int) (i : Int) s (s.length : Int) (wrap64 ((y : Int) + 1)))) else (impl_FoldFits.l2 k l (n : Int) (rd l (i : Int)) t2 ((n : Int) + 1) (f : Int) l (l.length : Int) (i : Int) s (s.length : Int) (wrap64 ((y : Int) + 1)))) (bl (Fit l (n : Int))) := by
                  intro t2 h2
                  have h2l := h2.1
                  rw [wb.out, wy.out]
                  refine ev_pos rfl (ev_ite (fun c => ?_) (fun c => ?_))
                  · refine ev_pos (by omega) (ev_pos (by omega) (ihy _ ?_))
                    refine (h2.set ((y : Int) - rd l (i : Int)) (by omega) (by omega)).congr fun z z0 z1 => ?_
                    rw [e1, Qst_yes (by omega) hp]
                    constructor
                    · rintro (a | ⟨a, b⟩ | a)
                      · exact Or.inl (Or.inr a)
                      · exact Or.inl (Or.inl a)
                      · exact Or.inr a
                    · rintro ((a | a) | a)
                      · exact Or.inr (Or.inl ⟨a, by omega⟩)
                      · exact Or.inl a
                      · exact Or.inr (Or.inr a)
                  · refine ihy _ (h2.congr fun z z0 z1 => ?_)
                    rw [e1, Qst_yes (by omega) hp]
                    constructor
                    · rintro (⟨a, b⟩ | a)
                      · exact Or.inl (Or.inl a)
                      · exact Or.inr a
                    · rintro ((a | a) | a)
                      · exact Or.inl ⟨a, by omega⟩
                      · omega
                      · exact Or.inr a
                refine Ev.step (fun k => by rw [impl_FoldFits.j4]) ?_
                refine ev_ite (fun c => ?_) (fun c => ?_)
                · have c := of_decide_eq_true c
                  rw [wa.out]
                  refine ev_pos (by omega) (ev_pos (by omega) (ev_opt rfl ?_))
                  refine hfin (t.set ((y : Int) + rd l (i : Int)).toNat true) ?_
                  refine (ht.set ((y : Int) + rd l (i : Int)) (by omega) (by omega)).congr fun z z0 z1 => ?_
                  constructor
                  · rintro (a | a)
                    · exact Or.inl ⟨a, c⟩
                    · exact Or.inr a
                  · rintro (⟨a, b⟩ | a)
                    · exact Or.inl a
                    · exact Or.inr a
                · have c : ¬ ((y : Int) + rd l (i : Int) ≤ n) := fun h => c (decide_eq_true h)
                  exact hfin t (ht.congr fun z z0 z1 => ⟨fun a => Or.inr a, fun a => a.elim (fun b => absurd b.2 c) id⟩)
              · have hrt : rdOf false s (y : Int) = false := by
                  rw [← Bool.not_eq_true]
                  exact fun c => hp (hr.1 c)
                rw [hrt]
                refine ev_neg (by simp) ?_
                refine Ev.step (fun k => by rw [impl_FoldFits.j4]) ?_
                refine ev_neg (by simp) (ev_neg (by simp) ?_)
                rw [wy.out]
                refine ihy t (ht.congr fun z z0 z1 => ?_)
                rw [e1, Qst_no (by omega) hp])
          refine Ev.step (fun k => by rw [impl_FoldFits.l1]) ?_
          rw [w1.out]
          have c1 : (i : Int) < (l.length : Int) := by omega
          have c2 : 0 ≤ (i : Int) := by omega
          refine ev_pos c1 (ev_pos c2 (ev_pos c1 (ev_pos cA (ev_pos cB ?_))))
          exact k2 _ 0 (by omega) (Rep.empty (n : Int) (by omega) _ fun z _ => Qst_zero _ _ z))
      refine Ev.step (fun k => by rw [impl_FoldFits.l0]) ?_
      rw [w1.out]
      refine ev_pos (by omega) (ev_pos cA (ev_pos cB (ev_opt rfl (ev_pos (by omega) (ev_pos (by simp; omega) ?_)))))
      refine k1 _ 0 (by omega) ?_
      rw [hPd]
      refine ((Rep.empty (n : Int) (by omega) (fun _ => False) fun z _ h => h).set (f : Int) (by omega) (by omega)).congr fun z z0 z1 => ?_
      show (z = (f : Int) ∨ False) ↔ z = (f : Int)
      simp)
  exact key0 () 0 (by omega) fun z hz => by omega

theorem spec_l1Sum_ev (l : List Int) (h : Rul l) : Ev (fun k => spec_l1Sum.f k l) (tot l) := by
  have hl := h.len
  have key := up_ev (σ := Int) l.length (fun k s i => spec_l1Sum.l0 k l s i) (fun s i => s + tot (l.drop i)) (fun s i => 0 ≤ s ∧ s ≤ 60 * i)
    (by
      intro s _
      refine Ev.step (fun k => by rw [spec_l1Sum.l0]) ?_
      exact ev_neg (by omega) (ev_val (by rw [tot_drop_end]; omega)))
    (by
      intro s i hi hs ih
      have := h.1.at hi
      refine Ev.step (fun k => by rw [spec_l1Sum.l0]) ?_
      refine ev_pos (by omega) (ev_pos (by omega) ?_)
      rw [wsucc hi (by omega), wid (by omega) (by omega)]
      exact ev_eq (ih _ (by omega)) (by rw [tot_drop hi]; omega))
  refine Ev.congr (fun k => by rw [spec_l1Sum.f]) ?_
  exact ev_eq (key 0 0 (by omega) (by omega)) (by simp)

theorem spec_l5Fits_ev (l : List Int) (h : Rul l) (sp : Int) (h0 : 0 ≤ sp) (h1 : sp ≤ 10000) : Ev (fun k => spec_l5Fits.f k l sp) (bl (Fit l sp)) := by
  have hl := h.len
  obtain ⟨n, rfl⟩ := Int.eq_ofNat_of_zero_le h0
  have hP : ∀ x : Int, (0 ≤ x ∧ x ≤ (n : Int)) → 0 ≤ x ∧ x ≤ (n : Int) := fun _ h => h
  obtain ⟨P, hPd⟩ : ∃ P : Nat → Int → Prop, P = Pst l (n : Int) (fun x => 0 ≤ x ∧ x ≤ (n : Int)) := ⟨_, rfl⟩
  -- the last loop
  have k3 : ∀ s : List Bool, Rep s (n : Int) (P l.length) → Ev (fun k => spec_l5Fits.l3 k (n : Int) s 0) (bl (Fit l (n : Int))) := by
    intro s hs
    have key := up_ev (σ := Unit) (n + 1) (fun k _ i => spec_l5Fits.l3 k (n : Int) s i) (fun _ _ => bl (Fit l (n : Int))) (fun _ i => ∀ z : Nat, z < i → ¬ P l.length (z : Int))
      (by
        intro _ hz
        refine Ev.step (fun k => by rw [spec_l5Fits.l3]) ?_
        refine ev_neg (by omega) (ev_val (bl_false ?_).symm)
        rintro ⟨x, hx⟩
        have hx2 := Pst_in hP _ x hx
        rw [← hPd] at hx
        have := hz x.toNat (by omega)
        rw [show ((x.toNat : Nat) : Int) = x by omega] at this
        exact this hx)
      (by
        intro _ i hi hz ih
        have hl2 := hs.1
        have hr := hs.2 i (by omega)
        refine Ev.step (fun k => by rw [spec_l5Fits.l3]) ?_
        rw [wsucc (n := n + 1) hi (by omega)]
        refine ev_pos (by omega) (ev_pos (by omega) (ev_pos (by omega) (ev_ite (fun c => ev_val ?_) (fun c => ?_))))
        · have := hr.1 c
          rw [hPd] at this
          exact (bl_true ⟨_, this⟩).symm
        · refine ih () fun z hz2 => ?_
          by_cases e : z = i
          · subst e; exact fun hp => c (hr.2 hp)
          · exact hz z (by omega))
    exact key () 0 (by omega) fun z hz => by omega
  have k1 := up_ev (σ := List Bool) l.length (fun k s i => spec_l5Fits.l1 k l (n : Int) s i) (fun _ _ => bl (Fit l (n : Int))) (fun s i => Rep s (n : Int) (P i))
    (by
      intro s hs
      refine Ev.step (fun k => by rw [spec_l5Fits.l1]) ?_
      exact ev_neg (by omega) (k3 s hs))
    (by
      intro s i hi hs ih
      have ha := h.1.at hi
      have hsl := hs.1
      have w1 : wrap64 ((n : Int) + 1) = (n : Int) + 1 := wid (by omega) (by omega)
      have wi : wrap64 ((i : Int) + 1) = ((i + 1 : Nat) : Int) := wsucc hi (by omega)
      have k2 := up_ev (σ := List Bool) (n + 1) (fun k t y => spec_l5Fits.l2 k l (n : Int) s (i : Int) t y) (fun _ _ => bl (Fit l (n : Int))) (fun t y => Rep t (n : Int) (Qst (P i) (rd l (i : Int)) (y : Int)))
        (by
          intro t ht
          refine Ev.step (fun k => by rw [spec_l5Fits.l2]) (ev_neg (by omega) ?_)
          rw [wi]
          refine ih t (ht.congr fun z z0 z1 => ?_)
          rw [hPd, show ((n + 1 : Nat) : Int) = (n : Int) + 1 by omega]
          exact Qst_full hP i z z0 z1)
        (by
          intro t y hy ht ihy
          have htl := ht.1
          have hr := hs.2 y (by omega)
          have wy : wrap64 ((y : Int) + 1) = ((y + 1 : Nat) : Int) := wsucc (n := n + 1) hy (by omega)
          have wa : wrap64 ((y : Int) + rd l (i : Int)) = (y : Int) + rd l (i : Int) := wid (by omega) (by omega)
          have wb : wrap64 ((y : Int) - rd l (i : Int)) = (y : Int) - rd l (i : Int) := wid (by omega) (by omega)
          have e1 : ((y + 1 : Nat) : Int) = (y : Int) + 1 := by omega
          refine Ev.step (fun k => by rw [spec_l5Fits.l2]) ?_
          refine ev_pos (by omega) (ev_pos (by omega) (ev_pos (by omega) ?_))
          by_cases hp : P i (y : Int)
          · have hrt := hr.2 hp
            have hfin : ∀ t2 : List Bool, Rep t2 (n : Int) (fun z => z = (y : Int) + rd l (i : Int) ∧ (y : Int) + rd l (i : Int) ≤ n ∨ Qst (P i) (rd l (i : Int)) (y : Int) z) → Ev (fun k => if 0 ≤ (y : Int) then (if (y : Int) < (s.length : Int) then (if rdOf false s (y : Int) = true then (if (y : Int) ≥ (rd l (i : Int)) then (if 0 ≤ (wrap64 ((y : Int) - (rd l (i : Int)))) then (if (wrap64 ((y : Int) - (rd l (i : Int)))) < (t.length : Int) then (spec_l5Fits.l2 k l (n : Int) s (i : Int) (t2.set ((wrap64 ((y : Int) - (rd l (i : Int)))) : Int).toNat true) (wrap64 ((y : Int) + 1))) else (none)) else (none)) else (spec_l5Fits.l2 k l (n : Int) s (i : Int) t2 (wrap64 ((y : Int) + 1)))) else (spec_l5Fits.l2 k l (n : Int) s (i : Int) t2 (wrap64 ((y : Int) + 1)))) else (none)) else (none)) (bl (Fit l (n : Int))) := by
              intro t2 h2
              have h2l := h2.1
              rw [wb, wy]
              refine ev_pos (by omega) (ev_pos (by omega) (ev_pos hrt (ev_ite (fun c => ?_) (fun c => ?_))))
              · refine ev_pos (by omega) (ev_pos (by omega) (ihy _ ?_))
                refine (h2.set ((y : Int) - rd l (i : Int)) (by omega) (by omega)).congr fun z z0 z1 => ?_
                rw [e1, Qst_yes (by omega) hp]
                constructor
                · rintro (a | ⟨a, b⟩ | a)
                  · exact Or.inl (Or.inr a)
                  · exact Or.inl (Or.inl a)
                  · exact Or.inr a
                · rintro ((a | a) | a)
                  · exact Or.inr (Or.inl ⟨a, by omega⟩)
                  · exact Or.inl a
                  · exact Or.inr (Or.inr a)
              · refine ihy _ (h2.congr fun z z0 z1 => ?_)
                rw [e1, Qst_yes (by omega) hp]
                constructor
                · rintro (⟨a, b⟩ | a)
                  · exact Or.inl (Or.inl a)
                  · exact Or.inr a
                · rintro ((a | a) | a)
                  · exact Or.inl ⟨a, by omega⟩
                  · omega
                  · exact Or.inr a
            refine ev_pos hrt (ev_pos (by omega) (ev_pos (by omega) ?_))
            rw [wa]
            refine Ev.step (fun k => by rw [spec_l5Fits.j3]) ?_
            refine ev_ite (fun c => ?_) (fun c => ?_)
            · have c := of_decide_eq_true c
              rw [wa]
              refine ev_pos (by omega) (ev_pos (by omega) (ev_pos (by omega) (ev_pos (by omega) (ev_opt rfl ?_))))
              refine hfin (t.set ((y : Int) + rd l (i : Int)).toNat true) ?_
              refine (ht.set ((y : Int) + rd l (i : Int)) (by omega) (by omega)).congr fun z z0 z1 => ?_
              constructor
              · rintro (a | a)
                · exact Or.inl ⟨a, c⟩
                · exact Or.inr a
              · rintro (⟨a, b⟩ | a)
                · exact Or.inl a
                · exact Or.inr a
            · have c : ¬ ((y : Int) + rd l (i : Int) ≤ n) := fun h => c (decide_eq_true h)
              have hh := hfin t (ht.congr fun z z0 z1 => ⟨fun a => Or.inr a, fun a => a.elim (fun b => absurd b.2 c) id⟩)
              refine ev_pos (by omega) (ev_pos (by omega) (ev_pos hrt (ev_pos (by omega) (ev_pos (by omega) ?_))))
              obtain ⟨K, hh⟩ := hh
              refine ⟨K, fun k hk => ?_⟩
              have hh := hh k hk
              dsimp only at hh
              rw [if_pos (by omega), if_pos (by omega), if_pos hrt] at hh
              exact hh
          · have hrt : ¬ rdOf false s (y : Int) = true := fun c => hp (hr.1 c)
            refine ev_neg hrt ?_
            refine Ev.step (fun k => by rw [spec_l5Fits.j3]) ?_
            refine ev_neg (by simp) (ev_pos (by omega) (ev_pos (by omega) (ev_neg hrt ?_)))
            rw [wy]
            refine ihy t (ht.congr fun z z0 z1 => ?_)
            rw [e1, Qst_no (by omega) hp])
      refine Ev.step (fun k => by rw [spec_l5Fits.l1]) ?_
      rw [w1]
      refine ev_pos (by omega) (ev_pos (by omega) (ev_pos (by omega) ?_))
      exact k2 _ 0 (by omega) (Rep.empty (n : Int) (by omega) _ fun z _ => Qst_zero _ _ z))
  have k0 := up_ev (σ := List Bool) (n + 1) (fun k s y => spec_l5Fits.l0 k l (n : Int) s y) (fun _ _ => bl (Fit l (n : Int))) (fun s y => Rep s (n : Int) (fun z => z < (y : Int)))
    (by
      intro s hs
      refine Ev.step (fun k => by rw [spec_l5Fits.l0]) (ev_neg (by omega) ?_)
      refine k1 s 0 (by omega) (hs.congr fun z z0 z1 => ?_)
      rw [hPd]
      show z < ((n + 1 : Nat) : Int) ↔ (0 ≤ z ∧ z ≤ (n : Int))
      omega)
    (by
      intro s y hy hs ih
      have hsl := hs.1
      refine Ev.step (fun k => by rw [spec_l5Fits.l0]) ?_
      rw [wsucc (n := n + 1) hy (by omega)]
      refine ev_pos (by omega) (ev_pos (by omega) (ev_pos (by omega) (ih _ ?_)))
      refine (hs.set (y : Int) (by omega) (by omega)).congr fun z z0 z1 => ?_
      omega)
  refine Ev.congr (fun k => by rw [spec_l5Fits.f]) ?_
  rw [wid (x := (n : Int) + 1) (by omega) (by omega)]
  refine ev_pos (by omega) (ev_pos (by omega) ?_)
  exact k0 _ 0 (by omega) (Rep.empty (n : Int) (by omega) _ fun z z0 => by show ¬ z < ((0 : Nat) : Int); omega)

theorem spec_FoldFits_ev (l : List Int) (sp : Int) (hn : l.length ≤ 1000000000000000) : Ev (fun k => spec_FoldFits.f k l sp) (bl (Rul l ∧ 0 ≤ sp ∧ Fit l sp)) := by
  refine Ev.congr (fun k => by rw [spec_FoldFits.f]) (Ev.bind (spec_l5Ruler_ev l hn) (ev_ite (fun c => ?_) (fun c => ev_val ?_)))
  · have h := bl_iff.1 c
    have htot := h.tot
    refine ev_ite (fun c1 => ?_) (fun c1 => ev_val ?_)
    · have hmn : 0 ≤ mn sp (tot l) ∧ mn sp (tot l) ≤ 540 := by unfold mn; split <;> omega
      refine Ev.bind (spec_l1Sum_ev l h) (Ev.bind (spec_l5Fits_ev l h _ hmn.1 (by omega)) (ev_val ?_))
      exact bl_congr ⟨fun hh => ⟨h, c1, (Fit_min h sp c1).1 hh⟩, fun hh => (Fit_min h sp c1).2 hh.2.2⟩
    · exact (bl_false fun h => c1 h.2.1).symm
  · exact (bl_false fun h => c (bl_true h.1)).symm

theorem impl_foldingsS_ev (l : List Int) (h : Rul l) (st : Nat → Int) (hst : ∀ s : Nat, s < 2 ^ l.length → impl_FoldSpan_1.f (st s) (strOfNums (txtM l.length s l.length)) (endM l s l.length).1 (spanM l s) = some (st (s + 1))) : Ev (fun k => impl_foldingsS.f k l (st 0)) (st (2 ^ l.length)) := by
  have hl := h.len
  have hp : 2 ^ l.length ≤ 2 ^ 9 := Nat.pow_le_pow_right (by decide) hl.2
  refine Ev.congr (fun k => by rw [impl_foldingsS.f, shl_one hl.2]) ?_
  generalize 2 ^ l.length = N at hst hp ⊢
  have key := up_ev (σ := Int) N (fun k s i => impl_foldingsS.l0 k l s (N : Int) i) (fun _ _ => st N) (fun s i => s = st i)
    (by
      intro s hs
      exact Ev.step (fun k => by rw [impl_foldingsS.l0]) (ev_neg (by omega) (ev_val hs)))
    (by
      intro s i hi hs ih
      refine Ev.step (fun k => by rw [impl_foldingsS.l0]) (ev_pos (by omega) ?_)
      have inner := up_ev (σ := List Int × Int × Int × Int) l.length (fun k q j => impl_foldingsS.l1 k l s (i : Int) q.1 q.2.1 q.2.2.1 q.2.2.2 (N : Int) (i : Int) l (l.length : Int) j) (fun _ _ => st N) (fun q j => q = (txtM l.length i j, endM l i j))
        (by
          intro q hq
          have hb := endM_bd h i l.length (Nat.le_refl _)
          have e1 : q.1 = txtM l.length i l.length := by rw [hq]
          have e2 : q.2 = endM l i l.length := by rw [hq]
          refine Ev.step (fun k => by rw [impl_foldingsS.l1]) (ev_neg (by omega) ?_)
          have hc := hst i hi
          unfold spanM at hc
          rw [e1, e2, hs]
          rw [← e2] at hb hc ⊢
          rw [wid (x := q.2.2.2 - q.2.2.1) (by omega) (by omega)]
          refine ev_opt hc ?_
          rw [wsucc hi (by omega)]
          exact ih _ rfl)
        (by
          intro q j hj hq ihj
          have hb := endM_bd h i j (by omega)
          have hx := h.1.at hj
          have hbit := bit_at hl.2 hj (show i ≤ 512 by omega)
          have hix := idx_at hl.2 hj
          have e : endM l i (j + 1) = if bitM l.length i j = 0 then ((endM l i j).1 + rd l (j : Int), mn (endM l i j).2.1 ((endM l i j).1 + rd l (j : Int)), mx (endM l i j).2.2 ((endM l i j).1 + rd l (j : Int))) else ((endM l i j).1 - rd l (j : Int), mn (endM l i j).2.1 ((endM l i j).1 - rd l (j : Int)), mx (endM l i j).2.2 ((endM l i j).1 - rd l (j : Int))) := rfl
          have et : txtM l.length i (j + 1) = txtM l.length i j ++ [if bitM l.length i j = 0 then 114 else 108] := rfl
          have hbt := bitM_lt l.length i j
          have htl := txtM_len l.length i j
          have e1 : q.1 = txtM l.length i j := by rw [hq]
          have e2 : q.2 = endM l i j := by rw [hq]
          rw [← e2] at hb e
          rw [← e1] at et htl
          refine Ev.step (fun k => by rw [impl_foldingsS.l1]) ?_
          rw [hbit, hix, wsucc hj (by omega), wid (x := q.2.1 + rd l (j : Int)) (by omega) (by omega), wid (x := q.2.1 - rd l (j : Int)) (by omega) (by omega)]
          refine ev_pos (by omega) (ev_pos (by omega) (ev_pos (by omega) (ev_pos (by omega) (ev_ite (fun c => ?_) (fun c => ?_)))))
          · rw [if_pos (by omega)] at e et
            refine ev_pos (by omega) (ihj (_, _, _, _) ?_)
            rw [et, e]; rfl
          · rw [if_neg (by omega)] at e et
            refine ev_pos (by omega) (ihj (_, _, _, _) ?_)
            rw [et, e]; rfl)
      exact inner ([], 0, 0, 0) 0 (by omega) rfl)
  exact key _ 0 (by omega) rfl

theorem impl_FoldSpan_ev (l : List Int) (hn : l.length ≤ 1000000000000000) : Ev (fun k => impl_FoldSpan.f k l) (bif bl (Rul l) then ((leastM l (2 ^ l.length)).1, true) else (0, false)) := by
  refine Ev.congr (fun k => by rw [impl_FoldSpan.f]) (Ev.bind (impl_isRuler_ev l hn) (ev_ite (fun c => ?_) (fun c => ev_val ?_)))
  · have h := bl_iff.1 c
    have hl := h.len
    rw [c]
    have e0 : ∀ n : Nat, foldTo (fun a s => mn a (spanM l s)) (tot l) (n + 1) = (leastM l (n + 1)).1 := fun n => least_fold h n
    refine Ev.bind (impl_sum_ev l h) ?_
    refine Ev.bind (impl_foldingsS_ev l h (foldTo (fun a s => mn a (spanM l s)) (tot l)) ?_) (ev_val ?_)
    · intro s hs
      rfl
    · obtain ⟨n, hn⟩ : ∃ n, 2 ^ l.length = n + 1 := ⟨2 ^ l.length - 1, by have := Nat.two_pow_pos l.length; omega⟩
      rw [hn, e0 n]; rfl
  · rw [Bool.not_eq_true] at c
    rw [c]; rfl

theorem FnFits : laws_FnFits.Pure := by
  intro l0 hm h8 hw
  refine Ev.rounds (g := fun k => laws_FnFits.f k l0) ?_
  refine Ev.congr (fun k => by rw [laws_FnFits.f]) ?_
  refine ev_ite (fun c => ev_val rfl) (fun c => ?_)
  obtain ⟨a, d, em, m1, m2, m3⟩ := spec_DrawFoldFits_ev l0 (fun x hx => wf8 (hw x hx))
  have hn : a.length ≤ 1000000000000000 := by omega
  refine Ev.bind em (Ev.bind (impl_FoldFits_ev a d hn) (Ev.bind (spec_FoldFits_ev a d hn) ?_))
  refine ev_neg (by simp) ?_
  by_cases h : Rul a ∧ 0 ≤ d ∧ Fit a d
  · rw [bl_true h]
    have es := impl_FoldSpan_ev a hn
    rw [bl_true h.1] at es
    refine Ev.step (fun k => by rw [laws_FnFits.j0]) (ev_neg (by simp) (Ev.bind es (ev_pos rfl (ev_pos ((least_fit h.1 d).2 h.2.2) (ev_ite (fun c1 => ev_val rfl) (fun c1 => ?_))))))
    rw [wid (x := d + 1) (by omega) (by omega)]
    have ef := impl_FoldFits_ev a (d + 1) hn
    rw [bl_true ⟨h.1, by omega, Fit_mono (by omega) h.2.2⟩] at ef
    exact Ev.bind ef (ev_val rfl)
  · rw [bl_false h]
    refine Ev.step (fun k => by rw [laws_FnFits.j0]) ?_
    exact ev_pos rfl (ev_val rfl)

end Go.Proofs.Ytiogpecgmbpmlaa.Pure
