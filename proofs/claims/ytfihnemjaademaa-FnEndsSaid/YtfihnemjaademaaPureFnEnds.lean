/- The plain part of the proof that the law FnEnds answers true for every input: what its printed functions compute answers true, for all lists and numbers that the walk hands over; no condition beyond those. -/
import Derived.Test.YtfihnemjaademaaPDx15
import Derived.Test.YtfihnemjaademaaM
import Derived.Test.YtfihnemjaademaaMf
import Derived.Test.YtfihnemjaademaaMe
namespace Go.Proofs.Ytfihnemjaademaa.Pure
open Go.RowKit Go.Proofs.Ytfihnemjaademaa.PD Go.Proofs.YtfihnemjaademaaW.PrintWords Go.Proofs.YtfihnemjaademaaW.PrintLast Go.Proofs.YtfihnemjaademaaW.PrintMore Go.Proofs.Ytfihnemjaademaa.M
set_option linter.unusedVariables false
set_option linter.unusedSimpArgs false
set_option maxRecDepth 4000

theorem spec_pick_ev (l : List Int) (p n : Int) (hl : l.length ≤ 2000) (hb : ∀ x ∈ l, 0 ≤ x ∧ x ≤ 255) (hp0 : 0 ≤ p) (hp1 : p ≤ 1000000) :
    ∃ v : Int, Ev (fun k => spec_l6Rd_pick.f k l p n) (v, p + 1) ∧ 0 ≤ v ∧ (v < n ∨ v = 0) := by
  have hw : wrap64 (p + 1) = p + 1 := wid (by omega) (by omega)
  by_cases hn : n < 1
  · refine ⟨0, ?_, by omega, Or.inr rfl⟩
    refine Ev.congr (fun k => by rw [spec_l6Rd_pick.f]) (ev_pos hn ?_)
    refine Ev.step (fun k => by rw [spec_l6Rd_pick.j0]) (ev_pos rfl (ev_val ?_))
    rw [hw]
  · by_cases h0 : l.length = 0
    · refine ⟨0, ?_, by omega, Or.inr rfl⟩
      refine Ev.congr (fun k => by rw [spec_l6Rd_pick.f]) (ev_neg hn ?_)
      have e : ((l.length : Int) == 0) = true := by rw [beq_iff_eq]; omega
      rw [e]
      refine Ev.step (fun k => by rw [spec_l6Rd_pick.j0]) (ev_pos rfl (ev_val ?_))
      rw [hw]
    · have e : ((l.length : Int) == 0) = false := by rw [beq_eq_false_iff_ne]; omega
      have hw2 : wrap64 (p + 1 - 1) = p := by rw [wid (by omega) (by omega)]; omega
      have tm : ∀ a : Int, 0 ≤ a → 0 ≤ Int.tmod a n ∧ Int.tmod a n < n := fun a ha => by
        rw [Int.tmod_eq_emod_of_nonneg ha]
        exact ⟨Int.emod_nonneg _ (by omega), Int.emod_lt_of_pos _ (by omega)⟩
      have rb : ∀ i : Int, 0 ≤ i → i < l.length → 0 ≤ rd l i ∧ rd l i ≤ 255 := fun i h0 h1 => by
        obtain ⟨j, rfl⟩ := Int.eq_ofNat_of_zero_le h0
        exact hb _ (rd_mem (by omega))
      by_cases hk : p < (l.length : Int)
      · have hr := rb p hp0 hk
        refine ⟨Int.tmod (wrap64 (rd l p)) n, ?_, ?_, ?_⟩
        · refine Ev.congr (fun k => by rw [spec_l6Rd_pick.f]) (ev_neg hn ?_)
          rw [e, hw]
          refine Ev.step (fun k => by rw [spec_l6Rd_pick.j0]) (ev_neg (by simp) ?_)
          rw [hw2]
          exact ev_pos hk (ev_pos hp0 (ev_neg (by omega) (ev_val rfl)))
        · rw [wid (by omega) (by omega)]; exact (tm _ hr.1).1
        · rw [wid (by omega) (by omega)]; exact Or.inl (tm _ hr.1).2
      · have tl : ∀ a : Int, 0 ≤ a → 0 ≤ Int.tmod a (l.length : Int) ∧ Int.tmod a (l.length : Int) < (l.length : Int) := fun a ha => by
          rw [Int.tmod_eq_emod_of_nonneg ha]
          exact ⟨Int.emod_nonneg _ (by omega), Int.emod_lt_of_pos _ (by omega)⟩
        have h1 := tl p hp0
        have hw3 : wrap64 (p * 7) = p * 7 := wid (by omega) (by omega)
        have hw4 : wrap64 (p * 7 + 3) = p * 7 + 3 := wid (by omega) (by omega)
        have h2 := tl (p * 7 + 3) (by omega)
        have r1 := rb _ h1.1 h1.2
        have r2 := rb _ h2.1 h2.2
        generalize hA : Int.tmod p (l.length : Int) = A at *
        generalize hB : Int.tmod (p * 7 + 3) (l.length : Int) = B at *
        have hq : 0 ≤ Int.tdiv p (l.length : Int) ∧ Int.tdiv p (l.length : Int) ≤ 1000000 := by
          rw [Int.tdiv_eq_ediv_of_nonneg hp0]
          exact ⟨Int.ediv_nonneg hp0 (by omega), Int.le_trans (Int.ediv_le_self _ hp0) hp1⟩
        generalize hQ : Int.tdiv p (l.length : Int) = Q at *
        have hx : wrap64 (wrap64 (wrap64 (wrap64 (wrap64 (rd l A) * 131) + wrap64 (wrap64 (rd l B) * 1117)) + wrap64 (p * 29)) + wrap64 (wrap64 Q * 53)) = rd l A * 131 + rd l B * 1117 + p * 29 + Q * 53 := by
          rw [wid (x := rd l A) (by omega) (by omega), wid (x := rd l B) (by omega) (by omega), wid (x := Q) (by omega) (by omega), wid (x := rd l A * 131) (by omega) (by omega), wid (x := rd l B * 1117) (by omega) (by omega), wid (x := p * 29) (by omega) (by omega), wid (x := Q * 53) (by omega) (by omega)]
          rw [wid (x := rd l A * 131 + rd l B * 1117) (by omega) (by omega), wid (x := rd l A * 131 + rd l B * 1117 + p * 29) (by omega) (by omega), wid (by omega) (by omega)]
        obtain ⟨X, hX⟩ : ∃ X, X = rd l A * 131 + rd l B * 1117 + p * 29 + Q * 53 := ⟨_, rfl⟩
        have hX0 : 0 ≤ X ∧ X < 1099511627776 := by omega
        have hd : 0 ≤ Int.tdiv X 64 ∧ Int.tdiv X 64 < 1099511627776 := by
          rw [Int.tdiv_eq_ediv_of_nonneg hX0.1]
          omega
        have hb := xor_nonneg X (Int.tdiv X 64) hX0.1 hX0.2 hd.1 hd.2
        refine ⟨Int.tmod (Go.bits .xor .i64 X (Int.tdiv X 64)) n, ?_, (tm _ hb).1, Or.inl (tm _ hb).2⟩
        refine Ev.congr (fun k => by rw [spec_l6Rd_pick.f]) (ev_neg hn ?_)
        rw [e, hw]
        refine Ev.step (fun k => by rw [spec_l6Rd_pick.j0]) (ev_neg (by simp) ?_)
        rw [hw2, hw3, hw4, hA, hB, hQ, hx, ← hX, wid (x := Int.tdiv X 64) (by omega) (by omega)]
        exact ev_neg hk (ev_neg (by omega) (ev_pos h1.1 (ev_pos h1.2 (ev_pos h2.1 (ev_pos h2.2 (ev_neg (by omega) (ev_val rfl)))))))

theorem spec_l91Length_ev (l : List Int) (p : Int) (hl : l.length ≤ 2000) (hb : ∀ x ∈ l, 0 ≤ x ∧ x ≤ 255) (hp0 : 0 ≤ p) (hp1 : p ≤ 100000) :
    ∃ v : Int, Ev (fun k => spec_l91Length.f k l p) (v, p + 3) ∧ 1 ≤ v ∧ v ≤ 60 := by
  obtain ⟨v1, e1, a1, b1⟩ := spec_pick_ev l p 12 hl hb hp0 (by omega)
  obtain ⟨v2, e2, a2, b2⟩ := spec_pick_ev l (p + 1) 6 hl hb (by omega) (by omega)
  obtain ⟨v3, e3, a3, b3⟩ := spec_pick_ev l (p + 1 + 1) 48 hl hb (by omega) (by omega)
  have h2 : 0 ≤ Int.tdiv v2 5 ∧ Int.tdiv v2 5 ≤ 1 := by
    rw [Int.tdiv_eq_ediv_of_nonneg a2]
    omega
  have h3 : 0 ≤ Int.tdiv v2 5 * v3 ∧ Int.tdiv v2 5 * v3 ≤ 47 := by
    generalize Int.tdiv v2 5 = q at *
    rcases (by omega : q = 0 ∨ q = 1) with rfl | rfl <;> omega
  refine ⟨1 + v1 + Int.tdiv v2 5 * v3, ?_, by omega, by omega⟩
  refine Ev.congr (fun k => by rw [spec_l91Length.f]) (Ev.bind e1 ?_)
  refine Ev.bind e2 ?_
  refine Ev.bind e3 (ev_val ?_)
  show (wrap64 (wrap64 (1 + v1) + wrap64 (wrap64 (Int.tdiv v2 5) * v3)), p + 1 + 1 + 1) = _
  rw [wid (x := Int.tdiv v2 5) (by omega) (by omega), wid (x := Int.tdiv v2 5 * v3) (by omega) (by omega), wid (x := 1 + v1) (by omega) (by omega), wid (by omega) (by omega)]
  congr 1
  omega

theorem spec_l6Open_ev (l : List Int) : ∃ m : List Int, spec_l6Open.f l = some (m, 0) ∧ m.length ≤ 2000 ∧ (∀ x ∈ m, x ∈ l) := by
  unfold spec_l6Open.f
  by_cases h : (l.length : Int) > 2000
  · rw [if_pos h, if_pos (by omega)]
    exact ⟨_, rfl, by simp; omega, fun x hx => List.mem_of_mem_take hx⟩
  · rw [if_neg h]
    exact ⟨_, rfl, by omega, fun x hx => hx⟩

theorem spec_l91Ruler_ev (l : List Int) (p : Int) (most : Int) (hl : l.length ≤ 2000) (hb : ∀ x ∈ l, 0 ≤ x ∧ x ≤ 255) (hp0 : 0 ≤ p) (hp1 : p ≤ 5000) (hm : 1 ≤ most ∧ most ≤ 100) :
    ∃ (m : List Int) (q : Int), Ev (fun k => spec_l91Ruler.f k l p most) (m, q) ∧ m.length ≤ 101 ∧ (p ≤ q ∧ q ≤ p + 400) := by
  obtain ⟨v, e1, v1, v2⟩ := spec_pick_ev l p most hl hb hp0 (by omega)
  obtain ⟨n, hn⟩ : ∃ n : Nat, 1 + v = (n : Int) := ⟨(1 + v).toNat, by omega⟩
  have w1 : Aside0 (wrap64 (1 + v) = (n : Int)) := ⟨by rw [wid (by omega) (by omega)]; exact hn⟩
  have hn1 : 1 ≤ n ∧ n ≤ 100 := by omega
  have key : ∀ (d i : Nat) (s : List Int) (c : Int), i + d = n → s.length = i → (p ≤ c ∧ c ≤ p + 1 + 3 * i) → ∃ r : List Int × Int, Ev (fun k => spec_l91Ruler.l0 k s (n : Int) (i : Int) l c) r ∧ r.1.length ≤ 101 ∧ (p ≤ r.2 ∧ r.2 ≤ p + 400) := by
    intro d
    induction d with
    | zero =>
      intro i s c hd hs hc
      obtain ⟨u, eu, u1, u2⟩ := spec_pick_ev l c 30 hl hb (by omega) (by omega)
      by_cases c0 : u = 0
      · obtain ⟨g, eg, g1, g2⟩ := spec_pick_ev l (c + 1) (n : Int) hl hb (by omega) (by omega)
        obtain ⟨f, ef, f1, f2⟩ := spec_pick_ev l (c + 1 + 1) 2 hl hb (by omega) (by omega)
        refine ⟨(s.set g.toNat (wrap64 (f * 61)), c + 1 + 1 + 1), ?_, by simp; omega, by simp only []; omega⟩
        refine Ev.step (fun k => by rw [spec_l91Ruler.l0]) (ev_neg (by omega) ?_)
        refine Ev.bind eu (ev_pos c0 ?_)
        refine Ev.bind eg ?_
        refine Ev.bind ef ?_
        exact ev_pos g1 (ev_pos (by show g < (s.length : Int); omega) (ev_val rfl))
      · refine ⟨(s, c + 1), ?_, by show s.length ≤ 101; omega, by simp only []; omega⟩
        refine Ev.step (fun k => by rw [spec_l91Ruler.l0]) (ev_neg (by omega) ?_)
        exact Ev.bind eu (ev_neg c0 (ev_val rfl))
    | succ d ih =>
      intro i s c hd hs hc
      obtain ⟨u, eu, u1, u2⟩ := spec_l91Length_ev l c hl hb (by omega) (by omega)
      obtain ⟨r, e2, hr⟩ := ih (i + 1) (s ++ [u]) (c + 3) (by omega) (by simp; omega) (by omega)
      refine ⟨r, ?_, hr⟩
      refine Ev.step (fun k => by rw [spec_l91Ruler.l0]) (ev_pos (by omega) ?_)
      refine Ev.bind eu ?_
      refine ev_pos (by omega) ?_
      rw [wsucc (i := i) (n := 101) (by omega) (by omega)]
      exact e2
  obtain ⟨⟨m, q⟩, e2, h1, h2⟩ := key n 0 [] (p + 1) (by omega) rfl (by omega)
  refine ⟨m, q, ?_, h1, h2⟩
  refine Ev.congr (fun k => by rw [spec_l91Ruler.f]) ?_
  refine Ev.bind e1 ?_
  rw [w1.out]
  exact e2

theorem spec_l91Rule_ev (l : List Int) (hb : ∀ x ∈ l, 0 ≤ x ∧ x ≤ 255) : ∃ m : List Int, Ev (fun k => spec_l91Rule.f k l) m ∧ m.length ≤ 101 := by
  obtain ⟨c, hc, hc1, hc2⟩ := spec_l6Open_ev l
  obtain ⟨m, q, e, h1, _⟩ := spec_l91Ruler_ev c 0 8 hc1 (fun x hx => hb x (hc2 x hx)) (by omega) (by omega) (by omega)
  refine ⟨m, ?_, h1⟩
  refine Ev.congr (fun k => by rw [spec_l91Rule.f]) ?_
  refine ev_opt hc ?_
  exact Ev.bind e (ev_val rfl)

theorem impl_isRuler_ev (l : List Int) (hn : l.length ≤ 1000000000000000) : Ev (fun k => impl_isRuler.f k l) (bl (Rul l)) := by
  have key := up_ev (σ := Unit) l.length (fun k _ i => impl_isRuler.l0 k l l (l.length : Int) i) (fun _ i => bl (Ok l i ∧ Len9 l)) (fun _ _ => True)
    (by
      intro _ _
      refine Ev.step (fun k => by rw [impl_isRuler.l0]) ?_
      refine ev_neg (by omega) (ev_ite (fun c => ev_val ?_) (fun c => ev_val ?_))
      · refine bl_dec ⟨fun h => ⟨fun j hj hl => by omega, by unfold Len9; omega⟩, fun h => ?_⟩
        have := h.2
        unfold Len9 at this
        omega
      · refine (bl_false fun h => ?_).symm
        have := h.2
        unfold Len9 at this
        omega)
    (by
      intro _ i hi _ ih
      have h1 := ih () trivial
      refine Ev.step (fun k => by rw [impl_isRuler.l0]) ?_
      refine ev_pos (by omega) (ev_pos (by omega) (ev_pos (by omega) ?_))
      refine ev_ite (fun c => ev_val ?_) (fun c => ev_ite (fun c2 => ev_val ?_) (fun c2 => ?_))
      · refine (bl_false fun h => ?_).symm
        have := h.1 i (by omega) hi
        omega
      · refine (bl_false fun h => ?_).symm
        have := h.1 i (by omega) hi
        omega
      · rw [wsucc hi hn]
        exact ev_eq h1 (bl_congr ⟨fun h => ⟨h.1.cons (by omega) (by omega), h.2⟩, fun h => ⟨h.1.tail, h.2⟩⟩))
  refine Ev.congr (fun k => by rw [impl_isRuler.f]) ?_
  refine ev_eq (key () 0 (by omega) trivial) (bl_congr ?_)
  exact ⟨fun h => ⟨h.1, h.2⟩, fun h => ⟨h.1, h.2⟩⟩

theorem impl_foldingsE_ev (l : List Int) (h : Rul l) (st : Nat → List Int) (hst : ∀ s : Nat, s < 2 ^ l.length → impl_FoldEnds_1.f (st s) (strOfNums (txtM l.length s l.length)) (endM l s l.length).1 (spanM l s) = some (st (s + 1))) : Ev (fun k => impl_foldingsE.f k l (st 0)) (st (2 ^ l.length)) := by
  have hl := h.len
  have hp : 2 ^ l.length ≤ 2 ^ 9 := Nat.pow_le_pow_right (by decide) hl.2
  refine Ev.congr (fun k => by rw [impl_foldingsE.f, shl_one hl.2]) ?_
  generalize 2 ^ l.length = N at hst hp ⊢
  have key := up_ev (σ := List Int) N (fun k s i => impl_foldingsE.l0 k l s (N : Int) i) (fun _ _ => st N) (fun s i => s = st i)
    (by
      intro s hs
      exact Ev.step (fun k => by rw [impl_foldingsE.l0]) (ev_neg (by omega) (ev_val hs)))
    (by
      intro s i hi hs ih
      refine Ev.step (fun k => by rw [impl_foldingsE.l0]) (ev_pos (by omega) ?_)
      have inner := up_ev (σ := List Int × Int × Int × Int) l.length (fun k q j => impl_foldingsE.l1 k l s (i : Int) q.1 q.2.1 q.2.2.1 q.2.2.2 (N : Int) (i : Int) l (l.length : Int) j) (fun _ _ => st N) (fun q j => q = (txtM l.length i j, endM l i j))
        (by
          intro q hq
          have hb := endM_bd h i l.length (Nat.le_refl _)
          have e1 : q.1 = txtM l.length i l.length := by rw [hq]
          have e2 : q.2 = endM l i l.length := by rw [hq]
          refine Ev.step (fun k => by rw [impl_foldingsE.l1]) (ev_neg (by omega) ?_)
          have hc := hst i hi
          unfold spanM at hc
          rw [e1, e2, hs]
          rw [← e2] at hb hc ⊢
          rw [wid (x := q.2.2.2 - q.2.2.1) (by omega) (by omega)]
          refine ev_opt hc ?_
          rw [wsucc hi (by omega)]
          exact ih _ rfl)
        (by
          intro q j hj hq ihj
          have hb := endM_bd h i j (by omega)
          have hx := h.1.at hj
          have hbit := bit_at hl.2 hj (show i ≤ 512 by omega)
          have hix := idx_at hl.2 hj
          have e : endM l i (j + 1) = if bitM l.length i j = 0 then ((endM l i j).1 + rd l (j : Int), mn (endM l i j).2.1 ((endM l i j).1 + rd l (j : Int)), mx (endM l i j).2.2 ((endM l i j).1 + rd l (j : Int))) else ((endM l i j).1 - rd l (j : Int), mn (endM l i j).2.1 ((endM l i j).1 - rd l (j : Int)), mx (endM l i j).2.2 ((endM l i j).1 - rd l (j : Int))) := rfl
          have et : txtM l.length i (j + 1) = txtM l.length i j ++ [if bitM l.length i j = 0 then 114 else 108] := rfl
          have hbt := bitM_lt l.length i j
          have htl := txtM_len l.length i j
          have e1 : q.1 = txtM l.length i j := by rw [hq]
          have e2 : q.2 = endM l i j := by rw [hq]
          rw [← e2] at hb e
          rw [← e1] at et htl
          refine Ev.step (fun k => by rw [impl_foldingsE.l1]) ?_
          rw [hbit, hix, wsucc hj (by omega), wid (x := q.2.1 + rd l (j : Int)) (by omega) (by omega), wid (x := q.2.1 - rd l (j : Int)) (by omega) (by omega)]
          refine ev_pos (by omega) (ev_pos (by omega) (ev_pos (by omega) (ev_pos (by omega) (ev_ite (fun c => ?_) (fun c => ?_)))))
          · rw [if_pos (by omega)] at e et
            refine ev_pos (by omega) (ihj (_, _, _, _) ?_)
            rw [et, e]; rfl
          · rw [if_neg (by omega)] at e et
            refine ev_pos (by omega) (ihj (_, _, _, _) ?_)
            rw [et, e]; rfl)
      exact inner ([], 0, 0, 0) 0 (by omega) rfl)
  exact key _ 0 (by omega) rfl

theorem impl_FoldEnds_ev (l : List Int) (hn : l.length ≤ 1000000000000000) : Ev (fun k => impl_FoldEnds.f k l) (bif bl (Rul l) then (endsM l, true) else ([], false)) := by
  refine Ev.congr (fun k => by rw [impl_FoldEnds.f]) (Ev.bind (impl_isRuler_ev l hn) (ev_ite (fun c => ?_) (fun c => ev_val ?_)))
  · have h := bl_iff.1 c
    have hl := h.len
    rw [c]
    have hp : 2 ^ l.length ≤ 2 ^ 9 := Nat.pow_le_pow_right (by decide) hl.2
    refine Ev.bind (impl_foldingsE_ev l h (endsTo l) ?_) ?_
    · intro s hs
      have hw := endsTo_len l s
      generalize 2 ^ l.length = N at hs hp
      have e : endsTo l (s + 1) = if (endM l s l.length).1 ≥ 0 then endsTo l s ++ [(endM l s l.length).1] else endsTo l s := rfl
      unfold impl_FoldEnds_1.f
      rw [e]
      by_cases c : (endM l s l.length).1 ≥ 0
      · rw [if_pos c, if_pos c, if_pos (by omega)]
      · rw [if_neg c, if_neg c]
    · have hw := endsTo_len l (2 ^ l.length)
      exact ev_pos (by omega) (ev_val rfl)
  · rw [Bool.not_eq_true] at c
    rw [c]; rfl

theorem l6In_eq (a b c : Int) : spec_l6In.f a b c = some (decide (b ≤ a ∧ a ≤ c)) := by
  unfold spec_l6In.f
  by_cases h : a ≥ b
  · rw [if_pos h]
    simp [show b ≤ a from h]
  · rw [if_neg h]
    simp [show ¬ b ≤ a from h]

theorem spec_l5Ruler_ev (l : List Int) (hn : l.length ≤ 1000000000000000) : Ev (fun k => spec_l5Ruler.f k l) (bl (Rul l)) := by
  have key := up_ev (σ := Unit) l.length (fun k _ i => spec_l5Ruler.l0 k l i) (fun _ i => bl (Ok l i ∧ Len9 l)) (fun _ _ => True)
    (by
      intro _ _
      refine Ev.step (fun k => by rw [spec_l5Ruler.l0]) ?_
      refine ev_neg (by omega) (ev_opt (l6In_eq _ _ _) (ev_val ?_))
      refine bl_dec ⟨fun h => ⟨fun j hj hl => by omega, by unfold Len9; omega⟩, fun h => ?_⟩
      have := h.2
      unfold Len9 at this
      omega)
    (by
      intro _ i hi _ ih
      have h1 := ih () trivial
      refine Ev.step (fun k => by rw [spec_l5Ruler.l0]) ?_
      refine ev_pos (by omega) (ev_pos (by omega) (ev_opt (l6In_eq _ _ _) ?_))
      refine ev_ite (fun c => ?_) (fun c => ev_val ?_)
      · have c := of_decide_eq_true c
        rw [wsucc hi hn]
        exact ev_eq h1 (bl_congr ⟨fun h => ⟨h.1.cons (by omega) (by omega), h.2⟩, fun h => ⟨h.1.tail, h.2⟩⟩)
      · refine (bl_false fun h => c (decide_eq_true ?_)).symm
        exact h.1 i (by omega) hi)
  refine Ev.congr (fun k => by rw [spec_l5Ruler.f]) ?_
  refine ev_eq (key () 0 (by omega) trivial) (bl_congr ?_)
  exact ⟨fun h => ⟨h.1, h.2⟩, fun h => ⟨h.1, h.2⟩⟩

theorem spec_l5Ends_ev (l : List Int) (h : Rul l) (s : Nat) (hs : s ≤ 512) : Ev (fun k => spec_l5Ends.f k l (s : Int)) (endM l s l.length) := by
  have hl := h.len
  have key := up_ev (σ := Int × Int × Int) l.length (fun k q j => spec_l5Ends.l0 k l (s : Int) q.1 q.2.1 q.2.2 j) (fun _ _ => endM l s l.length) (fun q j => q = endM l s j)
    (by
      intro q hq
      rw [hq]
      exact Ev.step (fun k => by rw [spec_l5Ends.l0]) (ev_neg (by omega) (ev_val rfl)))
    (by
      intro q j hj hq ih
      have hb := endM_bd h s j (by omega)
      have hx := h.1.at hj
      have hbit := bit_at hl.2 hj hs
      have hix := idx_at hl.2 hj
      have e : endM l s (j + 1) = if bitM l.length s j = 0 then ((endM l s j).1 + rd l (j : Int), mn (endM l s j).2.1 ((endM l s j).1 + rd l (j : Int)), mx (endM l s j).2.2 ((endM l s j).1 + rd l (j : Int))) else ((endM l s j).1 - rd l (j : Int), mn (endM l s j).2.1 ((endM l s j).1 - rd l (j : Int)), mx (endM l s j).2.2 ((endM l s j).1 - rd l (j : Int))) := rfl
      have hbt := bitM_lt l.length s j
      rw [← hq] at hb e
      refine Ev.step (fun k => by rw [spec_l5Ends.l0]) ?_
      rw [hbit, hix, wsucc hj (by omega), wid (x := q.1 + rd l (j : Int)) (by omega) (by omega), wid (x := q.1 - rd l (j : Int)) (by omega) (by omega)]
      refine ev_pos (by omega) (ev_pos (by omega) (ev_ite (fun c => ?_) (fun c => ?_)))
      · rw [if_neg (by omega)] at e
        exact ev_pos (by omega) (ih (_, _, _) e.symm)
      · rw [if_pos (by omega)] at e
        exact ev_pos (by omega) (ih (_, _, _) e.symm))
  refine Ev.congr (fun k => by rw [spec_l5Ends.f]) ?_
  exact key (0, 0, 0) 0 (by omega) rfl

theorem spec_l1Sum_ev (l : List Int) (h : Rul l) : Ev (fun k => spec_l1Sum.f k l) (tot l) := by
  have hl := h.len
  have key := up_ev (σ := Int) l.length (fun k s i => spec_l1Sum.l0 k l s i) (fun s i => s + tot (l.drop i)) (fun s i => 0 ≤ s ∧ s ≤ 60 * i)
    (by
      intro s _
      refine Ev.step (fun k => by rw [spec_l1Sum.l0]) ?_
      exact ev_neg (by omega) (ev_val (by rw [tot_drop_end]; omega)))
    (by
      intro s i hi hs ih
      have := h.1.at hi
      refine Ev.step (fun k => by rw [spec_l1Sum.l0]) ?_
      refine ev_pos (by omega) (ev_pos (by omega) ?_)
      rw [wsucc hi (by omega), wid (by omega) (by omega)]
      exact ev_eq (ih _ (by omega)) (by rw [tot_drop hi]; omega))
  refine Ev.congr (fun k => by rw [spec_l1Sum.f]) ?_
  exact ev_eq (key 0 0 (by omega) (by omega)) (by simp)

theorem spec_l5Reached_ev (l : List Int) (h : Rul l) : ∃ P : List Bool, Ev (fun k => spec_l5Reached.f k l) P ∧ Hits l (2 ^ l.length) P := by
  have hl := h.len
  have ht := h.tot
  have hp : 2 ^ l.length ≤ 2 ^ 9 := Nat.pow_le_pow_right (by decide) hl.2
  have hs1 := shl_one hl.2
  generalize hN : 2 ^ l.length = N at hp hs1
  have hstart : Hits l 0 (List.replicate (tot l + 1).toNat false) := Rep.empty (tot l) (by omega) _ (fun z _ q => q rfl)
  have key := up_ex (σ := List Bool) N (fun k s i => spec_l5Reached.l0 k l s i) (fun P => Hits l N P) (fun s i => Hits l i s)
    (by
      intro s hs
      refine ⟨s, Ev.step (fun k => by rw [spec_l5Reached.l0, hs1]) ?_, hs⟩
      exact ev_neg (by omega) (ev_val rfl))
    (by
      intro s i hi hs ih
      have hb := endM_bd h i l.length (Nat.le_refl _)
      have he := endM_tot h i l.length (Nat.le_refl _)
      rw [List.take_length] at he
      have hv : (endM l i l.length).1 ≤ tot l := by omega
      have hst := hits_step hs hv
      have hln := hs.1
      obtain ⟨r, e, q⟩ := ih _ hst
      refine ⟨r, Ev.step (fun k => by rw [spec_l5Reached.l0, hs1]) ?_, q⟩
      refine ev_pos (by omega) (Ev.bind (spec_l5Ends_ev l h i (by omega)) ?_)
      rw [wsucc hi (by omega)]
      refine ev_ite (fun c => ?_) (fun c => ?_)
      · rw [if_pos c] at e
        exact ev_pos (by omega) (ev_pos (by omega) e)
      · rw [if_neg c] at e
        exact e)
  obtain ⟨P, e, q⟩ := key _ 0 (by omega) hstart
  refine ⟨P, ?_, q⟩
  refine Ev.congr (fun k => by rw [spec_l5Reached.f]) (Ev.bind (spec_l1Sum_ev l h) ?_)
  rw [wid (by omega) (by omega)]
  exact ev_pos (by omega) (ev_pos (by omega) e)

theorem spec_FoldEnds_ev (l : List Int) (hn : l.length ≤ 1000000000000000) : Ev (fun k => spec_FoldEnds.f k l) (bif bl (Rul l) then (endsM l, true) else ([], false)) := by
  refine Ev.congr (fun k => by rw [spec_FoldEnds.f]) ?_
  refine ev_opt rfl (Ev.bind (spec_l5Ruler_ev l hn) (ev_ite (fun c => ?_) (fun c => ev_val ?_)))
  · have h := bl_iff.1 c
    rw [c]
    obtain ⟨P, e, q⟩ := spec_l5Reached_ev l h
    have ht := h.tot
    have hpl := q.1
    have hend := pick_ends h q
    refine Ev.bind e ?_
    have key := up_ev (σ := List Int) P.length (fun k s i => spec_FoldEnds.l0 k s P i) (fun _ _ => (pickM P P.length, true)) (fun s i => s = pickM P i)
      (by
        intro s hs
        refine Ev.step (fun k => by rw [spec_FoldEnds.l0]) ?_
        exact ev_neg (by omega) (ev_val (by rw [hs])))
      (by
        intro s i hi hs ih
        have hlen := pickM_len P i
        have e : pickM P (i + 1) = if rdOf false P (i : Int) = true then pickM P i ++ [(i : Int)] else pickM P i := rfl
        rw [← hs] at hlen e
        refine Ev.step (fun k => by rw [spec_FoldEnds.l0]) ?_
        rw [wsucc hi (by omega)]
        refine ev_pos (by omega) (ev_pos (by omega) (ev_ite (fun c => ?_) (fun c => ?_)))
        · rw [if_pos c] at e
          exact ev_pos (by omega) (ih _ e.symm)
        · rw [if_neg c] at e
          exact ih _ e.symm)
    have := key [] 0 (by omega) rfl
    rw [hend] at this
    exact this
  · rw [Bool.not_eq_true] at c
    rw [c]; rfl

theorem slices_Clone_eq (l : List Int) (hn : l.length ≤ 1048576) : slices_Clone_int_int.f l = some l := by
  unfold slices_Clone_int_int.f
  rw [if_pos (by omega)]
theorem slices_Reverse_ev (l : List Int) (hn : l.length ≤ 1048576) : Ev (fun k => slices_Reverse_int_int.f k l) l.reverse := by
  have key : ∀ (d t : Nat) (s : List Int), s.length = l.length → t + t + d = l.length → (∀ j : Nat, j < l.length → rd s (j : Int) = if j < t ∨ l.length - t ≤ j then rd l ((l.length - 1 - j : Nat) : Int) else rd l (j : Int)) → Ev (fun k => slices_Reverse_int_int.l0 k s (t : Int) ((l.length : Int) - 1 - t)) l.reverse := by
    intro d
    induction d using Nat.strongRecOn with
    | _ d ih =>
      intro t s hs hd hj
      refine Ev.step (fun k => by rw [slices_Reverse_int_int.l0]) ?_
      by_cases c : 2 ≤ d
      · have e1 : (l.length : Int) - 1 - t = ((l.length - 1 - t : Nat) : Int) := by omega
        rw [wid (x := (t : Int) + 1) (by omega) (by omega), wid (x := (l.length : Int) - 1 - t - 1) (by omega) (by omega), show (t : Int) + 1 = ((t + 1 : Nat) : Int) by omega, show (l.length : Int) - 1 - t - 1 = (l.length : Int) - 1 - ((t + 1 : Nat) : Int) by omega, e1]
        refine ev_pos (by omega) (ev_pos (by omega) (ev_pos (by omega) (ev_pos (by omega) (ev_pos (by omega) ?_))))
        rw [show ((t : Nat) : Int).toNat = t by omega, show (((l.length - 1 - t : Nat) : Int)).toNat = l.length - 1 - t by omega]
        have ht := hj t (by omega)
        have hu := hj (l.length - 1 - t) (by omega)
        rw [if_neg (by omega)] at ht hu
        refine ih (d - 2) (by omega) (t + 1) _ (by simp [hs]) (by omega) fun j hjl => ?_
        rw [rd_set _ (by simp; omega) j (by simp; omega), rd_set _ (by omega) j (by omega), ht, hu, hj j hjl]
        by_cases a1 : l.length - 1 - t = j
        · rw [if_pos a1, if_pos (by omega)]
          congr 1
          omega
        · rw [if_neg a1]
          by_cases a2 : t = j
          · rw [if_pos a2, if_pos (by omega)]
            congr 1
            omega
          · rw [if_neg a2]
            by_cases a3 : j < t ∨ l.length - t ≤ j
            · rw [if_pos a3, if_pos (by omega)]
            · rw [if_neg a3, if_neg (by omega)]
      · refine ev_neg (by omega) (ev_val ?_)
        refine ext_rd (by simp [hs]) fun j hjl => ?_
        rw [hj j (by omega), rev_rd (by omega)]
        by_cases a : j < t ∨ l.length - t ≤ j
        · rw [if_pos a]
        · rw [if_neg a]
          congr 1
          omega
  refine Ev.congr (fun k => by rw [slices_Reverse_int_int.f]) ?_
  rw [wid (x := (l.length : Int) - 1) (by omega) (by omega)]
  have h := key l.length 0 l rfl (by omega) fun j hj => by rw [if_neg (by omega)]
  rw [show (l.length : Int) - 1 - ((0 : Nat) : Int) = (l.length : Int) - 1 by omega] at h
  exact h
theorem impl_FoldBack_ev (l : List Int) (hn : l.length ≤ 1048576) : Ev (fun k => impl_FoldBack.f k l) (bif bl (Rul l) then (l.reverse, true) else ([], false)) := by
  refine Ev.congr (fun k => by rw [impl_FoldBack.f]) (Ev.bind (impl_isRuler_ev l (by omega)) (ev_ite (fun c => ?_) (fun c => ev_val ?_)))
  · rw [c]
    exact ev_opt (slices_Clone_eq l hn) (Ev.bind (slices_Reverse_ev l hn) (ev_val rfl))
  · rw [Bool.not_eq_true] at c
    rw [c]; rfl

theorem laws_sameInts_ev (l : List Int) (hn : l.length ≤ 1000000000000000) : Ev (fun k => laws_sameInts.f k l l) true := by
  refine Ev.congr (fun k => by rw [laws_sameInts.f]) (ev_pos rfl ?_)
  refine up_ev (σ := Unit) l.length (fun k _ i => laws_sameInts.l0 k l l i) (fun _ _ => true) (fun _ _ => True) ?_ ?_ () 0 (by omega) trivial
  · intro _ _
    refine Ev.step (fun k => by rw [laws_sameInts.l0]) ?_
    exact ev_neg (by omega) (ev_val rfl)
  · intro _ i hi _ ih
    refine Ev.step (fun k => by rw [laws_sameInts.l0]) ?_
    refine ev_pos (by omega) (ev_pos (by omega) (ev_pos (by omega) (ev_pos rfl ?_)))
    rw [wsucc hi hn]
    exact ih () trivial

theorem laws_total_ev (l : List Int) (h : Rul l) : Ev (fun k => laws_total.f k l) (tot l) := by
  have hl := h.len
  have key := up_ev (σ := Int) l.length (fun k s i => laws_total.l0 k l s i) (fun s i => s + tot (l.drop i)) (fun s i => 0 ≤ s ∧ s ≤ 60 * i)
    (by
      intro s _
      refine Ev.step (fun k => by rw [laws_total.l0]) ?_
      exact ev_neg (by omega) (ev_val (by rw [tot_drop_end]; omega)))
    (by
      intro s i hi hs ih
      have := h.1.at hi
      refine Ev.step (fun k => by rw [laws_total.l0]) ?_
      refine ev_pos (by omega) (ev_pos (by omega) ?_)
      rw [wsucc hi (by omega), wid (by omega) (by omega)]
      exact ev_eq (ih _ (by omega)) (by rw [tot_drop hi]; omega))
  refine Ev.congr (fun k => by rw [laws_total.f]) ?_
  exact ev_eq (key 0 0 (by omega) (by omega)) (by simp)

theorem FnEnds : laws_FnEnds.Pure := by
  intro l0 hm h8 hw
  refine Ev.rounds (g := fun k => laws_FnEnds.f k l0) ?_
  refine Ev.congr (fun k => by rw [laws_FnEnds.f]) ?_
  refine ev_ite (fun c => ev_val rfl) (fun c => ?_)
  obtain ⟨a, em, m1⟩ := spec_l91Rule_ev l0 (fun x hx => wf8 (hw x hx))
  have hn : a.length ≤ 1000000000000000 := by omega
  have hn2 : a.length ≤ 1048576 := by omega
  refine Ev.bind (a := a) (Ev.congr (fun k => by rw [spec_DrawFoldEnds.f]) (Ev.bind em (ev_val rfl))) ?_
  refine Ev.bind (impl_FoldEnds_ev a hn) (Ev.bind (spec_FoldEnds_ev a hn) ?_)
  refine ev_neg (by simp) ?_
  by_cases h : Rul a
  · have c := bl_true h
    have cr := bl_true h.rev
    rw [c]
    simp only [cond_true]
    have hel := ends_len h
    have htot := h.tot
    have hlast := ends_last h
    have hasc := endsM_asc a
    have hin : ∀ i : Nat, i < (endsM a).length → (0 ≤ rd (endsM a) (i : Int) ∧ rd (endsM a) (i : Int) ≤ tot a) ∧ (rd (endsM a) (i : Int) - tot a) % 2 = 0 := by
      intro i hi
      have q := rd_mem (l := endsM a) hi
      exact ⟨ends_in h q, cnt_odd a _ ((endsM_mem a _).1 q).2⟩
    have hr' : a.reverse.length ≤ 1000000000000000 := by rw [List.length_reverse]; exact hn
    refine Ev.bind (laws_sameInts_ev _ (by omega)) (ev_pos rfl ?_)
    refine Ev.step (fun k => by rw [laws_FnEnds.j0]) (ev_neg (by simp) ?_)
    have e1 := impl_FoldBack_ev a hn2
    have e2 := impl_FoldEnds_ev a.reverse hr'
    rw [c] at e1
    rw [cr] at e2
    simp only [cond_true] at e1 e2
    rw [endsM_rev] at e2
    refine Ev.bind e1 (Ev.bind e2 (Ev.bind (laws_total_ev a h) ?_))
    generalize endsM a = L at *
    have key := up_ev (σ := Unit) L.length (fun k _ i => laws_FnEnds.l0 k L true L true (tot a) i) (fun _ _ => true) (fun _ _ => True)
      (by
        intro s _
        refine Ev.step (fun k => by rw [laws_FnEnds.l0]) ?_
        refine ev_neg (by omega) (ev_pos rfl (ev_pos rfl (Ev.bind (laws_sameInts_ev L (by omega)) (ev_pos rfl ?_))))
        rw [wid (x := (L.length : Int) - 1) (by omega) (by omega)]
        exact ev_pos (by omega) (ev_pos (by omega) (ev_val (by rw [hlast]; simp))))
      (by
        intro s i hi _ ih
        have hq := hin i hi
        refine Ev.step (fun k => by rw [laws_FnEnds.l0]) ?_
        rw [wsucc hi (by omega), wid (x := tot a - rd L (i : Int)) (by omega) (by omega)]
        refine ev_pos (by omega) (ev_pos (by omega) (ev_pos ?_ (ev_neg (by omega) (ev_ite (fun c1 => ?_) (fun c1 => ih () trivial)))))
        · rw [Int.tmod_eq_emod_of_nonneg (by omega)]
          omega
        · have hl1 := sasc_rd hasc (i := i - 1) (j := i) (by omega) hi
          rw [wid (x := (i : Int) - 1) (by omega) (by omega), show (i : Int) - 1 = ((i - 1 : Nat) : Int) from by omega]
          exact ev_pos (by omega) (ev_pos (by omega) (ev_neg (by omega) (ih () trivial))))
    exact key () 0 (by omega) trivial
  · have c := bl_false h
    rw [c]
    simp only [cond_false]
    refine Ev.bind (laws_sameInts_ev _ (by simp)) (ev_pos rfl ?_)
    refine Ev.step (fun k => by rw [laws_FnEnds.j0]) ?_
    refine ev_pos rfl (ev_pos rfl ?_)
    exact Ev.bind (laws_sameInts_ev _ (by simp)) (ev_val rfl)

end Go.Proofs.Ytfihnemjaademaa.Pure
