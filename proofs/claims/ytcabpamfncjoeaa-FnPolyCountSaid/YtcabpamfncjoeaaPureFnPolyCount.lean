/- The plain part of the proof that the law FnPolyCount answers true for every input: what its printed functions compute answers true, for all lists and numbers that the walk hands over; no condition beyond those. -/
import Derived.Test.YtcabpamfncjoeaaPDx21
import Derived.Test.YtcabpamfncjoeaaM
import Derived.Test.YtcabpamfncjoeaaMf
import Derived.Test.YtcabpamfncjoeaaMq
namespace Go.Proofs.Ytcabpamfncjoeaa.Pure
open Go.RowKit Go.Proofs.Ytcabpamfncjoeaa.PD Go.Proofs.YtcabpamfncjoeaaW.PrintWords Go.Proofs.YtcabpamfncjoeaaW.PrintLast Go.Proofs.YtcabpamfncjoeaaW.PrintMore Go.Proofs.Ytcabpamfncjoeaa.M
set_option linter.unusedVariables false
set_option linter.unusedSimpArgs false
set_option maxRecDepth 4000

theorem spec_pick_ev (l : List Int) (p n : Int) (hl : l.length ≤ 2000) (hb : ∀ x ∈ l, 0 ≤ x ∧ x ≤ 255) (hp0 : 0 ≤ p) (hp1 : p ≤ 1000000) :
    ∃ v : Int, Ev (fun k => spec_l6Rd_pick.f k l p n) (v, p + 1) ∧ 0 ≤ v ∧ (v < n ∨ v = 0) := by
  have hw : wrap64 (p + 1) = p + 1 := wid (by omega) (by omega)
  by_cases hn : n < 1
  · refine ⟨0, ?_, by omega, Or.inr rfl⟩
    refine Ev.congr (fun k => by rw [spec_l6Rd_pick.f]) (ev_pos hn ?_)
    refine Ev.step (fun k => by rw [spec_l6Rd_pick.j0]) (ev_pos rfl (ev_val ?_))
    rw [hw]
  · by_cases h0 : l.length = 0
    · refine ⟨0, ?_, by omega, Or.inr rfl⟩
      refine Ev.congr (fun k => by rw [spec_l6Rd_pick.f]) (ev_neg hn ?_)
      have e : ((l.length : Int) == 0) = true := by rw [beq_iff_eq]; omega
      rw [e]
      refine Ev.step (fun k => by rw [spec_l6Rd_pick.j0]) (ev_pos rfl (ev_val ?_))
      rw [hw]
    · have e : ((l.length : Int) == 0) = false := by rw [beq_eq_false_iff_ne]; omega
      have hw2 : wrap64 (p + 1 - 1) = p := by rw [wid (by omega) (by omega)]; omega
      have tm : ∀ a : Int, 0 ≤ a → 0 ≤ Int.tmod a n ∧ Int.tmod a n < n := fun a ha => by
        rw [Int.tmod_eq_emod_of_nonneg ha]
        exact ⟨Int.emod_nonneg _ (by omega), Int.emod_lt_of_pos _ (by omega)⟩
      have rb : ∀ i : Int, 0 ≤ i → i < l.length → 0 ≤ rd l i ∧ rd l i ≤ 255 := fun i h0 h1 => by
        obtain ⟨j, rfl⟩ := Int.eq_ofNat_of_zero_le h0
        exact hb _ (rd_mem (by omega))
      by_cases hk : p < (l.length : Int)
      · have hr := rb p hp0 hk
        refine ⟨Int.tmod (wrap64 (rd l p)) n, ?_, ?_, ?_⟩
        · refine Ev.congr (fun k => by rw [spec_l6Rd_pick.f]) (ev_neg hn ?_)
          rw [e, hw]
          refine Ev.step (fun k => by rw [spec_l6Rd_pick.j0]) (ev_neg (by simp) ?_)
          rw [hw2]
          exact ev_pos hk (ev_pos hp0 (ev_neg (by omega) (ev_val rfl)))
        · rw [wid (by omega) (by omega)]; exact (tm _ hr.1).1
        · rw [wid (by omega) (by omega)]; exact Or.inl (tm _ hr.1).2
      · have tl : ∀ a : Int, 0 ≤ a → 0 ≤ Int.tmod a (l.length : Int) ∧ Int.tmod a (l.length : Int) < (l.length : Int) := fun a ha => by
          rw [Int.tmod_eq_emod_of_nonneg ha]
          exact ⟨Int.emod_nonneg _ (by omega), Int.emod_lt_of_pos _ (by omega)⟩
        have h1 := tl p hp0
        have hw3 : wrap64 (p * 7) = p * 7 := wid (by omega) (by omega)
        have hw4 : wrap64 (p * 7 + 3) = p * 7 + 3 := wid (by omega) (by omega)
        have h2 := tl (p * 7 + 3) (by omega)
        have r1 := rb _ h1.1 h1.2
        have r2 := rb _ h2.1 h2.2
        generalize hA : Int.tmod p (l.length : Int) = A at *
        generalize hB : Int.tmod (p * 7 + 3) (l.length : Int) = B at *
        have hq : 0 ≤ Int.tdiv p (l.length : Int) ∧ Int.tdiv p (l.length : Int) ≤ 1000000 := by
          rw [Int.tdiv_eq_ediv_of_nonneg hp0]
          exact ⟨Int.ediv_nonneg hp0 (by omega), Int.le_trans (Int.ediv_le_self _ hp0) hp1⟩
        generalize hQ : Int.tdiv p (l.length : Int) = Q at *
        have hx : wrap64 (wrap64 (wrap64 (wrap64 (wrap64 (rd l A) * 131) + wrap64 (wrap64 (rd l B) * 1117)) + wrap64 (p * 29)) + wrap64 (wrap64 Q * 53)) = rd l A * 131 + rd l B * 1117 + p * 29 + Q * 53 := by
          rw [wid (x := rd l A) (by omega) (by omega), wid (x := rd l B) (by omega) (by omega), wid (x := Q) (by omega) (by omega), wid (x := rd l A * 131) (by omega) (by omega), wid (x := rd l B * 1117) (by omega) (by omega), wid (x := p * 29) (by omega) (by omega), wid (x := Q * 53) (by omega) (by omega)]
          rw [wid (x := rd l A * 131 + rd l B * 1117) (by omega) (by omega), wid (x := rd l A * 131 + rd l B * 1117 + p * 29) (by omega) (by omega), wid (by omega) (by omega)]
        obtain ⟨X, hX⟩ : ∃ X, X = rd l A * 131 + rd l B * 1117 + p * 29 + Q * 53 := ⟨_, rfl⟩
        have hX0 : 0 ≤ X ∧ X < 1099511627776 := by omega
        have hd : 0 ≤ Int.tdiv X 64 ∧ Int.tdiv X 64 < 1099511627776 := by
          rw [Int.tdiv_eq_ediv_of_nonneg hX0.1]
          omega
        have hb := xor_nonneg X (Int.tdiv X 64) hX0.1 hX0.2 hd.1 hd.2
        refine ⟨Int.tmod (Go.bits .xor .i64 X (Int.tdiv X 64)) n, ?_, (tm _ hb).1, Or.inl (tm _ hb).2⟩
        refine Ev.congr (fun k => by rw [spec_l6Rd_pick.f]) (ev_neg hn ?_)
        rw [e, hw]
        refine Ev.step (fun k => by rw [spec_l6Rd_pick.j0]) (ev_neg (by simp) ?_)
        rw [hw2, hw3, hw4, hA, hB, hQ, hx, ← hX, wid (x := Int.tdiv X 64) (by omega) (by omega)]
        exact ev_neg hk (ev_neg (by omega) (ev_pos h1.1 (ev_pos h1.2 (ev_pos h2.1 (ev_pos h2.2 (ev_neg (by omega) (ev_val rfl)))))))

theorem spec_l6Open_ev (l : List Int) : ∃ m : List Int, spec_l6Open.f l = some (m, 0) ∧ m.length ≤ 2000 ∧ (∀ x ∈ m, x ∈ l) := by
  unfold spec_l6Open.f
  by_cases h : (l.length : Int) > 2000
  · rw [if_pos h, if_pos (by omega)]
    exact ⟨_, rfl, by simp; omega, fun x hx => List.mem_of_mem_take hx⟩
  · rw [if_neg h]
    exact ⟨_, rfl, by omega, fun x hx => hx⟩

theorem spec_l91Sum_ev (l : List Int) (hb : ∀ x ∈ l, 0 ≤ x ∧ x ≤ 255) : ∃ n p : Int, Ev (fun k => spec_l91Sum.f k l) (n, p) := by
  obtain ⟨c, hc, hc1, hc2⟩ := spec_l6Open_ev l
  have hb' : ∀ x ∈ c, 0 ≤ x ∧ x ≤ 255 := fun x hx => hb x (hc2 x hx)
  obtain ⟨v0, e0, _, _⟩ := spec_pick_ev c 0 4 hc1 hb' (by omega) (by omega)
  obtain ⟨v1, e1, _, _⟩ := spec_pick_ev c (0 + 1) 24 hc1 hb' (by omega) (by omega)
  obtain ⟨v2, e2, _, _⟩ := spec_pick_ev c (0 + 1 + 1) 24 hc1 hb' (by omega) (by omega)
  obtain ⟨v3, e3, _, _⟩ := spec_pick_ev c (0 + 1 + 1 + 1) 24 hc1 hb' (by omega) (by omega)
  obtain ⟨v4, e4, _, _⟩ := spec_pick_ev c (0 + 1 + 1 + 1 + 1) 6 hc1 hb' (by omega) (by omega)
  obtain ⟨v5, e5, _, _⟩ := spec_pick_ev c (0 + 1 + 1 + 1 + 1 + 1) 7 hc1 hb' (by omega) (by omega)
  obtain ⟨v6, e6, _, _⟩ := spec_pick_ev c (0 + 1 + 1 + 1 + 1 + 1 + 1) 24 hc1 hb' (by omega) (by omega)
  refine ⟨wrap64 ((wrap64 ((wrap64 (3 + v0)) + (wrap64 (Int.tdiv v1 23)))) - (wrap64 (Int.tdiv v2 23))), wrap64 ((wrap64 ((wrap64 (1 + v3)) + (wrap64 ((wrap64 (Int.tdiv v4 5)) * v5)))) - (wrap64 ((wrap64 (Int.tdiv v6 23)) * 30))), ?_⟩
  refine Ev.congr (fun k => by rw [spec_l91Sum.f]) ?_
  refine ev_opt hc ?_
  refine Ev.bind e0 ?_
  refine Ev.bind e1 ?_
  refine Ev.bind e2 ?_
  refine Ev.bind e3 ?_
  refine Ev.bind e4 ?_
  refine Ev.bind e5 ?_
  exact Ev.bind e6 (ev_val rfl)

theorem l6In_eq (a b c : Int) : spec_l6In.f a b c = some (decide (b ≤ a ∧ a ≤ c)) := by
  unfold spec_l6In.f
  by_cases h : a ≥ b
  · rw [if_pos h]
    simp [show b ≤ a from h]
  · rw [if_neg h]
    simp [show ¬ b ≤ a from h]

def Giv (n p : Int) : Prop := 3 ≤ n ∧ n ≤ 6 ∧ 1 ≤ p ∧ p ≤ 30
theorem Giv.nat {n p : Int} (h : Giv n p) : ∃ a b : Nat, n = (a : Int) ∧ p = (b : Int) ∧ 3 ≤ a ∧ a ≤ 6 ∧ 1 ≤ b ∧ b ≤ 30 := by
  obtain ⟨h1, h2, h3, h4⟩ := h
  exact ⟨n.toNat, p.toNat, by omega, by omega, by omega, by omega, by omega, by omega⟩
theorem spec_l3Given_eq (n p : Int) : spec_l3Given.f n p = some (bl (Giv n p)) := by
  unfold spec_l3Given.f
  rw [l6In_eq, l6In_eq]
  by_cases c : 3 ≤ n ∧ n ≤ 6
  · by_cases d : 1 ≤ p ∧ p ≤ 30
    · rw [bl_true ⟨c.1, c.2, d.1, d.2⟩]; simp [c, d]
    · rw [bl_false (fun q => d ⟨q.2.2.1, q.2.2.2⟩)]; simp [c, d]
  · rw [bl_false (fun q => c ⟨q.1, q.2.1⟩)]; simp [c]
theorem ev_givC {α : Type} {n p : Int} {f g : Nat → Option α} {r : α} (h : ¬ Giv n p) (e : Ev f r) : Ev (fun k => if n < 3 then f k else if n > 6 then f k else if p < 1 then f k else if p > 30 then f k else g k) r := by
  refine ev_ite (fun _ => e) (fun h1 => ev_ite (fun _ => e) (fun h2 => ev_ite (fun _ => e) (fun h3 => ev_ite (fun _ => e) (fun h4 => ?_))))
  exact absurd ⟨by omega, by omega, by omega, by omega⟩ h
theorem len_le {n p : Nat} (hn : n ≤ 6) (hp : p ≤ 30) : (LL n p 1).length ≤ 1000 := by
  rw [Lc_len]
  exact fin2 n (by omega) p (by omega)

theorem rdL_get {L : List (List Int)} {i : Nat} (h : i < L.length) : rd_L1 L (i : Int) = L[i] := by
  simp [rd_L1, List.getD_eq_getElem?_getD, h]
theorem spec_l3Lists_ev : ∀ (m p f : Nat), m ≤ 6 → p ≤ 30 → f ≤ 31 → (LL m p f).length ≤ 1000 → Ev (fun k => spec_l3Lists.f k (m : Int) (p : Int) (f : Int)) (LL m p f) := by
  intro m
  induction m with
  | zero =>
    intro p f _ hp _ _
    refine Ev.step (fun k => by rw [spec_l3Lists.f]) ?_
    refine ev_pos rfl ?_
    unfold LL
    by_cases c : p = 0
    · rw [if_pos c]; exact ev_pos (by omega) (ev_val rfl)
    · rw [if_neg c]; exact ev_neg (by omega) (ev_val rfl)
  | succ m ih =>
    intro p f hm hp hf hlen
    have key : ∀ (d x : Nat) (s : List (List Int)), p + 1 ≤ x + d → x ≤ 31 → s.length + (TT m p x).length ≤ 1000 → Ev (fun k => spec_l3Lists.l0 k ((m + 1 : Nat) : Int) (p : Int) s (x : Int)) (s ++ TT m p x) := by
      intro d
      induction d with
      | zero =>
        intro x s hd hx hs
        have c : ¬ x * (m + 1) ≤ p := fun q => by have := mul_low q; omega
        have hb : x * (m + 1) ≤ 31 * 6 := Nat.mul_le_mul hx (by omega)
        rw [TT_end c, List.append_nil]
        refine Ev.step (fun k => by rw [spec_l3Lists.l0]) ?_
        rw [show (x : Int) * ((m + 1 : Nat) : Int) = ((x * (m + 1) : Nat) : Int) from (Int.natCast_mul _ _).symm, wid (by omega) (by omega)]
        exact ev_neg (by omega) (ev_val rfl)
      | succ d ihd =>
        intro x s hd hx hs
        have hb : x * (m + 1) ≤ 31 * 6 := Nat.mul_le_mul hx (by omega)
        refine Ev.step (fun k => by rw [spec_l3Lists.l0]) ?_
        rw [show (x : Int) * ((m + 1 : Nat) : Int) = ((x * (m + 1) : Nat) : Int) from (Int.natCast_mul _ _).symm, wid (x := ((x * (m + 1) : Nat) : Int)) (by omega) (by omega)]
        by_cases c : x * (m + 1) ≤ p
        · have hxp := mul_low c
          rw [TT_step c] at hs ⊢
          simp only [List.length_append, List.length_map] at hs
          have h1 := ih (p - x) x (by omega) (by omega) (by omega) (by omega)
          have hB : ∀ l ∈ LL m (p - x) x, l.length = m := fun l hl => (LL_mem _ _ _ l hl).1
          generalize LL m (p - x) x = B at *
          refine ev_pos (by omega) ?_
          rw [wid (x := ((m + 1 : Nat) : Int) - 1) (by omega) (by omega), show ((m + 1 : Nat) : Int) - 1 = (m : Int) by omega, wid (x := (p : Int) - (x : Int)) (by omega) (by omega), show (p : Int) - (x : Int) = ((p - x : Nat) : Int) by omega]
          refine Ev.bind h1 ?_
          have go := up_ev (σ := List (List Int)) B.length (fun k s i => spec_l3Lists.l1 k ((m + 1 : Nat) : Int) (p : Int) s (x : Int) B i) (fun s i => s ++ (((B.drop i).map fun l => (x : Int) :: l) ++ TT m p (x + 1))) (fun s i => s.length + ((B.length - i) + (TT m p (x + 1)).length) ≤ 1000)
            (by
              intro s hs
              refine Ev.step (fun k => by rw [spec_l3Lists.l1]) ?_
              refine ev_neg (by omega) ?_
              rw [wid (x := (x : Int) + 1) (by omega) (by omega), show (x : Int) + 1 = ((x + 1 : Nat) : Int) by omega, List.drop_length]
              exact ihd (x + 1) s (by omega) (by omega) (by omega))
            (by
              intro s i hi hs ih
              have hr := rdL_get hi
              have hl := hB _ (List.getElem_mem hi)
              refine Ev.step (fun k => by rw [spec_l3Lists.l1]) ?_
              refine ev_pos (by omega) ?_
              refine ev_opt rfl ?_
              refine ev_pos (by omega) ?_
              rw [hr]
              refine ev_pos (by simp only [List.length_singleton]; omega) (ev_pos (by omega) ?_)
              rw [wsucc hi (by omega)]
              refine ev_eq (ih _ (by simp only [List.length_append, List.length_singleton]; omega)) ?_
              rw [List.drop_eq_getElem_cons hi]
              simp only [List.map_cons, List.cons_append, List.append_assoc, List.nil_append])
          exact ev_eq (go s 0 (by omega) (by omega)) (by simp)
        · rw [TT_end c, List.append_nil]
          exact ev_neg (by omega) (ev_val rfl)
    refine Ev.step (fun k => by rw [spec_l3Lists.f]) ?_
    refine ev_neg (by omega) ?_
    exact ev_eq (key (p + 1) f [] (by omega) hf (by rw [List.length_nil, ← LL_TT]; omega)) rfl

theorem spec_l1Sum_ev (l : List Int) (h : Rul l) : Ev (fun k => spec_l1Sum.f k l) (tot l) := by
  have hl := h.len
  have key := up_ev (σ := Int) l.length (fun k s i => spec_l1Sum.l0 k l s i) (fun s i => s + tot (l.drop i)) (fun s i => 0 ≤ s ∧ s ≤ 60 * i)
    (by
      intro s _
      refine Ev.step (fun k => by rw [spec_l1Sum.l0]) ?_
      exact ev_neg (by omega) (ev_val (by rw [tot_drop_end]; omega)))
    (by
      intro s i hi hs ih
      have := h.1.at hi
      refine Ev.step (fun k => by rw [spec_l1Sum.l0]) ?_
      refine ev_pos (by omega) (ev_pos (by omega) ?_)
      rw [wsucc hi (by omega), wid (by omega) (by omega)]
      exact ev_eq (ih _ (by omega)) (by rw [tot_drop hi]; omega))
  refine Ev.congr (fun k => by rw [spec_l1Sum.f]) ?_
  exact ev_eq (key 0 0 (by omega) (by omega)) (by simp)

theorem spec_l3Gap_ev (l : List Int) (h : Rul l) : Ev (fun k => spec_l3Gap.f k l) (gap l) := by
  have hl := h.len
  have ht := h.tot
  have hb := lst_bd h
  refine Ev.congr (fun k => by rw [spec_l3Gap.f]) (Ev.bind (spec_l1Sum_ev l h) ?_)
  rw [wid (x := (l.length : Int) - 1) (by omega) (by omega)]
  refine ev_pos (by omega) (ev_pos (by omega) (ev_val ?_))
  show wrap64 (tot l - wrap64 (2 * lst l)) = gap l
  rw [wid (x := 2 * lst l) (by omega) (by omega), wid (by omega) (by omega)]
  rfl

theorem spec_l3Closes_ev (l : List Int) (h : Rul l) : Ev (fun k => spec_l3Closes.f k l) (decide (3 ≤ l.length ∧ 0 < gap l)) := by
  refine Ev.congr (fun k => by rw [spec_l3Closes.f]) (ev_ite (fun c => Ev.bind (spec_l3Gap_ev l h) (ev_val ?_)) (fun c => ev_val ?_))
  · exact decide_eq_decide.2 ⟨fun h => ⟨by omega, h⟩, fun h => h.2⟩
  · exact (decide_eq_false (fun h => by omega)).symm

theorem LL_clo {n p : Nat} {l : List Int} (h : l ∈ LL n p 1) (hn : 1 ≤ n ∧ n ≤ 6) (hp : p ≤ 30) : Ev (fun k => spec_l3Closes.f k l) (clo l) := spec_l3Closes_ev l (LL_bun h hn hp (by omega)).1
theorem spec_PolyCount_yes (n p : Nat) (hn : 3 ≤ n ∧ n ≤ 6) (hp : 1 ≤ p ∧ p ≤ 30) : Ev (fun k => spec_PolyCount.f k (n : Int) (p : Int)) ((Cc n p : Int), true) := by
  have hlen := len_le hn.2 hp.2
  refine Ev.congr (fun k => by rw [spec_PolyCount.f]) ?_
  refine ev_opt (spec_l3Given_eq _ _) ?_
  refine ev_pos (bl_true (P := Giv n p) ⟨by omega, by omega, by omega, by omega⟩) ?_
  refine Ev.bind (spec_l3Lists_ev n p 1 hn.2 hp.2 (by omega) hlen) ?_
  have hc := fun l hl => LL_clo (l := l) hl ⟨by omega, hn.2⟩ hp.2
  rw [← Cc_count hn.1]
  generalize LL n p 1 = L at *
  have key := up_ev (σ := Int) L.length (fun k s i => spec_PolyCount.l0 k s L i) (fun s i => (s + ((L.drop i).countP clo : Nat), true)) (fun s i => 0 ≤ s ∧ s ≤ i)
    (by
      intro s hs
      refine Ev.step (fun k => by rw [spec_PolyCount.l0]) ?_
      refine ev_neg (by omega) (ev_val ?_)
      rw [List.drop_length]
      simp)
    (by
      intro s i hi hs ih
      refine Ev.step (fun k => by rw [spec_PolyCount.l0]) ?_
      refine ev_pos (by omega) (ev_pos (by omega) ?_)
      rw [rdL_get hi, wsucc hi (by omega), List.drop_eq_getElem_cons hi, List.countP_cons]
      refine Ev.bind (hc _ (List.getElem_mem hi)) (ev_ite (fun c => ?_) (fun c => ?_))
      · rw [if_pos c, wid (x := s + 1) (by omega) (by omega)]
        refine ev_eq (ih _ (by omega)) ?_
        congr 1
        omega
      · rw [if_neg c]
        exact ih _ (by omega))
  exact ev_eq (key 0 0 (by omega) (by omega)) (by simp)
theorem spec_PolyCount_no {n p : Int} (h : ¬ Giv n p) : Ev (fun k => spec_PolyCount.f k n p) (0, false) := by
  refine Ev.congr (fun k => by rw [spec_PolyCount.f]) ?_
  refine ev_opt (spec_l3Given_eq _ _) ?_
  exact ev_neg (show ¬ (bl (Giv n p) = true) by rw [bl_false h]; simp) (ev_val rfl)

theorem lowC_app (al : List Int) (x : Int) (h : al.length ≤ 100) : lowC (al ++ [x]) = x := by
  unfold lowC
  rw [List.length_append, List.length_singleton, if_pos (by omega), wid (by omega) (by omega), show ((al.length + 1 : Nat) : Int) - 1 = (al.length : Int) by omega, rd_get (by simp)]
  simp
theorem tryC_ev (n : Nat) (hn : n ≤ 6) (tm : Int → List Int → Int × Bool) : ∀ (m : Nat) (al : List Int) (p f : Nat) (s : Int), al.length + (m + 1) = n → p ≤ 30 → f ≤ 31 → lowC al = (f : Int) →
    (∀ l ∈ LL (m + 1) p f, ∀ s, Ev (fun k => tellC.f k s (al ++ l)) (tm s (al ++ l))) → Ev (fun k => tryC.f (n : Int) k s al (p : Int)) (fo tm s ((LL (m + 1) p f).map fun l => al ++ l)) := by
  intro m
  induction m with
  | zero =>
    intro al p f s hal hp hf hlo ht
    refine Ev.step (fun k => by rw [tryC.f]) ?_
    refine ev_pos (by omega) ?_
    rw [wid (x := (n : Int) - (al.length : Int)) (by omega) (by omega), hlo]
    refine ev_pos (by omega) ?_
    rw [LL_one] at ht ⊢
    by_cases c : f ≤ p
    · rw [if_pos c] at ht ⊢
      refine ev_neg (by omega) ?_
      refine ev_eq (ht _ (List.mem_singleton.2 rfl) s) ?_
      exact (fo_one tm s _).symm
    · rw [if_neg c]
      exact ev_pos (by omega) (ev_val rfl)
  | succ m ih =>
    intro al p f s hal hp hf hlo ht
    have key : ∀ (d x : Nat) (s : Int), p + 1 ≤ x + d → f ≤ x → x ≤ 31 → Ev (fun k => tryC.l (n : Int) k s al (p : Int) (x : Int) ((m + 2 : Nat) : Int)) (fo tm s ((TT (m + 1) p x).map fun l => al ++ l)) := by
      intro d
      induction d with
      | zero =>
        intro x s hd hfx hx
        have c : ¬ x * (m + 1 + 1) ≤ p := fun q => by have := mul_low q; omega
        have hb : x * (m + 1 + 1) ≤ 31 * 6 := Nat.mul_le_mul hx (by omega)
        rw [TT_end c]
        refine Ev.step (fun k => by rw [tryC.l]) ?_
        rw [show (x : Int) * ((m + 2 : Nat) : Int) = ((x * (m + 1 + 1) : Nat) : Int) from (Int.natCast_mul _ _).symm, wid (by omega) (by omega)]
        exact ev_neg (by omega) (ev_val rfl)
      | succ d ihd =>
        intro x s hd hfx hx
        have hb : x * (m + 1 + 1) ≤ 31 * 6 := Nat.mul_le_mul hx (by omega)
        refine Ev.step (fun k => by rw [tryC.l]) ?_
        rw [show (x : Int) * ((m + 2 : Nat) : Int) = ((x * (m + 1 + 1) : Nat) : Int) from (Int.natCast_mul _ _).symm, wid (x := ((x * (m + 1 + 1) : Nat) : Int)) (by omega) (by omega)]
        by_cases c : x * (m + 1 + 1) ≤ p
        · have hxp := mul_low c
          have h1 := ih (al ++ [(x : Int)]) (p - x) x s (by simp; omega) (by omega) (by omega) (lowC_app al x (by omega)) (fun l hl s => by
            rw [List.append_assoc]
            exact ht _ (TT_mem hfx c hl) s)
          rw [TT_step c, List.map_append, fo_app, List.map_map]
          have e : ((fun l => al ++ l) ∘ fun l => (x : Int) :: l) = fun l => (al ++ [(x : Int)]) ++ l := by
            funext l
            simp
          rw [e]
          generalize fo tm s ((LL (m + 1) (p - x) x).map fun l => (al ++ [(x : Int)]) ++ l) = q at h1
          refine ev_pos (by omega) ?_
          rw [wid (x := (p : Int) - (x : Int)) (by omega) (by omega), show (p : Int) - (x : Int) = ((p - x : Nat) : Int) by omega, wid (x := (x : Int) + 1) (by omega) (by omega), show (x : Int) + 1 = ((x + 1 : Nat) : Int) by omega]
          refine Ev.bind h1 ?_
          by_cases cq : q.2 = true
          · rw [if_pos cq]
            exact ev_pos cq (ihd (x + 1) q.1 (by omega) (by omega) (by omega))
          · rw [if_neg cq]
            exact ev_neg cq (ev_val rfl)
        · rw [TT_end c]
          exact ev_neg (by omega) (ev_val rfl)
    refine Ev.step (fun k => by rw [tryC.f]) ?_
    refine ev_pos (by omega) ?_
    rw [wid (x := (n : Int) - (al.length : Int)) (by omega) (by omega), hlo, show (n : Int) - (al.length : Int) = ((m + 2 : Nat) : Int) by omega]
    exact ev_neg (by omega) (key (p + 1) f s (by omega) (Nat.le_refl _) hf)

theorem impl_sum_ev (l : List Int) (h : Rul l) : Ev (fun k => impl_sum.f k l) (tot l) := by
  have hl := h.len
  have key := up_ev (σ := Int) l.length (fun k s i => impl_sum.l0 k s l (l.length : Int) i) (fun s i => s + tot (l.drop i)) (fun s i => 0 ≤ s ∧ s ≤ 60 * i)
    (by
      intro s _
      refine Ev.step (fun k => by rw [impl_sum.l0]) ?_
      exact ev_neg (by omega) (ev_val (by rw [tot_drop_end]; omega)))
    (by
      intro s i hi hs ih
      have := h.1.at hi
      refine Ev.step (fun k => by rw [impl_sum.l0]) ?_
      refine ev_pos (by omega) (ev_pos (by omega) (ev_pos (by omega) ?_))
      rw [wsucc hi (by omega), wid (by omega) (by omega)]
      exact ev_eq (ih _ (by omega)) (by rw [tot_drop hi]; omega))
  refine Ev.congr (fun k => by rw [impl_sum.f]) ?_
  exact ev_eq (key 0 0 (by omega) (by omega)) (by simp)

theorem impl_gap_ev (l : List Int) (h : Rul l) : Ev (fun k => impl_gap.f k l) (gap l) := by
  have hl := h.len
  have ht := h.tot
  have hb := lst_bd h
  refine Ev.congr (fun k => by rw [impl_gap.f]) (Ev.bind (impl_sum_ev l h) ?_)
  rw [wid (x := (l.length : Int) - 1) (by omega) (by omega)]
  refine ev_pos (by omega) (ev_pos (by omega) (ev_val ?_))
  show wrap64 (tot l - wrap64 (2 * lst l)) = gap l
  rw [wid (x := 2 * lst l) (by omega) (by omega), wid (by omega) (by omega)]
  rfl

theorem impl_closes_ev (l : List Int) (h : Rul l) : Ev (fun k => impl_closes.f k l) (decide (3 ≤ l.length ∧ 0 < gap l)) := by
  refine Ev.congr (fun k => by rw [impl_closes.f]) (ev_ite (fun c => Ev.bind (impl_gap_ev l h) (ev_val ?_)) (fun c => ev_val ?_))
  · exact decide_eq_decide.2 ⟨fun h => ⟨by omega, h⟩, fun h => h.2⟩
  · exact (decide_eq_false (fun h => by omega)).symm

theorem tellC_ev (s : Int) (l : List Int) (h : Rul l) : Ev (fun k => tellC.f k s l) (tmC s l) := by
  unfold tmC
  refine Ev.congr (fun k => by rw [tellC.f]) (Ev.bind (impl_closes_ev l h) ?_)
  by_cases c : clo l = true
  · rw [if_pos c]; exact ev_pos c (ev_val rfl)
  · rw [if_neg c]; exact ev_neg c (ev_val rfl)
theorem impl_PolyCount_yes (n p : Nat) (hn : 3 ≤ n ∧ n ≤ 6) (hp : 1 ≤ p ∧ p ≤ 30) : Ev (fun k => impl_PolyCount.f k (n : Int) (p : Int)) ((Cc n p : Int), true) := by
  have hlen := len_le hn.2 hp.2
  obtain ⟨m, rfl⟩ : ∃ m, n = m + 1 := ⟨n - 1, by omega⟩
  have h := tryC_ev (m + 1) hn.2 tmC m [] p 1 0 (by simp) hp.2 (by omega) (by simp [lowC]) (fun l hl s => tellC_ev s _ (LL_bun hl ⟨by omega, hn.2⟩ hp.2 (by omega)).1)
  rw [show (fun l : List Int => [] ++ l) = id from rfl, List.map_id, fo_C _ 0 (by omega) (by omega), Cc_count hn.1] at h
  refine Ev.congr (fun k => by rw [impl_PolyCount.f]) ?_
  refine ev_neg (by omega) (ev_neg (by omega) (ev_neg (by omega) (ev_neg (by omega) ?_)))
  refine Ev.bind h (ev_val ?_)
  simp
theorem impl_PolyCount_no {n p : Int} (h : ¬ Giv n p) : Ev (fun k => impl_PolyCount.f k n p) (0, false) :=
  Ev.congr (fun k => by rw [impl_PolyCount.f]) (ev_givC h (ev_val rfl))

theorem lowS_app (al : List Int) (x : Int) (h : al.length ≤ 100) : lowS (al ++ [x]) = x := by
  unfold lowS
  rw [List.length_append, List.length_singleton, if_pos (by omega), wid (by omega) (by omega), show ((al.length + 1 : Nat) : Int) - 1 = (al.length : Int) by omega, rd_get (by simp)]
  simp
theorem tryS_ev (n : Nat) (hn : n ≤ 6) (tm : Int → List Int → Int × Bool) : ∀ (m : Nat) (al : List Int) (p f : Nat) (s : Int), al.length + (m + 1) = n → p ≤ 30 → f ≤ 31 → lowS al = (f : Int) →
    (∀ l ∈ LL (m + 1) p f, ∀ s, Ev (fun k => tellS.f k s (al ++ l)) (tm s (al ++ l))) → Ev (fun k => tryS.f (n : Int) k s al (p : Int)) (fo tm s ((LL (m + 1) p f).map fun l => al ++ l)) := by
  intro m
  induction m with
  | zero =>
    intro al p f s hal hp hf hlo ht
    refine Ev.step (fun k => by rw [tryS.f]) ?_
    refine ev_pos (by omega) ?_
    rw [wid (x := (n : Int) - (al.length : Int)) (by omega) (by omega), hlo]
    refine ev_pos (by omega) ?_
    rw [LL_one] at ht ⊢
    by_cases c : f ≤ p
    · rw [if_pos c] at ht ⊢
      refine ev_neg (by omega) ?_
      refine ev_eq (ht _ (List.mem_singleton.2 rfl) s) ?_
      exact (fo_one tm s _).symm
    · rw [if_neg c]
      exact ev_pos (by omega) (ev_val rfl)
  | succ m ih =>
    intro al p f s hal hp hf hlo ht
    have key : ∀ (d x : Nat) (s : Int), p + 1 ≤ x + d → f ≤ x → x ≤ 31 → Ev (fun k => tryS.l (n : Int) k s al (p : Int) (x : Int) ((m + 2 : Nat) : Int)) (fo tm s ((TT (m + 1) p x).map fun l => al ++ l)) := by
      intro d
      induction d with
      | zero =>
        intro x s hd hfx hx
        have c : ¬ x * (m + 1 + 1) ≤ p := fun q => by have := mul_low q; omega
        have hb : x * (m + 1 + 1) ≤ 31 * 6 := Nat.mul_le_mul hx (by omega)
        rw [TT_end c]
        refine Ev.step (fun k => by rw [tryS.l]) ?_
        rw [show (x : Int) * ((m + 2 : Nat) : Int) = ((x * (m + 1 + 1) : Nat) : Int) from (Int.natCast_mul _ _).symm, wid (by omega) (by omega)]
        exact ev_neg (by omega) (ev_val rfl)
      | succ d ihd =>
        intro x s hd hfx hx
        have hb : x * (m + 1 + 1) ≤ 31 * 6 := Nat.mul_le_mul hx (by omega)
        refine Ev.step (fun k => by rw [tryS.l]) ?_
        rw [show (x : Int) * ((m + 2 : Nat) : Int) = ((x * (m + 1 + 1) : Nat) : Int) from (Int.natCast_mul _ _).symm, wid (x := ((x * (m + 1 + 1) : Nat) : Int)) (by omega) (by omega)]
        by_cases c : x * (m + 1 + 1) ≤ p
        · have hxp := mul_low c
          have h1 := ih (al ++ [(x : Int)]) (p - x) x s (by simp; omega) (by omega) (by omega) (lowS_app al x (by omega)) (fun l hl s => by
            rw [List.append_assoc]
            exact ht _ (TT_mem hfx c hl) s)
          rw [TT_step c, List.map_append, fo_app, List.map_map]
          have e : ((fun l => al ++ l) ∘ fun l => (x : Int) :: l) = fun l => (al ++ [(x : Int)]) ++ l := by
            funext l
            simp
          rw [e]
          generalize fo tm s ((LL (m + 1) (p - x) x).map fun l => (al ++ [(x : Int)]) ++ l) = q at h1
          refine ev_pos (by omega) ?_
          rw [wid (x := (p : Int) - (x : Int)) (by omega) (by omega), show (p : Int) - (x : Int) = ((p - x : Nat) : Int) by omega, wid (x := (x : Int) + 1) (by omega) (by omega), show (x : Int) + 1 = ((x + 1 : Nat) : Int) by omega]
          refine Ev.bind h1 ?_
          by_cases cq : q.2 = true
          · rw [if_pos cq]
            exact ev_pos cq (ihd (x + 1) q.1 (by omega) (by omega) (by omega))
          · rw [if_neg cq]
            exact ev_neg cq (ev_val rfl)
        · rw [TT_end c]
          exact ev_neg (by omega) (ev_val rfl)
    refine Ev.step (fun k => by rw [tryS.f]) ?_
    refine ev_pos (by omega) ?_
    rw [wid (x := (n : Int) - (al.length : Int)) (by omega) (by omega), hlo, show (n : Int) - (al.length : Int) = ((m + 2 : Nat) : Int) by omega]
    exact ev_neg (by omega) (key (p + 1) f s (by omega) (Nat.le_refl _) hf)

theorem tellS_ev (s : Int) (l : List Int) : Ev (fun k => tellS.f k s l) (tmS s l) := by
  show Ev (fun _ => some (tmS s l)) (tmS s l)
  exact ev_val rfl
theorem impl_PolyShares_yes (n p : Nat) (hn : 1 ≤ n ∧ n ≤ 6) (hp : p ≤ 30) : Ev (fun k => impl_PolyShares.f k (n : Int) (p : Int)) ((Lc n p : Int), true) := by
  have hlen := len_le hn.2 hp
  obtain ⟨m, rfl⟩ : ∃ m, n = m + 1 := ⟨n - 1, by omega⟩
  have h := tryS_ev (m + 1) hn.2 tmS m [] p 1 0 (by simp) hp (by omega) (by simp [lowS]) (fun l hl s => tellS_ev s _)
  rw [show (fun l : List Int => [] ++ l) = id from rfl, List.map_id, fo_S _ 0 (by omega) (by omega), Lc_len] at h
  refine Ev.congr (fun k => by rw [impl_PolyShares.f]) ?_
  refine ev_neg (by omega) (ev_neg (by omega) (ev_neg (by omega) (ev_neg (by omega) ?_)))
  refine Ev.bind h (ev_val ?_)
  simp

theorem half_up' (p : Nat) (h : p ≤ 30) : wrap64 (Int.tdiv (wrap64 ((p : Int) + 1)) 2) = (((p + 1) / 2 : Nat) : Int) := by
  rw [wid (x := (p : Int) + 1) (by omega) (by omega), show (p : Int) + 1 = ((p + 1 : Nat) : Int) by omega, show Int.tdiv ((p + 1 : Nat) : Int) 2 = (((p + 1) / 2 : Nat) : Int) from rfl, wid (by omega) (by omega)]
theorem impl_PolyRest_yes (n p : Nat) (hn : 3 ≤ n ∧ n ≤ 6) (hp : 1 ≤ p ∧ p ≤ 30) : Ev (fun k => impl_PolyRest.f k (n : Int) (p : Int)) ((Cc n p : Int), true) := by
  have f3 := fin3 n (by omega) hn.1 p (by omega) hp.1
  have b0 := fin2 n (by omega) p (by omega)
  have key := up_ev (σ := Int) (p + 1) (fun k s i => impl_PolyRest.l0 k (n : Int) (p : Int) s i) (fun s i => (s - (Rs n p i : Int), true)) (fun s i => - 1000 * (i : Int) ≤ s ∧ s ≤ 1000)
    (by
      intro s hs
      refine Ev.step (fun k => by rw [impl_PolyRest.l0]) ?_
      refine ev_neg (by omega) (ev_val ?_)
      rw [Rs_end]
      simp)
    (by
      intro s i hi hs ih
      have b1 := fin2 (n - 1) (by omega) (p - i) (by omega)
      refine Ev.step (fun k => by rw [impl_PolyRest.l0]) ?_
      refine ev_pos (by omega) ?_
      rw [wid (x := (n : Int) - 1) (by omega) (by omega), wid (x := (p : Int) - (i : Int)) (by omega) (by omega), show (n : Int) - 1 = ((n - 1 : Nat) : Int) by omega, show (p : Int) - (i : Int) = ((p - i : Nat) : Int) by omega]
      refine Ev.bind (impl_PolyShares_yes (n - 1) (p - i) (by omega) (by omega)) ?_
      simp only []
      rw [wsucc hi (by omega), wid (x := s - (Lc (n - 1) (p - i) : Int)) (by omega) (by omega)]
      refine ev_eq (ih _ (by omega)) ?_
      rw [Rs_step (n := n) (p := p) (i := i) (by omega)]
      congr 1
      omega)
  refine Ev.congr (fun k => by rw [impl_PolyRest.f]) ?_
  refine ev_neg (by omega) (ev_neg (by omega) (ev_neg (by omega) ?_))
  refine Ev.step (fun k => by rw [impl_PolyRest.j0]) ?_
  refine ev_neg (by simp; omega) ?_
  refine Ev.bind (impl_PolyShares_yes n p (by omega) hp.2) ?_
  rw [half_up' p hp.2]
  refine ev_eq (key (Lc n p : Int) ((p + 1) / 2) (by omega) (by omega)) ?_
  congr 1
  omega
theorem impl_PolyRest_no {n p : Int} (h : ¬ Giv n p) : Ev (fun k => impl_PolyRest.f k n p) (0, false) := by
  have e : Ev (fun k => impl_PolyRest.j0 k n p true) (0, false) := Ev.step (fun k => by rw [impl_PolyRest.j0]) (ev_pos rfl (ev_val rfl))
  refine Ev.congr (fun k => by rw [impl_PolyRest.f]) ?_
  refine ev_ite (fun _ => e) (fun h1 => ?_)
  refine ev_ite (fun _ => e) (fun h2 => ?_)
  refine ev_ite (fun _ => e) (fun h3 => ?_)
  by_cases h4 : p > 30
  · rw [decide_eq_true h4]; exact e
  · exact absurd ⟨by omega, by omega, by omega, by omega⟩ h

theorem tri_fin : ∀ p : Nat, p < 31 → 1 ≤ p → impl_TriCount.f 400 (p : Int) = some ((Cc 3 p : Int), true) := by decide +kernel
theorem impl_TriCount_yes (p : Nat) (hp : 1 ≤ p ∧ p ≤ 30) : Ev (fun k => impl_TriCount.f k (p : Int)) ((Cc 3 p : Int), true) :=
  Ev.of (fun k => impl_TriCount.mono _ k) (tri_fin p (by omega) hp.1)

theorem FnPolyCount : laws_FnPolyCount.Pure := by
  intro l0 hm h8 hw
  refine Ev.rounds (g := fun k => laws_FnPolyCount.f k l0) ?_
  refine Ev.congr (fun k => by rw [laws_FnPolyCount.f]) ?_
  refine ev_ite (fun c => ev_val rfl) (fun c => ?_)
  obtain ⟨n, p, em⟩ := spec_l91Sum_ev l0 (fun x hx => wf8 (hw x hx))
  refine Ev.bind (a := (n, p)) (Ev.congr (fun k => by rw [spec_DrawPolyCount.f]) (Ev.bind em (ev_val rfl))) ?_
  by_cases h : Giv n p
  · obtain ⟨a, b, rfl, rfl, h1, h2, h3, h4⟩ := h.nat
    refine Ev.bind (impl_PolyCount_yes a b ⟨h1, h2⟩ ⟨h3, h4⟩) (Ev.bind (spec_PolyCount_yes a b ⟨h1, h2⟩ ⟨h3, h4⟩) ?_)
    refine ev_neg (by simp) ?_
    refine ev_pos rfl ?_
    refine Ev.step (fun k => by rw [laws_FnPolyCount.j0]) ?_
    refine ev_neg (by simp) ?_
    refine Ev.bind (impl_PolyRest_yes a b ⟨h1, h2⟩ ⟨h3, h4⟩) ?_
    refine Ev.bind (impl_TriCount_yes b ⟨h3, h4⟩) ?_
    refine ev_pos rfl (ev_pos rfl (ev_pos rfl ?_))
    by_cases c3 : a = 3
    · subst c3
      refine ev_pos rfl (ev_val ?_)
      simp
    · exact ev_neg (by show ¬ (a : Int) = 3; omega) (ev_val rfl)
  · refine Ev.bind (impl_PolyCount_no h) (Ev.bind (spec_PolyCount_no h) ?_)
    refine ev_neg (by simp) ?_
    refine ev_pos rfl ?_
    refine Ev.step (fun k => by rw [laws_FnPolyCount.j0]) ?_
    exact ev_pos rfl (ev_pos rfl (ev_val rfl))

end Go.Proofs.Ytcabpamfncjoeaa.Pure
