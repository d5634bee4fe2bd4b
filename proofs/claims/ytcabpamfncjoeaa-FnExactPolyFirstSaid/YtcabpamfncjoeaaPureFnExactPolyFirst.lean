/- The plain part of the proof that the law FnExactPolyFirst answers true for every input: what its printed functions compute answers true, for all lists and numbers that the walk hands over; no condition beyond those. -/
import Derived.Test.YtcabpamfncjoeaaPDx18
import Derived.Test.YtcabpamfncjoeaaM
import Derived.Test.YtcabpamfncjoeaaMf
import Derived.Test.YtcabpamfncjoeaaMq
namespace Go.Proofs.Ytcabpamfncjoeaa.Pure
open Go.RowKit Go.Proofs.Ytcabpamfncjoeaa.PD Go.Proofs.YtcabpamfncjoeaaW.PrintWords Go.Proofs.YtcabpamfncjoeaaW.PrintLast Go.Proofs.YtcabpamfncjoeaaW.PrintMore Go.Proofs.Ytcabpamfncjoeaa.M
set_option linter.unusedVariables false
set_option linter.unusedSimpArgs false
set_option maxRecDepth 4000

theorem l6In_eq (a b c : Int) : spec_l6In.f a b c = some (decide (b ≤ a ∧ a ≤ c)) := by
  unfold spec_l6In.f
  by_cases h : a ≥ b
  · rw [if_pos h]
    simp [show b ≤ a from h]
  · rw [if_neg h]
    simp [show ¬ b ≤ a from h]

def Giv (n p : Int) : Prop := 3 ≤ n ∧ n ≤ 6 ∧ 1 ≤ p ∧ p ≤ 30
theorem Giv.nat {n p : Int} (h : Giv n p) : ∃ a b : Nat, n = (a : Int) ∧ p = (b : Int) ∧ 3 ≤ a ∧ a ≤ 6 ∧ 1 ≤ b ∧ b ≤ 30 := by
  obtain ⟨h1, h2, h3, h4⟩ := h
  exact ⟨n.toNat, p.toNat, by omega, by omega, by omega, by omega, by omega, by omega⟩
theorem spec_l3Given_eq (n p : Int) : spec_l3Given.f n p = some (bl (Giv n p)) := by
  unfold spec_l3Given.f
  rw [l6In_eq, l6In_eq]
  by_cases c : 3 ≤ n ∧ n ≤ 6
  · by_cases d : 1 ≤ p ∧ p ≤ 30
    · rw [bl_true ⟨c.1, c.2, d.1, d.2⟩]; simp [c, d]
    · rw [bl_false (fun q => d ⟨q.2.2.1, q.2.2.2⟩)]; simp [c, d]
  · rw [bl_false (fun q => c ⟨q.1, q.2.1⟩)]; simp [c]
theorem ev_givC {α : Type} {n p : Int} {f g : Nat → Option α} {r : α} (h : ¬ Giv n p) (e : Ev f r) : Ev (fun k => if n < 3 then f k else if n > 6 then f k else if p < 1 then f k else if p > 30 then f k else g k) r := by
  refine ev_ite (fun _ => e) (fun h1 => ev_ite (fun _ => e) (fun h2 => ev_ite (fun _ => e) (fun h3 => ev_ite (fun _ => e) (fun h4 => ?_))))
  exact absurd ⟨by omega, by omega, by omega, by omega⟩ h
theorem len_le {n p : Nat} (hn : n ≤ 6) (hp : p ≤ 30) : (LL n p 1).length ≤ 1000 := by
  rw [Lc_len]
  exact fin2 n (by omega) p (by omega)

theorem rdL_get {L : List (List Int)} {i : Nat} (h : i < L.length) : rd_L1 L (i : Int) = L[i] := by
  simp [rd_L1, List.getD_eq_getElem?_getD, h]
theorem spec_l3Lists_ev : ∀ (m p f : Nat), m ≤ 6 → p ≤ 30 → f ≤ 31 → (LL m p f).length ≤ 1000 → Ev (fun k => spec_l3Lists.f k (m : Int) (p : Int) (f : Int)) (LL m p f) := by
  intro m
  induction m with
  | zero =>
    intro p f _ hp _ _
    refine Ev.step (fun k => by rw [spec_l3Lists.f]) ?_
    refine ev_pos rfl ?_
    unfold LL
    by_cases c : p = 0
    · rw [if_pos c]; exact ev_pos (by omega) (ev_val rfl)
    · rw [if_neg c]; exact ev_neg (by omega) (ev_val rfl)
  | succ m ih =>
    intro p f hm hp hf hlen
    have key : ∀ (d x : Nat) (s : List (List Int)), p + 1 ≤ x + d → x ≤ 31 → s.length + (TT m p x).length ≤ 1000 → Ev (fun k => spec_l3Lists.l0 k ((m + 1 : Nat) : Int) (p : Int) s (x : Int)) (s ++ TT m p x) := by
      intro d
      induction d with
      | zero =>
        intro x s hd hx hs
        have c : ¬ x * (m + 1) ≤ p := fun q => by have := mul_low q; omega
        have hb : x * (m + 1) ≤ 31 * 6 := Nat.mul_le_mul hx (by omega)
        rw [TT_end c, List.append_nil]
        refine Ev.step (fun k => by rw [spec_l3Lists.l0]) ?_
        rw [show (x : Int) * ((m + 1 : Nat) : Int) = ((x * (m + 1) : Nat) : Int) from (Int.natCast_mul _ _).symm, wid (by omega) (by omega)]
        exact ev_neg (by omega) (ev_val rfl)
      | succ d ihd =>
        intro x s hd hx hs
        have hb : x * (m + 1) ≤ 31 * 6 := Nat.mul_le_mul hx (by omega)
        refine Ev.step (fun k => by rw [spec_l3Lists.l0]) ?_
        rw [show (x : Int) * ((m + 1 : Nat) : Int) = ((x * (m + 1) : Nat) : Int) from (Int.natCast_mul _ _).symm, wid (x := ((x * (m + 1) : Nat) : Int)) (by omega) (by omega)]
        by_cases c : x * (m + 1) ≤ p
        · have hxp := mul_low c
          rw [TT_step c] at hs ⊢
          simp only [List.length_append, List.length_map] at hs
          have h1 := ih (p - x) x (by omega) (by omega) (by omega) (by omega)
          have hB : ∀ l ∈ LL m (p - x) x, l.length = m := fun l hl => (LL_mem _ _ _ l hl).1
          generalize LL m (p - x) x = B at *
          refine ev_pos (by omega) ?_
          rw [wid (x := ((m + 1 : Nat) : Int) - 1) (by omega) (by omega), show ((m + 1 : Nat) : Int) - 1 = (m : Int) by omega, wid (x := (p : Int) - (x : Int)) (by omega) (by omega), show (p : Int) - (x : Int) = ((p - x : Nat) : Int) by omega]
          refine Ev.bind h1 ?_
          have go := up_ev (σ := List (List Int)) B.length (fun k s i => spec_l3Lists.l1 k ((m + 1 : Nat) : Int) (p : Int) s (x : Int) B i) (fun s i => s ++ (((B.drop i).map fun l => (x : Int) :: l) ++ TT m p (x + 1))) (fun s i => s.length + ((B.length - i) + (TT m p (x + 1)).length) ≤ 1000)
            (by
              intro s hs
              refine Ev.step (fun k => by rw [spec_l3Lists.l1]) ?_
              refine ev_neg (by omega) ?_
              rw [wid (x := (x : Int) + 1) (by omega) (by omega), show (x : Int) + 1 = ((x + 1 : Nat) : Int) by omega, List.drop_length]
              exact ihd (x + 1) s (by omega) (by omega) (by omega))
            (by
              intro s i hi hs ih
              have hr := rdL_get hi
              have hl := hB _ (List.getElem_mem hi)
              refine Ev.step (fun k => by rw [spec_l3Lists.l1]) ?_
              refine ev_pos (by omega) ?_
              refine ev_opt rfl ?_
              refine ev_pos (by omega) ?_
              rw [hr]
              refine ev_pos (by simp only [List.length_singleton]; omega) (ev_pos (by omega) ?_)
              rw [wsucc hi (by omega)]
              refine ev_eq (ih _ (by simp only [List.length_append, List.length_singleton]; omega)) ?_
              rw [List.drop_eq_getElem_cons hi]
              simp only [List.map_cons, List.cons_append, List.append_assoc, List.nil_append])
          exact ev_eq (go s 0 (by omega) (by omega)) (by simp)
        · rw [TT_end c, List.append_nil]
          exact ev_neg (by omega) (ev_val rfl)
    refine Ev.step (fun k => by rw [spec_l3Lists.f]) ?_
    refine ev_neg (by omega) ?_
    exact ev_eq (key (p + 1) f [] (by omega) hf (by rw [List.length_nil, ← LL_TT]; omega)) rfl

theorem spec_l1Sum_ev (l : List Int) (h : Rul l) : Ev (fun k => spec_l1Sum.f k l) (tot l) := by
  have hl := h.len
  have key := up_ev (σ := Int) l.length (fun k s i => spec_l1Sum.l0 k l s i) (fun s i => s + tot (l.drop i)) (fun s i => 0 ≤ s ∧ s ≤ 60 * i)
    (by
      intro s _
      refine Ev.step (fun k => by rw [spec_l1Sum.l0]) ?_
      exact ev_neg (by omega) (ev_val (by rw [tot_drop_end]; omega)))
    (by
      intro s i hi hs ih
      have := h.1.at hi
      refine Ev.step (fun k => by rw [spec_l1Sum.l0]) ?_
      refine ev_pos (by omega) (ev_pos (by omega) ?_)
      rw [wsucc hi (by omega), wid (by omega) (by omega)]
      exact ev_eq (ih _ (by omega)) (by rw [tot_drop hi]; omega))
  refine Ev.congr (fun k => by rw [spec_l1Sum.f]) ?_
  exact ev_eq (key 0 0 (by omega) (by omega)) (by simp)

theorem spec_l3Gap_ev (l : List Int) (h : Rul l) : Ev (fun k => spec_l3Gap.f k l) (gap l) := by
  have hl := h.len
  have ht := h.tot
  have hb := lst_bd h
  refine Ev.congr (fun k => by rw [spec_l3Gap.f]) (Ev.bind (spec_l1Sum_ev l h) ?_)
  rw [wid (x := (l.length : Int) - 1) (by omega) (by omega)]
  refine ev_pos (by omega) (ev_pos (by omega) (ev_val ?_))
  show wrap64 (tot l - wrap64 (2 * lst l)) = gap l
  rw [wid (x := 2 * lst l) (by omega) (by omega), wid (by omega) (by omega)]
  rfl

theorem spec_l3Closes_ev (l : List Int) (h : Rul l) : Ev (fun k => spec_l3Closes.f k l) (decide (3 ≤ l.length ∧ 0 < gap l)) := by
  refine Ev.congr (fun k => by rw [spec_l3Closes.f]) (ev_ite (fun c => Ev.bind (spec_l3Gap_ev l h) (ev_val ?_)) (fun c => ev_val ?_))
  · exact decide_eq_decide.2 ⟨fun h => ⟨by omega, h⟩, fun h => h.2⟩
  · exact (decide_eq_false (fun h => by omega)).symm

theorem LL_clo {n p : Nat} {l : List Int} (h : l ∈ LL n p 1) (hn : 1 ≤ n ∧ n ≤ 6) (hp : p ≤ 30) : Ev (fun k => spec_l3Closes.f k l) (clo l) := spec_l3Closes_ev l (LL_bun h hn hp (by omega)).1
theorem spec_PolyCount_yes (n p : Nat) (hn : 3 ≤ n ∧ n ≤ 6) (hp : 1 ≤ p ∧ p ≤ 30) : Ev (fun k => spec_PolyCount.f k (n : Int) (p : Int)) ((Cc n p : Int), true) := by
  have hlen := len_le hn.2 hp.2
  refine Ev.congr (fun k => by rw [spec_PolyCount.f]) ?_
  refine ev_opt (spec_l3Given_eq _ _) ?_
  refine ev_pos (bl_true (P := Giv n p) ⟨by omega, by omega, by omega, by omega⟩) ?_
  refine Ev.bind (spec_l3Lists_ev n p 1 hn.2 hp.2 (by omega) hlen) ?_
  have hc := fun l hl => LL_clo (l := l) hl ⟨by omega, hn.2⟩ hp.2
  rw [← Cc_count hn.1]
  generalize LL n p 1 = L at *
  have key := up_ev (σ := Int) L.length (fun k s i => spec_PolyCount.l0 k s L i) (fun s i => (s + ((L.drop i).countP clo : Nat), true)) (fun s i => 0 ≤ s ∧ s ≤ i)
    (by
      intro s hs
      refine Ev.step (fun k => by rw [spec_PolyCount.l0]) ?_
      refine ev_neg (by omega) (ev_val ?_)
      rw [List.drop_length]
      simp)
    (by
      intro s i hi hs ih
      refine Ev.step (fun k => by rw [spec_PolyCount.l0]) ?_
      refine ev_pos (by omega) (ev_pos (by omega) ?_)
      rw [rdL_get hi, wsucc hi (by omega), List.drop_eq_getElem_cons hi, List.countP_cons]
      refine Ev.bind (hc _ (List.getElem_mem hi)) (ev_ite (fun c => ?_) (fun c => ?_))
      · rw [if_pos c, wid (x := s + 1) (by omega) (by omega)]
        refine ev_eq (ih _ (by omega)) ?_
        congr 1
        omega
      · rw [if_neg c]
        exact ih _ (by omega))
  exact ev_eq (key 0 0 (by omega) (by omega)) (by simp)
theorem spec_PolyCount_no {n p : Int} (h : ¬ Giv n p) : Ev (fun k => spec_PolyCount.f k n p) (0, false) := by
  refine Ev.congr (fun k => by rw [spec_PolyCount.f]) ?_
  refine ev_opt (spec_l3Given_eq _ _) ?_
  exact ev_neg (show ¬ (bl (Giv n p) = true) by rw [bl_false h]; simp) (ev_val rfl)

noncomputable def firstM (n p : Nat) : List Int × Bool := (((LL n p 1).find? clo).getD [], ((LL n p 1).find? clo).isSome)
theorem find_drop {L : List (List Int)} {i : Nat} (hi : i < L.length) : (L.drop i).find? clo = if clo L[i] = true then some L[i] else (L.drop (i + 1)).find? clo := by
  rw [List.drop_eq_getElem_cons hi, List.find?_cons]
  cases clo L[i] <;> rfl
theorem spec_PolyFirst_yes (n p : Nat) (hn : 3 ≤ n ∧ n ≤ 6) (hp : 1 ≤ p ∧ p ≤ 30) : Ev (fun k => spec_PolyFirst.f k (n : Int) (p : Int)) (firstM n p) := by
  have hlen := len_le hn.2 hp.2
  refine Ev.congr (fun k => by rw [spec_PolyFirst.f]) ?_
  refine ev_opt (spec_l3Given_eq _ _) ?_
  refine ev_pos (bl_true (P := Giv n p) ⟨by omega, by omega, by omega, by omega⟩) ?_
  refine Ev.bind (spec_l3Lists_ev n p 1 hn.2 hp.2 (by omega) hlen) ?_
  have hc := fun l hl => LL_clo (l := l) hl ⟨by omega, hn.2⟩ hp.2
  unfold firstM
  generalize LL n p 1 = L at *
  have key := up_ev (σ := Unit) L.length (fun k _ i => spec_PolyFirst.l0 k L i) (fun _ i => (((L.drop i).find? clo).getD [], ((L.drop i).find? clo).isSome)) (fun _ _ => True)
    (by
      intro _ _
      refine Ev.step (fun k => by rw [spec_PolyFirst.l0]) ?_
      refine ev_neg (by omega) (ev_val ?_)
      rw [List.drop_length]
      rfl)
    (by
      intro _ i hi _ ih
      refine Ev.step (fun k => by rw [spec_PolyFirst.l0]) ?_
      refine ev_pos (by omega) (ev_pos (by omega) ?_)
      rw [rdL_get hi, wsucc hi (by omega), find_drop hi]
      refine Ev.bind (hc _ (List.getElem_mem hi)) (ev_ite (fun c => ?_) (fun c => ?_))
      · rw [if_pos c]
        exact ev_val rfl
      · rw [if_neg c]
        exact ih () trivial)
  exact ev_eq (key () 0 (by omega) trivial) (by simp)
theorem spec_PolyFirst_no {n p : Int} (h : ¬ Giv n p) : Ev (fun k => spec_PolyFirst.f k n p) ([], false) := by
  refine Ev.congr (fun k => by rw [spec_PolyFirst.f]) ?_
  refine ev_opt (spec_l3Given_eq _ _) ?_
  exact ev_neg (show ¬ (bl (Giv n p) = true) by rw [bl_false h]; simp) (ev_val rfl)
theorem first_in {n p : Nat} {l : List Int} (h : (LL n p 1).find? clo = some l) : l ∈ LL n p 1 ∧ clo l = true := ⟨List.mem_of_find?_eq_some h, List.find?_some h⟩
theorem first_len {n p : Nat} (hn : 3 ≤ n ∧ n ≤ 6) : (firstM n p).1.length ≤ 6 ∧ (firstM n p).2 = !(firstM n p).1.isEmpty := by
  unfold firstM
  cases e : (LL n p 1).find? clo with
  | none => exact ⟨by simp, rfl⟩
  | some l =>
    have h1 := (LL_mem _ _ _ _ (first_in e).1).1
    refine ⟨by simp only [Option.getD_some]; omega, ?_⟩
    cases l with
    | nil => simp at h1; omega
    | cons x t => rfl

theorem lowF_app (al : List Int) (x : Int) (h : al.length ≤ 100) : lowF (al ++ [x]) = x := by
  unfold lowF
  rw [List.length_append, List.length_singleton, if_pos (by omega), wid (by omega) (by omega), show ((al.length + 1 : Nat) : Int) - 1 = (al.length : Int) by omega, rd_get (by simp)]
  simp
theorem tryF_ev (n : Nat) (hn : n ≤ 6) (tm : List Int → List Int → List Int × Bool) : ∀ (m : Nat) (al : List Int) (p f : Nat) (s : List Int), al.length + (m + 1) = n → p ≤ 30 → f ≤ 31 → lowF al = (f : Int) →
    (∀ l ∈ LL (m + 1) p f, ∀ s, Ev (fun k => tellF.f k s (al ++ l)) (tm s (al ++ l))) → Ev (fun k => tryF.f (n : Int) k s al (p : Int)) (fo tm s ((LL (m + 1) p f).map fun l => al ++ l)) := by
  intro m
  induction m with
  | zero =>
    intro al p f s hal hp hf hlo ht
    refine Ev.step (fun k => by rw [tryF.f]) ?_
    refine ev_pos (by omega) ?_
    rw [wid (x := (n : Int) - (al.length : Int)) (by omega) (by omega), hlo]
    refine ev_pos (by omega) ?_
    rw [LL_one] at ht ⊢
    by_cases c : f ≤ p
    · rw [if_pos c] at ht ⊢
      refine ev_neg (by omega) ?_
      refine ev_eq (ht _ (List.mem_singleton.2 rfl) s) ?_
      exact (fo_one tm s _).symm
    · rw [if_neg c]
      exact ev_pos (by omega) (ev_val rfl)
  | succ m ih =>
    intro al p f s hal hp hf hlo ht
    have key : ∀ (d x : Nat) (s : List Int), p + 1 ≤ x + d → f ≤ x → x ≤ 31 → Ev (fun k => tryF.l (n : Int) k s al (p : Int) (x : Int) ((m + 2 : Nat) : Int)) (fo tm s ((TT (m + 1) p x).map fun l => al ++ l)) := by
      intro d
      induction d with
      | zero =>
        intro x s hd hfx hx
        have c : ¬ x * (m + 1 + 1) ≤ p := fun q => by have := mul_low q; omega
        have hb : x * (m + 1 + 1) ≤ 31 * 6 := Nat.mul_le_mul hx (by omega)
        rw [TT_end c]
        refine Ev.step (fun k => by rw [tryF.l]) ?_
        rw [show (x : Int) * ((m + 2 : Nat) : Int) = ((x * (m + 1 + 1) : Nat) : Int) from (Int.natCast_mul _ _).symm, wid (by omega) (by omega)]
        exact ev_neg (by omega) (ev_val rfl)
      | succ d ihd =>
        intro x s hd hfx hx
        have hb : x * (m + 1 + 1) ≤ 31 * 6 := Nat.mul_le_mul hx (by omega)
        refine Ev.step (fun k => by rw [tryF.l]) ?_
        rw [show (x : Int) * ((m + 2 : Nat) : Int) = ((x * (m + 1 + 1) : Nat) : Int) from (Int.natCast_mul _ _).symm, wid (x := ((x * (m + 1 + 1) : Nat) : Int)) (by omega) (by omega)]
        by_cases c : x * (m + 1 + 1) ≤ p
        · have hxp := mul_low c
          have h1 := ih (al ++ [(x : Int)]) (p - x) x s (by simp; omega) (by omega) (by omega) (lowF_app al x (by omega)) (fun l hl s => by
            rw [List.append_assoc]
            exact ht _ (TT_mem hfx c hl) s)
          rw [TT_step c, List.map_append, fo_app, List.map_map]
          have e : ((fun l => al ++ l) ∘ fun l => (x : Int) :: l) = fun l => (al ++ [(x : Int)]) ++ l := by
            funext l
            simp
          rw [e]
          generalize fo tm s ((LL (m + 1) (p - x) x).map fun l => (al ++ [(x : Int)]) ++ l) = q at h1
          refine ev_pos (by omega) ?_
          rw [wid (x := (p : Int) - (x : Int)) (by omega) (by omega), show (p : Int) - (x : Int) = ((p - x : Nat) : Int) by omega, wid (x := (x : Int) + 1) (by omega) (by omega), show (x : Int) + 1 = ((x + 1 : Nat) : Int) by omega]
          refine Ev.bind h1 ?_
          by_cases cq : q.2 = true
          · rw [if_pos cq]
            exact ev_pos cq (ihd (x + 1) q.1 (by omega) (by omega) (by omega))
          · rw [if_neg cq]
            exact ev_neg cq (ev_val rfl)
        · rw [TT_end c]
          exact ev_neg (by omega) (ev_val rfl)
    refine Ev.step (fun k => by rw [tryF.f]) ?_
    refine ev_pos (by omega) ?_
    rw [wid (x := (n : Int) - (al.length : Int)) (by omega) (by omega), hlo, show (n : Int) - (al.length : Int) = ((m + 2 : Nat) : Int) by omega]
    exact ev_neg (by omega) (key (p + 1) f s (by omega) (Nat.le_refl _) hf)

theorem impl_sum_ev (l : List Int) (h : Rul l) : Ev (fun k => impl_sum.f k l) (tot l) := by
  have hl := h.len
  have key := up_ev (σ := Int) l.length (fun k s i => impl_sum.l0 k s l (l.length : Int) i) (fun s i => s + tot (l.drop i)) (fun s i => 0 ≤ s ∧ s ≤ 60 * i)
    (by
      intro s _
      refine Ev.step (fun k => by rw [impl_sum.l0]) ?_
      exact ev_neg (by omega) (ev_val (by rw [tot_drop_end]; omega)))
    (by
      intro s i hi hs ih
      have := h.1.at hi
      refine Ev.step (fun k => by rw [impl_sum.l0]) ?_
      refine ev_pos (by omega) (ev_pos (by omega) (ev_pos (by omega) ?_))
      rw [wsucc hi (by omega), wid (by omega) (by omega)]
      exact ev_eq (ih _ (by omega)) (by rw [tot_drop hi]; omega))
  refine Ev.congr (fun k => by rw [impl_sum.f]) ?_
  exact ev_eq (key 0 0 (by omega) (by omega)) (by simp)

theorem impl_gap_ev (l : List Int) (h : Rul l) : Ev (fun k => impl_gap.f k l) (gap l) := by
  have hl := h.len
  have ht := h.tot
  have hb := lst_bd h
  refine Ev.congr (fun k => by rw [impl_gap.f]) (Ev.bind (impl_sum_ev l h) ?_)
  rw [wid (x := (l.length : Int) - 1) (by omega) (by omega)]
  refine ev_pos (by omega) (ev_pos (by omega) (ev_val ?_))
  show wrap64 (tot l - wrap64 (2 * lst l)) = gap l
  rw [wid (x := 2 * lst l) (by omega) (by omega), wid (by omega) (by omega)]
  rfl

theorem impl_closes_ev (l : List Int) (h : Rul l) : Ev (fun k => impl_closes.f k l) (decide (3 ≤ l.length ∧ 0 < gap l)) := by
  refine Ev.congr (fun k => by rw [impl_closes.f]) (ev_ite (fun c => Ev.bind (impl_gap_ev l h) (ev_val ?_)) (fun c => ev_val ?_))
  · exact decide_eq_decide.2 ⟨fun h => ⟨by omega, h⟩, fun h => h.2⟩
  · exact (decide_eq_false (fun h => by omega)).symm

theorem tellF_ev (s l : List Int) (h : Rul l) : Ev (fun k => tellF.f k s l) (tmF s l) := by
  have hl := h.len
  unfold tmF
  refine Ev.congr (fun k => by rw [tellF.f]) (Ev.bind (impl_closes_ev l h) ?_)
  by_cases c : clo l = true
  · rw [if_pos c]
    refine ev_pos c (ev_neg ?_ (ev_val rfl))
    cases l with
    | nil => simp at hl
    | cons x t => simp
  · rw [if_neg c]; exact ev_neg c (ev_val rfl)
theorem impl_PolyFirst_yes (n p : Nat) (hn : 3 ≤ n ∧ n ≤ 6) (hp : 1 ≤ p ∧ p ≤ 30) : Ev (fun k => impl_PolyFirst.f k (n : Int) (p : Int)) (firstM n p) := by
  have hlen := len_le hn.2 hp.2
  have hf := first_len (p := p) hn
  obtain ⟨m, rfl⟩ : ∃ m, n = m + 1 := ⟨n - 1, by omega⟩
  have h := tryF_ev (m + 1) hn.2 tmF m [] p 1 [] (by simp) hp.2 (by omega) (by simp [lowF]) (fun l hl s => tellF_ev s _ (LL_bun hl ⟨by omega, hn.2⟩ hp.2 (by omega)).1)
  rw [show (fun l : List Int => [] ++ l) = id from rfl, List.map_id, fo_F] at h
  refine Ev.congr (fun k => by rw [impl_PolyFirst.f]) ?_
  refine ev_neg (by omega) (ev_neg (by omega) (ev_neg (by omega) (ev_neg (by omega) ?_)))
  refine Ev.bind h ?_
  refine ev_pos (show (firstM (m + 1) p).1.length < 1000 by omega) (ev_val ?_)
  show ((firstM (m + 1) p).1, !(firstM (m + 1) p).1.isEmpty) = firstM (m + 1) p
  rw [← hf.2]
theorem impl_PolyFirst_no {n p : Int} (h : ¬ Giv n p) : Ev (fun k => impl_PolyFirst.f k n p) ([], false) :=
  Ev.congr (fun k => by rw [impl_PolyFirst.f]) (ev_givC h (ev_val rfl))

theorem laws_eqIntS_ev (l : List Int) (hn : l.length ≤ 1000000000000000) : Ev (fun k => laws_eqIntS.f k l l) true := by
  refine Ev.congr (fun k => by rw [laws_eqIntS.f]) (ev_pos rfl ?_)
  refine up_ev (σ := Unit) l.length (fun k _ i => laws_eqIntS.l0 k l l i) (fun _ _ => true) (fun _ _ => True) ?_ ?_ () 0 (by omega) trivial
  · intro _ _
    refine Ev.step (fun k => by rw [laws_eqIntS.l0]) ?_
    exact ev_neg (by omega) (ev_val rfl)
  · intro _ i hi _ ih
    refine Ev.step (fun k => by rw [laws_eqIntS.l0]) ?_
    refine ev_pos (by omega) (ev_pos (by omega) (ev_pos (by omega) (ev_pos rfl ?_)))
    rw [wsucc hi hn]
    exact ih () trivial

theorem laws_markIntS_ev (l : List Int) (hn : l.length ≤ 1048576) : Ev (fun k => laws_markIntS.f k l 1) (1 + (l.length : Int), mkL 1 l.length) := by
  have key := up_ev (σ := List Int × Int) l.length (fun k s i => laws_markIntS.l0 k s.1 s.2 i) (fun _ _ => (1 + (l.length : Int), mkL 1 l.length)) (fun s i => s.1.length = l.length ∧ s.2 = 1 + (i : Int) ∧ ∀ j : Nat, j < i → rd s.1 (j : Int) = 1 + (j : Int))
    (by
      intro s hs
      refine Ev.step (fun k => by rw [laws_markIntS.l0]) ?_
      refine ev_neg (by omega) (ev_val ?_)
      rw [hs.2.1]
      congr 1
      refine ext_rd (by rw [mkL_len, hs.1]) fun j hj => ?_
      rw [hs.2.2 j (by omega), mkL_rd 1 (by omega)])
    (by
      intro s i hi hs ih
      refine Ev.step (fun k => by rw [laws_markIntS.l0]) ?_
      rw [wsucc hi (by omega), wid (x := s.2 + 1) (by omega) (by omega), show ((i : Nat) : Int).toNat = i by omega]
      refine ev_pos (by omega) (ev_pos (by omega) (ih (_, _) ⟨by simp [hs.1], by show s.2 + 1 = _; omega, fun j hj => ?_⟩))
      show rd (s.1.set i s.2) (j : Int) = _
      rw [rd_set _ (by omega) j (by omega)]
      by_cases e : i = j
      · rw [if_pos e]; omega
      · rw [if_neg e]; exact hs.2.2 j (by omega))
  refine Ev.congr (fun k => by rw [laws_markIntS.f]) ?_
  exact key (l, 1) 0 (by omega) ⟨rfl, by rfl, fun j hj => by omega⟩
theorem laws_heldIntS_ev (n : Nat) (hn : n ≤ 1048576) : Ev (fun k => laws_heldIntS.f k (mkL 1 n) 1) (1 + (n : Int)) := by
  have hl := mkL_len 1 n
  have key := up_ev (σ := Int) n (fun k s i => laws_heldIntS.l0 k (mkL 1 n) s i) (fun _ _ => 1 + (n : Int)) (fun s i => s = 1 + (i : Int))
    (by
      intro s hs
      refine Ev.step (fun k => by rw [laws_heldIntS.l0]) ?_
      exact ev_neg (by omega) (ev_val hs))
    (by
      intro s i hi hs ih
      refine Ev.step (fun k => by rw [laws_heldIntS.l0]) ?_
      rw [wsucc hi (by omega), wid (x := s + 1) (by omega) (by omega)]
      refine ev_pos (by omega) (ev_pos (by omega) (ev_pos (by rw [mkL_rd 1 hi, hs]) (ih _ (by omega)))))
  refine Ev.congr (fun k => by rw [laws_heldIntS.f]) ?_
  exact key 1 0 (by omega) rfl

theorem FnExactPolyFirst : laws_FnExactPolyFirst.Pure := by
  intro n p _ _
  refine Ev.rounds (g := fun k => laws_FnExactPolyFirst.f k n p) ?_
  refine Ev.congr (fun k => by rw [laws_FnExactPolyFirst.f]) ?_
  have go : ∀ r : List Int × Bool, r.1.length ≤ 6 → Ev (fun k => spec_PolyFirst.f k n p) r → Ev (fun k => impl_PolyFirst.f k n p) r → Ev (fun k => (spec_PolyFirst.f k n p).bind fun bt205 => ((impl_PolyFirst.f k n p).bind fun bt209 => ((laws_eqIntS.f k bt209.1 bt205.1).bind fun t213 => (if t213 = true then (laws_FnExactPolyFirst.j0 k n p bt205.1 bt205.2 bt209.1 (bt209.2 != bt205.2)) else (laws_FnExactPolyFirst.j0 k n p bt205.1 bt205.2 bt209.1 true))))) true := by
    intro r hr es ei
    have eq := laws_eqIntS_ev r.1 (by omega)
    refine Ev.bind es (Ev.bind ei (Ev.bind eq (ev_pos rfl ?_)))
    refine Ev.step (fun k => by rw [laws_FnExactPolyFirst.j0]) (ev_neg (by simp) ?_)
    refine Ev.bind (laws_markIntS_ev r.1 (by omega)) (Ev.bind (laws_heldIntS_ev r.1.length (by omega)) (ev_neg (by omega) (ev_pos rfl ?_)))
    refine Ev.bind ei (Ev.bind eq (ev_pos rfl ?_))
    refine Ev.step (fun k => by rw [laws_FnExactPolyFirst.j1]) (ev_neg (by simp) ?_)
    exact Ev.bind (laws_heldIntS_ev r.1.length (by omega)) (ev_neg (by omega) (ev_pos rfl (ev_val rfl)))
  by_cases h : Giv n p
  · obtain ⟨a, b, rfl, rfl, h1, h2, h3, h4⟩ := h.nat
    exact go _ (first_len ⟨h1, h2⟩).1 (spec_PolyFirst_yes a b ⟨h1, h2⟩ ⟨h3, h4⟩) (impl_PolyFirst_yes a b ⟨h1, h2⟩ ⟨h3, h4⟩)
  · exact go ([], false) (by simp) (spec_PolyFirst_no h) (impl_PolyFirst_no h)

end Go.Proofs.Ytcabpamfncjoeaa.Pure
