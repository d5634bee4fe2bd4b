/- The plain part of the proof that the law FnExactPolyCount answers true for every input: what its printed functions compute answers true, for all lists and numbers that the walk hands over; no condition beyond those. -/
import Derived.Test.YtcabpamfncjoeaaPDx7
import Derived.Test.YtcabpamfncjoeaaM
import Derived.Test.YtcabpamfncjoeaaMf
import Derived.Test.YtcabpamfncjoeaaMq
namespace Go.Proofs.Ytcabpamfncjoeaa.Pure
open Go.RowKit Go.Proofs.Ytcabpamfncjoeaa.PD Go.Proofs.YtcabpamfncjoeaaW.PrintWords Go.Proofs.YtcabpamfncjoeaaW.PrintLast Go.Proofs.YtcabpamfncjoeaaW.PrintMore Go.Proofs.Ytcabpamfncjoeaa.M
set_option linter.unusedVariables false
set_option linter.unusedSimpArgs false
set_option maxRecDepth 4000

theorem l6In_eq (a b c : Int) : spec_l6In.f a b c = some (decide (b ≤ a ∧ a ≤ c)) := by
  unfold spec_l6In.f
  by_cases h : a ≥ b
  · rw [if_pos h]
    simp [show b ≤ a from h]
  · rw [if_neg h]
    simp [show ¬ b ≤ a from h]

def Giv (n p : Int) : Prop := 3 ≤ n ∧ n ≤ 6 ∧ 1 ≤ p ∧ p ≤ 30
theorem Giv.nat {n p : Int} (h : Giv n p) : ∃ a b : Nat, n = (a : Int) ∧ p = (b : Int) ∧ 3 ≤ a ∧ a ≤ 6 ∧ 1 ≤ b ∧ b ≤ 30 := by
  obtain ⟨h1, h2, h3, h4⟩ := h
  exact ⟨n.toNat, p.toNat, by omega, by omega, by omega, by omega, by omega, by omega⟩
theorem spec_l3Given_eq (n p : Int) : spec_l3Given.f n p = some (bl (Giv n p)) := by
  unfold spec_l3Given.f
  rw [l6In_eq, l6In_eq]
  by_cases c : 3 ≤ n ∧ n ≤ 6
  · by_cases d : 1 ≤ p ∧ p ≤ 30
    · rw [bl_true ⟨c.1, c.2, d.1, d.2⟩]; simp [c, d]
    · rw [bl_false (fun q => d ⟨q.2.2.1, q.2.2.2⟩)]; simp [c, d]
  · rw [bl_false (fun q => c ⟨q.1, q.2.1⟩)]; simp [c]
theorem ev_givC {α : Type} {n p : Int} {f g : Nat → Option α} {r : α} (h : ¬ Giv n p) (e : Ev f r) : Ev (fun k => if n < 3 then f k else if n > 6 then f k else if p < 1 then f k else if p > 30 then f k else g k) r := by
  refine ev_ite (fun _ => e) (fun h1 => ev_ite (fun _ => e) (fun h2 => ev_ite (fun _ => e) (fun h3 => ev_ite (fun _ => e) (fun h4 => ?_))))
  exact absurd ⟨by omega, by omega, by omega, by omega⟩ h
theorem len_le {n p : Nat} (hn : n ≤ 6) (hp : p ≤ 30) : (LL n p 1).length ≤ 1000 := by
  rw [Lc_len]
  exact fin2 n (by omega) p (by omega)

theorem rdL_get {L : List (List Int)} {i : Nat} (h : i < L.length) : rd_L1 L (i : Int) = L[i] := by
  simp [rd_L1, List.getD_eq_getElem?_getD, h]
theorem spec_l3Lists_ev : ∀ (m p f : Nat), m ≤ 6 → p ≤ 30 → f ≤ 31 → (LL m p f).length ≤ 1000 → Ev (fun k => spec_l3Lists.f k (m : Int) (p : Int) (f : Int)) (LL m p f) := by
  intro m
  induction m with
  | zero =>
    intro p f _ hp _ _
    refine Ev.step (fun k => by rw [spec_l3Lists.f]) ?_
    refine ev_pos rfl ?_
    unfold LL
    by_cases c : p = 0
    · rw [if_pos c]; exact ev_pos (by omega) (ev_val rfl)
    · rw [if_neg c]; exact ev_neg (by omega) (ev_val rfl)
  | succ m ih =>
    intro p f hm hp hf hlen
    have key : ∀ (d x : Nat) (s : List (List Int)), p + 1 ≤ x + d → x ≤ 31 → s.length + (TT m p x).length ≤ 1000 → Ev (fun k => spec_l3Lists.l0 k ((m + 1 : Nat) : Int) (p : Int) s (x : Int)) (s ++ TT m p x) := by
      intro d
      induction d with
      | zero =>
        intro x s hd hx hs
        have c : ¬ x * (m + 1) ≤ p := fun q => by have := mul_low q; omega
        have hb : x * (m + 1) ≤ 31 * 6 := Nat.mul_le_mul hx (by omega)
        rw [TT_end c, List.append_nil]
        refine Ev.step (fun k => by rw [spec_l3Lists.l0]) ?_
        rw [show (x : Int) * ((m + 1 : Nat) : Int) = ((x * (m + 1) : Nat) : Int) from (Int.natCast_mul _ _).symm, wid (by omega) (by omega)]
        exact ev_neg (by omega) (ev_val rfl)
      | succ d ihd =>
        intro x s hd hx hs
        have hb : x * (m + 1) ≤ 31 * 6 := Nat.mul_le_mul hx (by omega)
        refine Ev.step (fun k => by rw [spec_l3Lists.l0]) ?_
        rw [show (x : Int) * ((m + 1 : Nat) : Int) = ((x * (m + 1) : Nat) : Int) from (Int.natCast_mul _ _).symm, wid (x := ((x * (m + 1) : Nat) : Int)) (by omega) (by omega)]
        by_cases c : x * (m + 1) ≤ p
        · have hxp := mul_low c
          rw [TT_step c] at hs ⊢
          simp only [List.length_append, List.length_map] at hs
          have h1 := ih (p - x) x (by omega) (by omega) (by omega) (by omega)
          have hB : ∀ l ∈ LL m (p - x) x, l.length = m := fun l hl => (LL_mem _ _ _ l hl).1
          generalize LL m (p - x) x = B at *
          refine ev_pos (by omega) ?_
          rw [wid (x := ((m + 1 : Nat) : Int) - 1) (by omega) (by omega), show ((m + 1 : Nat) : Int) - 1 = (m : Int) by omega, wid (x := (p : Int) - (x : Int)) (by omega) (by omega), show (p : Int) - (x : Int) = ((p - x : Nat) : Int) by omega]
          refine Ev.bind h1 ?_
          have go := up_ev (σ := List (List Int)) B.length (fun k s i => spec_l3Lists.l1 k ((m + 1 : Nat) : Int) (p : Int) s (x : Int) B i) (fun s i => s ++ (((B.drop i).map fun l => (x : Int) :: l) ++ TT m p (x + 1))) (fun s i => s.length + ((B.length - i) + (TT m p (x + 1)).length) ≤ 1000)
            (by
              intro s hs
              refine Ev.step (fun k => by rw [spec_l3Lists.l1]) ?_
              refine ev_neg (by omega) ?_
              rw [wid (x := (x : Int) + 1) (by omega) (by omega), show (x : Int) + 1 = ((x + 1 : Nat) : Int) by omega, List.drop_length]
              exact ihd (x + 1) s (by omega) (by omega) (by omega))
            (by
              intro s i hi hs ih
              have hr := rdL_get hi
              have hl := hB _ (List.getElem_mem hi)
              refine Ev.step (fun k => by rw [spec_l3Lists.l1]) ?_
              refine ev_pos (by omega) ?_
              refine ev_opt rfl ?_
              refine ev_pos (by omega) ?_
              rw [hr]
              refine ev_pos (by simp only [List.length_singleton]; omega) (ev_pos (by omega) ?_)
              rw [wsucc hi (by omega)]
              refine ev_eq (ih _ (by simp only [List.length_append, List.length_singleton]; omega)) ?_
              rw [List.drop_eq_getElem_cons hi]
              simp only [List.map_cons, List.cons_append, List.append_assoc, List.nil_append])
          exact ev_eq (go s 0 (by omega) (by omega)) (by simp)
        · rw [TT_end c, List.append_nil]
          exact ev_neg (by omega) (ev_val rfl)
    refine Ev.step (fun k => by rw [spec_l3Lists.f]) ?_
    refine ev_neg (by omega) ?_
    exact ev_eq (key (p + 1) f [] (by omega) hf (by rw [List.length_nil, ← LL_TT]; omega)) rfl

theorem spec_l1Sum_ev (l : List Int) (h : Rul l) : Ev (fun k => spec_l1Sum.f k l) (tot l) := by
  have hl := h.len
  have key := up_ev (σ := Int) l.length (fun k s i => spec_l1Sum.l0 k l s i) (fun s i => s + tot (l.drop i)) (fun s i => 0 ≤ s ∧ s ≤ 60 * i)
    (by
      intro s _
      refine Ev.step (fun k => by rw [spec_l1Sum.l0]) ?_
      exact ev_neg (by omega) (ev_val (by rw [tot_drop_end]; omega)))
    (by
      intro s i hi hs ih
      have := h.1.at hi
      refine Ev.step (fun k => by rw [spec_l1Sum.l0]) ?_
      refine ev_pos (by omega) (ev_pos (by omega) ?_)
      rw [wsucc hi (by omega), wid (by omega) (by omega)]
      exact ev_eq (ih _ (by omega)) (by rw [tot_drop hi]; omega))
  refine Ev.congr (fun k => by rw [spec_l1Sum.f]) ?_
  exact ev_eq (key 0 0 (by omega) (by omega)) (by simp)

theorem spec_l3Gap_ev (l : List Int) (h : Rul l) : Ev (fun k => spec_l3Gap.f k l) (gap l) := by
  have hl := h.len
  have ht := h.tot
  have hb := lst_bd h
  refine Ev.congr (fun k => by rw [spec_l3Gap.f]) (Ev.bind (spec_l1Sum_ev l h) ?_)
  rw [wid (x := (l.length : Int) - 1) (by omega) (by omega)]
  refine ev_pos (by omega) (ev_pos (by omega) (ev_val ?_))
  show wrap64 (tot l - wrap64 (2 * lst l)) = gap l
  rw [wid (x := 2 * lst l) (by omega) (by omega), wid (by omega) (by omega)]
  rfl

theorem spec_l3Closes_ev (l : List Int) (h : Rul l) : Ev (fun k => spec_l3Closes.f k l) (decide (3 ≤ l.length ∧ 0 < gap l)) := by
  refine Ev.congr (fun k => by rw [spec_l3Closes.f]) (ev_ite (fun c => Ev.bind (spec_l3Gap_ev l h) (ev_val ?_)) (fun c => ev_val ?_))
  · exact decide_eq_decide.2 ⟨fun h => ⟨by omega, h⟩, fun h => h.2⟩
  · exact (decide_eq_false (fun h => by omega)).symm

theorem LL_clo {n p : Nat} {l : List Int} (h : l ∈ LL n p 1) (hn : 1 ≤ n ∧ n ≤ 6) (hp : p ≤ 30) : Ev (fun k => spec_l3Closes.f k l) (clo l) := spec_l3Closes_ev l (LL_bun h hn hp (by omega)).1
theorem spec_PolyCount_yes (n p : Nat) (hn : 3 ≤ n ∧ n ≤ 6) (hp : 1 ≤ p ∧ p ≤ 30) : Ev (fun k => spec_PolyCount.f k (n : Int) (p : Int)) ((Cc n p : Int), true) := by
  have hlen := len_le hn.2 hp.2
  refine Ev.congr (fun k => by rw [spec_PolyCount.f]) ?_
  refine ev_opt (spec_l3Given_eq _ _) ?_
  refine ev_pos (bl_true (P := Giv n p) ⟨by omega, by omega, by omega, by omega⟩) ?_
  refine Ev.bind (spec_l3Lists_ev n p 1 hn.2 hp.2 (by omega) hlen) ?_
  have hc := fun l hl => LL_clo (l := l) hl ⟨by omega, hn.2⟩ hp.2
  rw [← Cc_count hn.1]
  generalize LL n p 1 = L at *
  have key := up_ev (σ := Int) L.length (fun k s i => spec_PolyCount.l0 k s L i) (fun s i => (s + ((L.drop i).countP clo : Nat), true)) (fun s i => 0 ≤ s ∧ s ≤ i)
    (by
      intro s hs
      refine Ev.step (fun k => by rw [spec_PolyCount.l0]) ?_
      refine ev_neg (by omega) (ev_val ?_)
      rw [List.drop_length]
      simp)
    (by
      intro s i hi hs ih
      refine Ev.step (fun k => by rw [spec_PolyCount.l0]) ?_
      refine ev_pos (by omega) (ev_pos (by omega) ?_)
      rw [rdL_get hi, wsucc hi (by omega), List.drop_eq_getElem_cons hi, List.countP_cons]
      refine Ev.bind (hc _ (List.getElem_mem hi)) (ev_ite (fun c => ?_) (fun c => ?_))
      · rw [if_pos c, wid (x := s + 1) (by omega) (by omega)]
        refine ev_eq (ih _ (by omega)) ?_
        congr 1
        omega
      · rw [if_neg c]
        exact ih _ (by omega))
  exact ev_eq (key 0 0 (by omega) (by omega)) (by simp)
theorem spec_PolyCount_no {n p : Int} (h : ¬ Giv n p) : Ev (fun k => spec_PolyCount.f k n p) (0, false) := by
  refine Ev.congr (fun k => by rw [spec_PolyCount.f]) ?_
  refine ev_opt (spec_l3Given_eq _ _) ?_
  exact ev_neg (show ¬ (bl (Giv n p) = true) by rw [bl_false h]; simp) (ev_val rfl)

theorem lowC_app (al : List Int) (x : Int) (h : al.length ≤ 100) : lowC (al ++ [x]) = x := by
  unfold lowC
  rw [List.length_append, List.length_singleton, if_pos (by omega), wid (by omega) (by omega), show ((al.length + 1 : Nat) : Int) - 1 = (al.length : Int) by omega, rd_get (by simp)]
  simp
theorem tryC_ev (n : Nat) (hn : n ≤ 6) (tm : Int → List Int → Int × Bool) : ∀ (m : Nat) (al : List Int) (p f : Nat) (s : Int), al.length + (m + 1) = n → p ≤ 30 → f ≤ 31 → lowC al = (f : Int) →
    (∀ l ∈ LL (m + 1) p f, ∀ s, Ev (fun k => tellC.f k s (al ++ l)) (tm s (al ++ l))) → Ev (fun k => tryC.f (n : Int) k s al (p : Int)) (fo tm s ((LL (m + 1) p f).map fun l => al ++ l)) := by
  intro m
  induction m with
  | zero =>
    intro al p f s hal hp hf hlo ht
    refine Ev.step (fun k => by rw [tryC.f]) ?_
    refine ev_pos (by omega) ?_
    rw [wid (x := (n : Int) - (al.length : Int)) (by omega) (by omega), hlo]
    refine ev_pos (by omega) ?_
    rw [LL_one] at ht ⊢
    by_cases c : f ≤ p
    · rw [if_pos c] at ht ⊢
      refine ev_neg (by omega) ?_
      refine ev_eq (ht _ (List.mem_singleton.2 rfl) s) ?_
      exact (fo_one tm s _).symm
    · rw [if_neg c]
      exact ev_pos (by omega) (ev_val rfl)
  | succ m ih =>
    intro al p f s hal hp hf hlo ht
    have key : ∀ (d x : Nat) (s : Int), p + 1 ≤ x + d → f ≤ x → x ≤ 31 → Ev (fun k => tryC.l (n : Int) k s al (p : Int) (x : Int) ((m + 2 : Nat) : Int)) (fo tm s ((TT (m + 1) p x).map fun l => al ++ l)) := by
      intro d
      induction d with
      | zero =>
        intro x s hd hfx hx
        have c : ¬ x * (m + 1 + 1) ≤ p := fun q => by have := mul_low q; omega
        have hb : x * (m + 1 + 1) ≤ 31 * 6 := Nat.mul_le_mul hx (by omega)
        rw [TT_end c]
        refine Ev.step (fun k => by rw [tryC.l]) ?_
        rw [show (x : Int) * ((m + 2 : Nat) : Int) = ((x * (m + 1 + 1) : Nat) : Int) from (Int.natCast_mul _ _).symm, wid (by omega) (by omega)]
        exact ev_neg (by omega) (ev_val rfl)
      | succ d ihd =>
        intro x s hd hfx hx
        have hb : x * (m + 1 + 1) ≤ 31 * 6 := Nat.mul_le_mul hx (by omega)
        refine Ev.step (fun k => by rw [tryC.l]) ?_
        rw [show (x : Int) * ((m + 2 : Nat) : Int) = ((x * (m + 1 + 1) : Nat) : Int) from (Int.natCast_mul _ _).symm, wid (x := ((x * (m + 1 + 1) : Nat) : Int)) (by omega) (by omega)]
        by_cases c : x * (m + 1 + 1) ≤ p
        · have hxp := mul_low c
          have h1 := ih (al ++ [(x : Int)]) (p - x) x s (by simp; omega) (by omega) (by omega) (lowC_app al x (by omega)) (fun l hl s => by
            rw [List.append_assoc]
            exact ht _ (TT_mem hfx c hl) s)
          rw [TT_step c, List.map_append, fo_app, List.map_map]
          have e : ((fun l => al ++ l) ∘ fun l => (x : Int) :: l) = fun l => (al ++ [(x : Int)]) ++ l := by
            funext l
            simp
          rw [e]
          generalize fo tm s ((LL (m + 1) (p - x) x).map fun l => (al ++ [(x : Int)]) ++ l) = q at h1
          refine ev_pos (by omega) ?_
          rw [wid (x := (p : Int) - (x : Int)) (by omega) (by omega), show (p : Int) - (x : Int) = ((p - x : Nat) : Int) by omega, wid (x := (x : Int) + 1) (by omega) (by omega), show (x : Int) + 1 = ((x + 1 : Nat) : Int) by omega]
          refine Ev.bind h1 ?_
          by_cases cq : q.2 = true
          · rw [if_pos cq]
            exact ev_pos cq (ihd (x + 1) q.1 (by omega) (by omega) (by omega))
          · rw [if_neg cq]
            exact ev_neg cq (ev_val rfl)
        · rw [TT_end c]
          exact ev_neg (by omega) (ev_val rfl)
    refine Ev.step (fun k => by rw [tryC.f]) ?_
    refine ev_pos (by omega) ?_
    rw [wid (x := (n : Int) - (al.length : Int)) (by omega) (by omega), hlo, show (n : Int) - (al.length : Int) = ((m + 2 : Nat) : Int) by omega]
    exact ev_neg (by omega) (key (p + 1) f s (by omega) (Nat.le_refl _) hf)

theorem impl_sum_ev (l : List Int) (h : Rul l) : Ev (fun k => impl_sum.f k l) (tot l) := by
  have hl := h.len
  have key := up_ev (σ := Int) l.length (fun k s i => impl_sum.l0 k s l (l.length : Int) i) (fun s i => s + tot (l.drop i)) (fun s i => 0 ≤ s ∧ s ≤ 60 * i)
    (by
      intro s _
      refine Ev.step (fun k => by rw [impl_sum.l0]) ?_
      exact ev_neg (by omega) (ev_val (by rw [tot_drop_end]; omega)))
    (by
      intro s i hi hs ih
      have := h.1.at hi
      refine Ev.step (fun k => by rw [impl_sum.l0]) ?_
      refine ev_pos (by omega) (ev_pos (by omega) (ev_pos (by omega) ?_))
      rw [wsucc hi (by omega), wid (by omega) (by omega)]
      exact ev_eq (ih _ (by omega)) (by rw [tot_drop hi]; omega))
  refine Ev.congr (fun k => by rw [impl_sum.f]) ?_
  exact ev_eq (key 0 0 (by omega) (by omega)) (by simp)

theorem impl_gap_ev (l : List Int) (h : Rul l) : Ev (fun k => impl_gap.f k l) (gap l) := by
  have hl := h.len
  have ht := h.tot
  have hb := lst_bd h
  refine Ev.congr (fun k => by rw [impl_gap.f]) (Ev.bind (impl_sum_ev l h) ?_)
  rw [wid (x := (l.length : Int) - 1) (by omega) (by omega)]
  refine ev_pos (by omega) (ev_pos (by omega) (ev_val ?_))
  show wrap64 (tot l - wrap64 (2 * lst l)) = gap l
  rw [wid (x := 2 * lst l) (by omega) (by omega), wid (by omega) (by omega)]
  rfl

theorem impl_closes_ev (l : List Int) (h : Rul l) : Ev (fun k => impl_closes.f k l) (decide (3 ≤ l.length ∧ 0 < gap l)) := by
  refine Ev.congr (fun k => by rw [impl_closes.f]) (ev_ite (fun c => Ev.bind (impl_gap_ev l h) (ev_val ?_)) (fun c => ev_val ?_))
  · exact decide_eq_decide.2 ⟨fun h => ⟨by omega, h⟩, fun h => h.2⟩
  · exact (decide_eq_false (fun h => by omega)).symm

theorem tellC_ev (s : Int) (l : List Int) (h : Rul l) : Ev (fun k => tellC.f k s l) (tmC s l) := by
  unfold tmC
  refine Ev.congr (fun k => by rw [tellC.f]) (Ev.bind (impl_closes_ev l h) ?_)
  by_cases c : clo l = true
  · rw [if_pos c]; exact ev_pos c (ev_val rfl)
  · rw [if_neg c]; exact ev_neg c (ev_val rfl)
theorem impl_PolyCount_yes (n p : Nat) (hn : 3 ≤ n ∧ n ≤ 6) (hp : 1 ≤ p ∧ p ≤ 30) : Ev (fun k => impl_PolyCount.f k (n : Int) (p : Int)) ((Cc n p : Int), true) := by
  have hlen := len_le hn.2 hp.2
  obtain ⟨m, rfl⟩ : ∃ m, n = m + 1 := ⟨n - 1, by omega⟩
  have h := tryC_ev (m + 1) hn.2 tmC m [] p 1 0 (by simp) hp.2 (by omega) (by simp [lowC]) (fun l hl s => tellC_ev s _ (LL_bun hl ⟨by omega, hn.2⟩ hp.2 (by omega)).1)
  rw [show (fun l : List Int => [] ++ l) = id from rfl, List.map_id, fo_C _ 0 (by omega) (by omega), Cc_count hn.1] at h
  refine Ev.congr (fun k => by rw [impl_PolyCount.f]) ?_
  refine ev_neg (by omega) (ev_neg (by omega) (ev_neg (by omega) (ev_neg (by omega) ?_)))
  refine Ev.bind h (ev_val ?_)
  simp
theorem impl_PolyCount_no {n p : Int} (h : ¬ Giv n p) : Ev (fun k => impl_PolyCount.f k n p) (0, false) :=
  Ev.congr (fun k => by rw [impl_PolyCount.f]) (ev_givC h (ev_val rfl))

theorem FnExactPolyCount : laws_FnExactPolyCount.Pure := by
  intro n p _ _
  refine Ev.rounds (g := fun k => laws_FnExactPolyCount.f k n p) ?_
  refine Ev.congr (fun k => by rw [laws_FnExactPolyCount.f]) ?_
  by_cases h : Giv n p
  · obtain ⟨a, b, rfl, rfl, h1, h2, h3, h4⟩ := h.nat
    exact Ev.bind (spec_PolyCount_yes a b ⟨h1, h2⟩ ⟨h3, h4⟩) (Ev.bind (impl_PolyCount_yes a b ⟨h1, h2⟩ ⟨h3, h4⟩) (ev_pos rfl (ev_neg (by simp) (ev_val rfl))))
  · exact Ev.bind (spec_PolyCount_no h) (Ev.bind (impl_PolyCount_no h) (ev_pos rfl (ev_neg (by simp) (ev_val rfl))))

end Go.Proofs.Ytcabpamfncjoeaa.Pure
