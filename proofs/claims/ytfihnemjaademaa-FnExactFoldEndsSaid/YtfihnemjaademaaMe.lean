/- Plain words on the places where folded rulers end, for the proofs of this seat's statements; no condition. -/
import Derived.Test.YtfihnemjaademaaMf
import Derived.Lib.SlicesCompact
import Derived.Lib.RowBridge
namespace Go.Proofs.Ytfihnemjaademaa.M
open Go.RowKit Go.Proofs.YtfihnemjaademaaW.PrintWords Go.Proofs.YtfihnemjaademaaW.PrintLast Go.Proofs.YtfihnemjaademaaW.PrintMore Go.Lib
set_option linter.unusedVariables false
set_option linter.unusedSimpArgs false
/-! ### strictly ascending lists (plan for FoldEnds' pure part) -/
def SAsc (l : List Int) : Prop := l.Pairwise (fun x y => x < y)
theorem sasc_ext : ∀ (l m : List Int), SAsc l → SAsc m → (∀ x, x ∈ l ↔ x ∈ m) → l = m := by
  intro l
  induction l with
  | nil =>
    intro m _ _ h
    cases m with
    | nil => rfl
    | cons b t => exact absurd ((h b).2 (by simp)) (by simp)
  | cons a s ih =>
    intro m hl hm h
    cases m with
    | nil => exact absurd ((h a).1 (by simp)) (by simp)
    | cons b t =>
      have hl' := List.pairwise_cons.1 hl
      have hm' := List.pairwise_cons.1 hm
      have e : a = b := by
        have h1 := (h a).1 (by simp)
        have h2 := (h b).2 (by simp)
        rcases List.mem_cons.1 h1 with q | q
        · exact q
        · rcases List.mem_cons.1 h2 with q2 | q2
          · exact q2.symm
          · have a1 := hm'.1 a q
            have a2 := hl'.1 b q2
            omega
      subst e
      rw [ih t hl'.2 hm'.2 (fun x => ?_)]
      constructor
      · intro hx
        have := hl'.1 x hx
        rcases List.mem_cons.1 ((h x).1 (List.mem_cons_of_mem _ hx)) with q | q
        · omega
        · exact q
      · intro hx
        have := hm'.1 x hx
        rcases List.mem_cons.1 ((h x).2 (List.mem_cons_of_mem _ hx)) with q | q
        · omega
        · exact q
/- next: for a sorted zs: SAsc (Lib.compact zs) and x ∈ Lib.compact zs ↔ x ∈ zs (Lib.compact zs = ((List.range n).filter (keeps d)).map (d[·]!), Derived/Lib/SlicesCompact.lean). -/
theorem comp_mem (zs : List Int) (x : Int) : x ∈ compact zs ↔ x ∈ zs := by
  unfold compact compactUpTo
  rw [List.mem_map]
  constructor
  · rintro ⟨j, hj, rfl⟩
    have h := (List.mem_filter.1 hj).1
    rw [List.mem_range] at h
    rw [getElem!_pos zs.toArray j (by simpa using h)]
    simp
  · intro hx
    obtain ⟨i, hi, rfl⟩ := List.mem_iff_getElem.1 hx
    have key : ∀ i : Nat, (hi : i < zs.length) → ∃ j, j ∈ (List.range zs.length).filter (keeps zs.toArray) ∧ zs.toArray[j]! = zs.toArray[i]! := by
      intro i
      induction i with
      | zero => intro hi; exact ⟨0, List.mem_filter.2 ⟨by simpa using hi, by simp [keeps]⟩, rfl⟩
      | succ i ih =>
        intro hi
        by_cases c : zs.toArray[i + 1]! = zs.toArray[i]!
        · obtain ⟨j, h1, h2⟩ := ih (by omega)
          exact ⟨j, h1, by rw [h2, c]⟩
        · exact ⟨i + 1, List.mem_filter.2 ⟨by simpa using hi, by unfold keeps; exact decide_eq_true (Or.inr c)⟩, rfl⟩
    obtain ⟨j, h1, h2⟩ := key i hi
    refine ⟨j, h1, ?_⟩
    rw [h2, getElem!_pos zs.toArray i (by simpa using hi)]
    simp
theorem comp_asc {zs : List Int} (h : zs.Pairwise (fun x y => x ≤ y)) : (compact zs).Pairwise (fun x y => x < y) := by
  unfold compact compactUpTo
  rw [List.pairwise_map]
  have hle : ∀ i j : Nat, i ≤ j → j < zs.length → zs.toArray[i]! ≤ zs.toArray[j]! := by
    intro i j hij hj
    rw [getElem!_pos zs.toArray i (by simp; omega), getElem!_pos zs.toArray j (by simpa using hj)]
    rcases Nat.lt_or_ge i j with q | q
    · have := List.pairwise_iff_getElem.1 h i j (by omega) hj q
      simpa using this
    · have e : i = j := by omega
      subst e
      exact Int.le_refl _
  refine (List.Pairwise.and_mem.1 (List.Pairwise.filter _ (List.pairwise_lt_range (n := zs.length)))).imp ?_
  rintro i j ⟨hi, hj, hij⟩
  have h1 := List.mem_filter.1 hj
  have hjn := h1.1
  rw [List.mem_range] at hjn
  have hk := of_decide_eq_true (show decide (j = 0 ∨ zs.toArray[j]! ≠ zs.toArray[j - 1]!) = true from h1.2)
  have a1 := hle i (j - 1) (by omega) (by omega)
  have a2 := hle (j - 1) j (by omega) hjn
  rcases hk with q | q
  · omega
  · omega

/-! ### the places where the last stick ends -/
def endsTo (l : List Int) : Nat → List Int
  | 0 => []
  | s + 1 => if (endM l s l.length).1 ≥ 0 then endsTo l s ++ [(endM l s l.length).1] else endsTo l s
theorem endsTo_len (l : List Int) : ∀ m : Nat, (endsTo l m).length ≤ m := by
  intro m
  induction m with
  | zero => exact Nat.le_refl _
  | succ m ih =>
    unfold endsTo
    split
    · rw [List.length_append]
      simp
      exact ih
    · omega
theorem endsTo_mem (l : List Int) (x : Int) : ∀ m : Nat, x ∈ endsTo l m ↔ (0 ≤ x ∧ cntTo (fun s => (endM l s l.length).1) x m ≠ 0) := by
  intro m
  induction m with
  | zero => simp [endsTo, cntTo]
  | succ m ih =>
    have e2 : cntTo (fun s => (endM l s l.length).1) x (m + 1) = cntTo (fun s => (endM l s l.length).1) x m + (if (endM l m l.length).1 = x then 1 else 0) := rfl
    rw [e2]
    unfold endsTo
    generalize (endM l m l.length).1 = v at *
    generalize cntTo (fun s => (endM l s l.length).1) x m = c at *
    by_cases h : v ≥ 0
    · rw [if_pos h, List.mem_append, List.mem_singleton, ih]
      by_cases e : v = x
      · rw [if_pos e]
        constructor
        · intro _; omega
        · intro _; exact Or.inr e.symm
      · rw [if_neg e]
        constructor
        · rintro (q | q)
          · exact ⟨q.1, by omega⟩
          · exact absurd q.symm e
        · intro q
          exact Or.inl ⟨q.1, by omega⟩
    · rw [if_neg h, ih]
      by_cases e : v = x
      · rw [if_pos e]
        constructor
        · intro q; omega
        · intro q; omega
      · rw [if_neg e]
        rfl
theorem cntTo_pos (f : Nat → Int) {s : Nat} : ∀ m : Nat, s < m → cntTo f (f s) m ≠ 0 := by
  intro m
  induction m with
  | zero => intro h; omega
  | succ m ih =>
    intro h
    have e2 : cntTo f (f s) (m + 1) = cntTo f (f s) m + (if f m = f s then 1 else 0) := rfl
    rw [e2]
    by_cases e : s = m
    · subst e
      rw [if_pos rfl]
      omega
    · have := ih (by omega)
      omega
def endsM (l : List Int) : List Int := compact ((endsTo l (2 ^ l.length)).mergeSort fun x y => decide (x ≤ y))
theorem endsM_mem (l : List Int) (x : Int) : x ∈ endsM l ↔ (0 ≤ x ∧ cnt l x ≠ 0) := by
  unfold endsM
  rw [comp_mem, List.mem_mergeSort, endsTo_mem, cntTo_cnt l.length l rfl]
theorem endsM_asc (l : List Int) : SAsc (endsM l) := by
  unfold endsM
  refine comp_asc ?_
  have h := List.pairwise_mergeSort (le := fun (x y : Int) => decide (x ≤ y)) (by intro a b c h1 h2; simp only [decide_eq_true_eq] at *; omega) (by intro a b; simp only [Bool.or_eq_true, decide_eq_true_eq]; omega) (endsTo l (2 ^ l.length))
  exact h.imp (fun h => of_decide_eq_true h)
theorem endsM_rev (l : List Int) : endsM l.reverse = endsM l := by
  refine sasc_ext _ _ (endsM_asc _) (endsM_asc _) (fun x => ?_)
  rw [endsM_mem, endsM_mem, cnt_rev]
theorem cnt_bd : ∀ (l : List Int), (∀ y ∈ l, 0 ≤ y) → 0 ≤ tot l ∧ ∀ v : Int, cnt l v ≠ 0 → - tot l ≤ v ∧ v ≤ tot l := by
  intro l
  induction l with
  | nil =>
    intro _
    refine ⟨Int.le_refl _, fun v h => ?_⟩
    have h : (if v = 0 then 1 else 0) ≠ 0 := h
    by_cases c : v = 0
    · rw [c]; simp [tot]
    · rw [if_neg c] at h; exact absurd rfl h
  | cons x t ih =>
    intro hp
    have h0 := hp x (by simp)
    obtain ⟨i1, i2⟩ := ih (fun y hy => hp y (List.mem_cons_of_mem _ hy))
    have e : tot (x :: t) = x + tot t := rfl
    rw [e]
    refine ⟨by omega, fun v h => ?_⟩
    have h : cnt t (v - x) + cnt t (v + x) ≠ 0 := h
    by_cases c : cnt t (v - x) = 0
    · have := i2 (v + x) (by omega); omega
    · have := i2 (v - x) c; omega
theorem cnt_tot : ∀ (l : List Int), cnt l (tot l) ≠ 0 := by
  intro l
  induction l with
  | nil => decide
  | cons x t ih =>
    show cnt t (x + tot t - x) + cnt t (x + tot t + x) ≠ 0
    rw [show x + tot t - x = tot t from by omega]
    omega
theorem rul_pos {l : List Int} (h : Rul l) : ∀ y ∈ l, 0 ≤ y := by
  intro y hy
  obtain ⟨i, hi, e⟩ := List.mem_iff_getElem.1 hy
  have := h.1.at hi
  rw [rd_get hi, e] at this
  omega
theorem ends_in {l : List Int} (h : Rul l) {x : Int} (hx : x ∈ endsM l) : 0 ≤ x ∧ x ≤ tot l := by
  have h1 := (endsM_mem l x).1 hx
  have h2 := (cnt_bd l (rul_pos h)).2 x h1.2
  omega
theorem ends_tot {l : List Int} (h : Rul l) : tot l ∈ endsM l := by
  have := h.tot
  exact (endsM_mem l _).2 ⟨by omega, cnt_tot l⟩
theorem ends_len {l : List Int} (h : Rul l) : 1 ≤ (endsM l).length ∧ (endsM l).length ≤ 512 := by
  have hl := h.len
  have hp : 2 ^ l.length ≤ 2 ^ 9 := Nat.pow_le_pow_right (by decide) hl.2
  have h1 : 0 < (endsM l).length := List.length_pos_iff.2 (List.ne_nil_of_mem (ends_tot h))
  have h2 : (endsM l).length ≤ ((endsTo l (2 ^ l.length)).mergeSort fun x y => decide (x ≤ y)).length := Lib.compact_length_le _
  rw [List.length_mergeSort] at h2
  have h3 := endsTo_len l (2 ^ l.length)
  omega
theorem sasc_rd {l : List Int} (h : SAsc l) {i j : Nat} (hij : i < j) (hj : j < l.length) : rd l (i : Int) < rd l (j : Int) := by
  rw [rd_get (by omega), rd_get hj]
  exact List.pairwise_iff_getElem.1 h i j (by omega) hj hij
theorem sasc_head {l : List Int} (h : SAsc l) {x : Int} (hx : x ∈ l) : rd l 0 ≤ x := by
  obtain ⟨i, hi, e⟩ := List.mem_iff_getElem.1 hx
  rw [← e, ← rd_get hi]
  by_cases c : i = 0
  · subst c; exact Int.le_refl _
  · have := sasc_rd h (i := 0) (j := i) (by omega) hi
    exact Int.le_of_lt this
theorem sasc_last {l : List Int} (h : SAsc l) {x : Int} (hx : x ∈ l) : x ≤ rd l ((l.length : Int) - 1) := by
  obtain ⟨i, hi, e⟩ := List.mem_iff_getElem.1 hx
  obtain ⟨n, hn⟩ : ∃ n, l.length = n + 1 := ⟨l.length - 1, by omega⟩
  rw [← e, ← rd_get hi, hn, show ((n + 1 : Nat) : Int) - 1 = (n : Int) from by omega]
  by_cases c : i = n
  · subst c; exact Int.le_refl _
  · exact Int.le_of_lt (sasc_rd h (i := i) (j := n) (by omega) (by omega))
/-- The nearest end. -/
def nearM (l : List Int) : Int := rd (endsM l) 0
theorem near_mem {l : List Int} (h : Rul l) : nearM l ∈ endsM l := rd_mem (i := 0) (by have := ends_len h; omega)
theorem near_le {l : List Int} {x : Int} (hx : x ∈ endsM l) : nearM l ≤ x := sasc_head (endsM_asc l) hx
theorem ends_last {l : List Int} (h : Rul l) : rd (endsM l) (((endsM l).length : Int) - 1) = tot l := by
  have h1 := sasc_last (endsM_asc l) (ends_tot h)
  have hl := ends_len h
  obtain ⟨n, hn⟩ : ∃ n, (endsM l).length = n + 1 := ⟨(endsM l).length - 1, by omega⟩
  rw [hn, show ((n + 1 : Nat) : Int) - 1 = (n : Int) from by omega] at h1 ⊢
  have h2 := ends_in h (rd_mem (l := endsM l) (i := n) (by omega))
  omega
theorem near_mx {l : List Int} (h : Rul l) : nearM l ≤ mxTo l l.length := by
  have hl := h.len
  have h1 := mxTo_ge h l.length (Nat.le_refl _)
  have h2 := h.1.at (i := 0) (by omega)
  have h3 := h1 0 (by omega)
  have h4 := (gr_in h h1 (by omega) l.length (Nat.le_refl _)).1
  obtain ⟨s, g1, g2⟩ := gr_end (l := l) (mxTo l l.length)
  have g3 := g2 l.length (Nat.le_refl _)
  have g4 := cntTo_pos (fun s => (endM l s l.length).1) (2 ^ l.length) g1
  rw [cntTo_cnt l.length l rfl] at g4
  rw [g3] at g4
  generalize (grM l (mxTo l l.length) l.length).1 = v at *
  by_cases c : 0 ≤ v
  · have := near_le ((endsM_mem l v).2 ⟨c, g4⟩)
    omega
  · have := near_le ((endsM_mem l (-v)).2 ⟨by omega, by rw [cnt_neg]; exact g4⟩)
    omega
theorem near_zero {l : List Int} (h : Rul l) : nearM l = 0 ↔ cnt l 0 ≠ 0 := by
  have h1 := near_mem h
  have h2 := (endsM_mem l _).1 h1
  constructor
  · intro e
    rw [e] at h2
    exact h2.2
  · intro e
    have := near_le ((endsM_mem l 0).2 ⟨Int.le_refl _, e⟩)
    omega
theorem near_rev (l : List Int) : nearM l.reverse = nearM l := by
  unfold nearM
  rw [endsM_rev]
/-- What the reference lists: the places that are reached, in order. -/
def pickM (P : List Bool) : Nat → List Int
  | 0 => []
  | x + 1 => if rdOf false P (x : Int) = true then pickM P x ++ [(x : Int)] else pickM P x
theorem pickM_len (P : List Bool) : ∀ n : Nat, (pickM P n).length ≤ n := by
  intro n
  induction n with
  | zero => exact Nat.le_refl _
  | succ n ih =>
    unfold pickM
    split
    · rw [List.length_append]; simp; exact ih
    · omega
theorem pickM_mem (P : List Bool) (x : Int) : ∀ n : Nat, x ∈ pickM P n ↔ (0 ≤ x ∧ x < (n : Int) ∧ rdOf false P x = true) := by
  intro n
  induction n with
  | zero => simp [pickM]; omega
  | succ n ih =>
    unfold pickM
    by_cases c : rdOf false P (n : Int) = true
    · rw [if_pos c, List.mem_append, List.mem_singleton, ih]
      constructor
      · rintro (q | q)
        · exact ⟨q.1, by omega, q.2.2⟩
        · rw [q]; exact ⟨by omega, by omega, c⟩
      · rintro ⟨q1, q2, q3⟩
        by_cases e : x = (n : Int)
        · exact Or.inr e
        · exact Or.inl ⟨q1, by omega, q3⟩
    · rw [if_neg c, ih]
      constructor
      · rintro ⟨q1, q2, q3⟩
        exact ⟨q1, by omega, q3⟩
      · rintro ⟨q1, q2, q3⟩
        refine ⟨q1, ?_, q3⟩
        by_cases e : x = (n : Int)
        · rw [e] at q3; exact absurd q3 c
        · omega
theorem pickM_asc (P : List Bool) : ∀ n : Nat, SAsc (pickM P n) := by
  intro n
  induction n with
  | zero => exact List.Pairwise.nil
  | succ n ih =>
    unfold pickM
    split
    · refine List.pairwise_append.2 ⟨ih, List.pairwise_singleton _ _, fun a ha b hb => ?_⟩
      rw [List.mem_singleton] at hb
      have := (pickM_mem P a n).1 ha
      omega
    · exact ih
/-- Which places from 0 on are reached by the first m foldings. -/
def Hits (l : List Int) (m : Nat) (P : List Bool) : Prop := Rep P (tot l) (fun z => cntTo (fun s => (endM l s l.length).1) z m ≠ 0)
theorem pick_ends {l : List Int} (h : Rul l) {P : List Bool} (hp : Hits l (2 ^ l.length) P) : pickM P P.length = endsM l := by
  refine sasc_ext _ _ (pickM_asc _ _) (endsM_asc _) (fun x => ?_)
  rw [pickM_mem, endsM_mem]
  have h1 := hp.1
  have hc := cnt_bd l (rul_pos h)
  have e : ∀ z : Int, cntTo (fun s => (endM l s l.length).1) z (2 ^ l.length) = cnt l z := fun z => cntTo_cnt l.length l rfl z
  constructor
  · rintro ⟨q1, q2, q3⟩
    obtain ⟨z, rfl⟩ := Int.eq_ofNat_of_zero_le q1
    have h3 : cntTo (fun s => (endM l s l.length).1) (z : Int) (2 ^ l.length) ≠ 0 := (hp.2 z (by omega)).1 q3
    rw [e] at h3
    exact ⟨q1, h3⟩
  · rintro ⟨q1, q2⟩
    have q3 := hc.2 x q2
    obtain ⟨z, rfl⟩ := Int.eq_ofNat_of_zero_le q1
    refine ⟨q1, by omega, (hp.2 z (by omega)).2 ?_⟩
    show cntTo (fun s => (endM l s l.length).1) (z : Int) (2 ^ l.length) ≠ 0
    rw [e]
    exact q2
theorem hits_step {l : List Int} {m : Nat} {P : List Bool} (h : Hits l m P) (hv : (endM l m l.length).1 ≤ tot l) : Hits l (m + 1) (if (endM l m l.length).1 ≥ 0 then P.set (endM l m l.length).1.toNat true else P) := by
  have e2 : ∀ z : Int, cntTo (fun s => (endM l s l.length).1) z (m + 1) = cntTo (fun s => (endM l s l.length).1) z m + (if (endM l m l.length).1 = z then 1 else 0) := fun _ => rfl
  unfold Hits
  by_cases c : (endM l m l.length).1 ≥ 0
  · rw [if_pos c]
    refine (Rep.set h _ c hv).congr (fun z h0 h1 => ?_)
    rw [e2]
    by_cases q : (endM l m l.length).1 = z
    · rw [if_pos q]
      exact ⟨fun _ => by omega, fun _ => Or.inl q.symm⟩
    · rw [if_neg q]
      constructor
      · rintro (a | a)
        · exact absurd a.symm q
        · omega
      · intro a
        exact Or.inr (by omega)
  · rw [if_neg c]
    refine Rep.congr h (fun z h0 h1 => ?_)
    rw [e2, if_neg (by omega)]
    rfl
end Go.Proofs.Ytfihnemjaademaa.M
