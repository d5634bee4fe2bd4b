/- Plain words on sorted bundles, for the proofs of this seat's statements; no condition. -/
import Derived.Test.YtfihnemjaademaaM
namespace Go.Proofs.Ytfihnemjaademaa.M
open Go.RowKit Go.Proofs.YtfihnemjaademaaW.PrintWords Go.Proofs.YtfihnemjaademaaW.PrintLast Go.Proofs.YtfihnemjaademaaW.PrintMore
set_option linter.unusedVariables false
set_option linter.unusedSimpArgs false
def srt (l : List Int) : List Int := l.mergeSort fun x y => decide (x ≤ y)
theorem srt_perm (l : List Int) : (srt l).Perm l := List.mergeSort_perm l _
theorem srt_len (l : List Int) : (srt l).length = l.length := (srt_perm l).length_eq
theorem srt_mem (l : List Int) (y : Int) : y ∈ srt l ↔ y ∈ l := (srt_perm l).mem_iff
theorem tot_perm {l m : List Int} (h : l.Perm m) : tot l = tot m := by
  induction h with
  | nil => rfl
  | cons x _ ih => simp only [tot]; rw [ih]
  | swap x y l => simp only [tot]; omega
  | trans _ _ ih1 ih2 => rw [ih1, ih2]
theorem srt_pw (l : List Int) : (srt l).Pairwise (fun x y => decide (x ≤ y) = true) := by
  unfold srt
  refine List.pairwise_mergeSort (le := fun x y => decide (x ≤ y)) ?_ ?_ l
  · intro a b c h1 h2
    simp only [decide_eq_true_eq] at *
    omega
  · intro a b
    simp only [Bool.or_eq_true, decide_eq_true_eq]
    omega
theorem srt_asc (l : List Int) : Asc (srt l) := by
  intro j hj
  have h := List.pairwise_iff_getElem.1 (srt_pw l) j (j + 1) (by omega) hj (by omega)
  rw [rd_get (by omega), rd_get hj]
  exact of_decide_eq_true h
theorem rul_mem {l : List Int} : Rul l ↔ (∀ y ∈ l, 1 ≤ y ∧ y ≤ 60) ∧ (1 ≤ l.length ∧ l.length ≤ 9) := by
  constructor
  · rintro ⟨h1, h2⟩
    refine ⟨fun y hy => ?_, h2⟩
    obtain ⟨i, hi, e⟩ := List.mem_iff_getElem.1 hy
    have := h1.at hi
    rw [rd_get hi, e] at this
    exact this
  · rintro ⟨h1, h2⟩
    refine ⟨fun j _ hj => ?_, h2⟩
    exact h1 _ (rd_mem hj)
theorem srt_rul {l : List Int} (h : Rul l) : Rul (srt l) := by
  obtain ⟨h1, h2⟩ := rul_mem.1 h
  exact rul_mem.2 ⟨fun y hy => h1 y ((srt_mem l y).1 hy), by rw [srt_len]; exact h2⟩
theorem asc_le {l : List Int} (h : Asc l) (i : Nat) : ∀ d : Nat, i + d < l.length → rd l (i : Int) ≤ rd l ((i + d : Nat) : Int) := by
  intro d
  induction d with
  | zero => intro _; exact Int.le_refl _
  | succ d ih =>
    intro hd
    have h1 := ih (by omega)
    have h2 := h (i + d) (by omega)
    rw [← Nat.add_assoc]
    omega
theorem lst_mem {l : List Int} (h : 1 ≤ l.length) : lst l ∈ l := by
  obtain ⟨n, hn⟩ : ∃ n, l.length = n + 1 := ⟨l.length - 1, by omega⟩
  rw [lst_at hn]
  exact rd_mem (by omega)
theorem lst_max {l : List Int} (h : Asc l) {y : Int} (hy : y ∈ l) : y ≤ lst l := by
  obtain ⟨i, hi, e⟩ := List.mem_iff_getElem.1 hy
  obtain ⟨n, hn⟩ : ∃ n, l.length = n + 1 := ⟨l.length - 1, by omega⟩
  have := asc_le h i (n - i) (by omega)
  rw [lst_at hn, ← e, ← rd_get hi]
  rw [show i + (n - i) = n by omega] at this
  exact this
/-- A stick is put to a bundle. -/
theorem put_facts {l : List Int} (hb : Bun l) {x : Int} (hr : Rul (l ++ [x])) : Bun (srt (l ++ [x])) ∧ (srt (l ++ [x])).length = l.length + 1 ∧ tot (srt (l ++ [x])) = tot l + x ∧ lst (srt (l ++ [x])) = mx (lst l) x := by
  have hl := hb.1.len
  have e1 : (srt (l ++ [x])).length = l.length + 1 := by rw [srt_len]; simp
  refine ⟨⟨srt_rul hr, srt_asc _⟩, e1, ?_, ?_⟩
  · rw [tot_perm (srt_perm _), tot_app]
    simp [tot]
  · have a1 := lst_mem (l := srt (l ++ [x])) (by omega)
    have a2 := lst_max (srt_asc (l ++ [x])) ((srt_mem _ _).2 (show lst l ∈ l ++ [x] from List.mem_append_left _ (lst_mem hl.1)))
    have a3 := lst_max (srt_asc (l ++ [x])) ((srt_mem _ _).2 (show x ∈ l ++ [x] by simp))
    rw [srt_mem, List.mem_append, List.mem_singleton] at a1
    have a4 : lst (srt (l ++ [x])) ≤ lst l ∨ lst (srt (l ++ [x])) = x := by
      rcases a1 with a1 | a1
      · exact Or.inl (lst_max hb.2 a1)
      · exact Or.inr a1
    unfold mx
    split <;> omega
theorem rul_put {l : List Int} (hb : Bun l) (x : Int) : Rul (l ++ [x]) ↔ (1 ≤ x ∧ x ≤ 60 ∧ l.length ≤ 8) := by
  obtain ⟨h1, h2⟩ := rul_mem.1 hb.1
  rw [rul_mem]
  constructor
  · rintro ⟨h3, h4⟩
    have := h3 x (by simp)
    simp at h4
    omega
  · rintro ⟨h3, h4, h5⟩
    refine ⟨fun y hy => ?_, by simp; omega⟩
    rw [List.mem_append, List.mem_singleton] at hy
    rcases hy with hy | hy
    · exact h1 y hy
    · rw [hy]; omega
noncomputable def putM (l : List Int) (x : Int) : List Int × Bool := bif bl (Bun l) then (bif bl (Rul (l ++ [x])) then (srt (l ++ [x]), true) else ([], false)) else ([], false)
theorem putM_yes {l : List Int} (hb : Bun l) {x : Int} (hr : Rul (l ++ [x])) : putM l x = (srt (l ++ [x]), true) := by
  unfold putM
  rw [bl_true hb, bl_true hr]; rfl
theorem putM_no {l : List Int} (hb : Bun l) {x : Int} (hr : ¬ Rul (l ++ [x])) : putM l x = ([], false) := by
  unfold putM
  rw [bl_true hb, bl_false hr]; rfl
end Go.Proofs.Ytfihnemjaademaa.M
