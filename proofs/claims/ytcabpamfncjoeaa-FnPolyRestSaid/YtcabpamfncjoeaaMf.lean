/- Plain words on folded rulers, for the proofs of this seat's statements; no condition. -/
import Derived.Test.YtcabpamfncjoeaaM
namespace Go.Proofs.Ytcabpamfncjoeaa.M
open Go.RowKit Go.Proofs.YtcabpamfncjoeaaW.PrintWords Go.Proofs.YtcabpamfncjoeaaW.PrintLast Go.Proofs.YtcabpamfncjoeaaW.PrintMore
set_option linter.unusedVariables false
set_option linter.unusedSimpArgs false
/-! ### greedy -/
def mxTo (l : List Int) : Nat → Int
  | 0 => 0
  | n + 1 => mx (mxTo l n) (rd l (n : Int))
theorem mxTo_bd {l : List Int} (h : Rul l) : ∀ n : Nat, n ≤ l.length → 0 ≤ mxTo l n ∧ mxTo l n ≤ 60 := by
  intro n
  induction n with
  | zero => intro _; unfold mxTo; omega
  | succ n ih =>
    intro hn
    have h1 := ih (by omega)
    have h2 := h.1.at (i := n) (by omega)
    unfold mxTo mx
    split <;> omega
theorem mxTo_ge {l : List Int} (h : Rul l) : ∀ n : Nat, n ≤ l.length → ∀ i : Nat, i < n → rd l (i : Int) ≤ mxTo l n := by
  intro n
  induction n with
  | zero => intro _ i hi; omega
  | succ n ih =>
    intro hn i hi
    unfold mxTo mx
    by_cases e : i = n
    · subst e; split <;> omega
    · have := ih (by omega) i (by omega)
      split <;> omega
def grM (l : List Int) (m : Int) : Nat → Int × Int × Int
  | 0 => (0, 0, 0)
  | n + 1 => if (grM l m n).1 + rd l (n : Int) ≤ m then ((grM l m n).1 + rd l (n : Int), mn (grM l m n).2.1 ((grM l m n).1 + rd l (n : Int)), mx (grM l m n).2.2 ((grM l m n).1 + rd l (n : Int))) else ((grM l m n).1 - rd l (n : Int), mn (grM l m n).2.1 ((grM l m n).1 - rd l (n : Int)), mx (grM l m n).2.2 ((grM l m n).1 - rd l (n : Int)))
theorem grM_bd {l : List Int} (h : Rul l) (m : Int) : ∀ n : Nat, n ≤ l.length → (-(60 * (n : Int)) ≤ (grM l m n).1 ∧ (grM l m n).1 ≤ 60 * (n : Int)) ∧ (-(60 * (n : Int)) ≤ (grM l m n).2.1 ∧ (grM l m n).2.1 ≤ 0) ∧ (0 ≤ (grM l m n).2.2 ∧ (grM l m n).2.2 ≤ 60 * (n : Int)) := by
  intro n
  induction n with
  | zero => intro _; simp only [grM]; omega
  | succ n ih =>
    intro hn
    have h1 := ih (by omega)
    have h2 := h.1.at (i := n) (by omega)
    simp only [grM]
    generalize grM l m n = q at *
    obtain ⟨a, b, c⟩ := q
    simp only [] at h1 ⊢
    simp only [mn, mx]
    split
    · simp only []
      refine ⟨?_, ?_, ?_⟩
      · omega
      · split <;> omega
      · split <;> omega
    · simp only []
      refine ⟨?_, ?_, ?_⟩
      · omega
      · split <;> omega
      · split <;> omega
/-! ### lists that are marked -/
def mkL (k : Int) (n : Nat) : List Int := (List.range n).map fun (i : Nat) => k + (i : Int)
theorem mkL_len (k : Int) (n : Nat) : (mkL k n).length = n := by simp [mkL]
theorem mkL_rd (k : Int) {n i : Nat} (h : i < n) : rd (mkL k n) (i : Int) = k + (i : Int) := by
  rw [rd_get (by rw [mkL_len]; exact h)]
  simp [mkL]
theorem rd_set {s : List Int} {n : Nat} (v : Int) (h : n < s.length) (j : Nat) (hj : j < s.length) : rd (s.set n v) (j : Int) = if n = j then v else rd s (j : Int) := by
  rw [rd_get (by simpa using hj), List.getElem_set]
  by_cases e : n = j
  · rw [if_pos e, if_pos e]
  · rw [if_neg e, if_neg e, rd_get hj]
theorem rd_app {s t : List Int} {i : Nat} (h : i < s.length) : rd (s ++ t) (i : Int) = rd s (i : Int) := by
  rw [rd_get (by simp; omega), rd_get h, List.getElem_append_left]
theorem rd_app2 (s : List Int) (v : Int) : rd (s ++ [v]) (s.length : Int) = v := by
  rw [rd_get (by simp)]
  simp
theorem rev_rd {l : List Int} {j : Nat} (h : j < l.length) : rd l.reverse (j : Int) = rd l ((l.length - 1 - j : Nat) : Int) := by
  rw [rd_get (by simpa using h), rd_get (by omega), List.getElem_reverse]
/-! ### the most sticks that close -/
def mostM (l : List Int) : Nat → Nat
  | 0 => 0
  | n + 1 => if 3 ≤ n + 1 ∧ 0 < gap (l.take (n + 1)) then n + 1 else mostM l n
theorem mostM_low (l : List Int) : ∀ n : Nat, n ≤ 2 → mostM l n = 0 := by
  intro n
  induction n with
  | zero => intro _; rfl
  | succ n ih =>
    intro h
    unfold mostM
    rw [if_neg (by omega)]
    exact ih (by omega)
theorem mostM_le (l : List Int) : ∀ n : Nat, mostM l n ≤ n ∧ (mostM l n = 0 ∨ (3 ≤ mostM l n ∧ 0 < gap (l.take (mostM l n)))) := by
  intro n
  induction n with
  | zero => exact ⟨Nat.le_refl _, Or.inl rfl⟩
  | succ n ih =>
    unfold mostM
    split
    · rename_i h
      exact ⟨Nat.le_refl _, Or.inr h⟩
    · exact ⟨by omega, ih.2⟩
noncomputable def partsM (l : List Int) : List Int × Bool := bif bl (Bun l) then (if mostM l l.length = 0 then ([], false) else (l.take (mostM l l.length), true)) else ([], false)
/-! ### places within a span -/
theorem rdB_set {s : List Bool} {n : Nat} (h : n < s.length) (z : Nat) : rdOf false (s.set n true) (z : Int) = true ↔ (z = n ∨ rdOf false s (z : Int) = true) := by
  unfold rdOf
  rw [List.getD_eq_getElem?_getD, List.getD_eq_getElem?_getD, List.getElem?_set]
  simp only [Int.toNat_natCast]
  by_cases e : n = z
  · subst e; simp [h]
  · have e2 : ¬ z = n := fun q => e q.symm
    simp [e, e2]
theorem rdB_rep (n : Nat) (z : Nat) : rdOf false (List.replicate n false) (z : Int) = true ↔ False := by
  unfold rdOf
  rw [List.getD_eq_getElem?_getD, List.getElem?_replicate]
  simp only [Int.toNat_natCast]
  split <;> simp
def Pst (l : List Int) (sp : Int) (P0 : Int → Prop) : Nat → Int → Prop
  | 0 => P0
  | i + 1 => fun x => (0 ≤ x ∧ x ≤ sp) ∧ (Pst l sp P0 i (x - rd l (i : Int)) ∨ Pst l sp P0 i (x + rd l (i : Int)))
theorem Pst_in {l : List Int} {sp : Int} {P0 : Int → Prop} (h : ∀ x, P0 x → 0 ≤ x ∧ x ≤ sp) : ∀ (i : Nat) (x : Int), Pst l sp P0 i x → 0 ≤ x ∧ x ≤ sp := by
  intro i
  cases i with
  | zero => exact h
  | succ i => exact fun x hx => hx.1
/-- The list tells which places from 0 to sp fulfil Q. -/
def Rep (s : List Bool) (sp : Int) (Q : Int → Prop) : Prop := (s.length : Int) = sp + 1 ∧ ∀ z : Nat, (z : Int) ≤ sp → (rdOf false s (z : Int) = true ↔ Q (z : Int))
def Qst (P : Int → Prop) (a : Int) (y : Int) (z : Int) : Prop := ∃ y' : Int, 0 ≤ y' ∧ y' < y ∧ P y' ∧ (z = y' + a ∨ z = y' - a)
theorem Qst_no {P : Int → Prop} {a : Int} {y : Int} (h0 : 0 ≤ y) (h : ¬ P y) (z : Int) : Qst P a (y + 1) z ↔ Qst P a y z := by
  constructor
  · rintro ⟨y', h1, h2, h3, h4⟩
    have : y' ≠ y := fun e => h (e ▸ h3)
    exact ⟨y', h1, by omega, h3, h4⟩
  · rintro ⟨y', h1, h2, h3, h4⟩
    exact ⟨y', h1, by omega, h3, h4⟩
theorem Qst_yes {P : Int → Prop} {a : Int} {y : Int} (h0 : 0 ≤ y) (h : P y) (z : Int) : Qst P a (y + 1) z ↔ (z = y + a ∨ z = y - a) ∨ Qst P a y z := by
  constructor
  · rintro ⟨y', h1, h2, h3, h4⟩
    by_cases e : y' = y
    · subst e; exact Or.inl h4
    · exact Or.inr ⟨y', h1, by omega, h3, h4⟩
  · rintro (h4 | ⟨y', h1, h2, h3, h4⟩)
    · exact ⟨y, h0, by omega, h, h4⟩
    · exact ⟨y', h1, by omega, h3, h4⟩
theorem Rep.congr {s : List Bool} {sp : Int} {Q R : Int → Prop} (h : Rep s sp Q) (e : ∀ z : Int, 0 ≤ z → z ≤ sp → (Q z ↔ R z)) : Rep s sp R :=
  ⟨h.1, fun z hz => (h.2 z hz).trans (e z (by omega) hz)⟩
theorem Rep.set {s : List Bool} {sp : Int} {Q : Int → Prop} (h : Rep s sp Q) (v : Int) (h0 : 0 ≤ v) (h1 : v ≤ sp) : Rep (s.set v.toNat true) sp (fun z => z = v ∨ Q z) := by
  refine ⟨by simpa using h.1, fun z hz => ?_⟩
  have hl := h.1
  rw [rdB_set (by omega) z, h.2 z hz]
  constructor
  · rintro (e | e)
    · exact Or.inl (by omega)
    · exact Or.inr e
  · rintro (e | e)
    · exact Or.inl (by omega)
    · exact Or.inr e
theorem Rep.empty (sp : Int) (h : 0 ≤ sp) (Q : Int → Prop) (hQ : ∀ z, 0 ≤ z → ¬ Q z) : Rep (List.replicate (sp + 1).toNat false) sp Q := by
  refine ⟨by simp; omega, fun z hz => ?_⟩
  rw [rdB_rep]
  exact ⟨fun h => h.elim, fun h => hQ _ (by omega) h⟩
theorem Qst_zero (P : Int → Prop) (a z : Int) : ¬ Qst P a 0 z := by
  rintro ⟨y', h1, h2, _⟩
  omega
theorem Qst_full {l : List Int} {sp : Int} {P0 : Int → Prop} (h : ∀ x, P0 x → 0 ≤ x ∧ x ≤ sp) (i : Nat) (z : Int) (h0 : 0 ≤ z) (h1 : z ≤ sp) : Qst (Pst l sp P0 i) (rd l (i : Int)) (sp + 1) z ↔ Pst l sp P0 (i + 1) z := by
  constructor
  · rintro ⟨y', a1, a2, a3, a4⟩
    refine ⟨⟨h0, h1⟩, ?_⟩
    rcases a4 with a4 | a4
    · left
      rw [show z - rd l (i : Int) = y' by omega]; exact a3
    · right
      rw [show z + rd l (i : Int) = y' by omega]; exact a3
  · rintro ⟨_, a3 | a3⟩
    · have := Pst_in h i _ a3
      exact ⟨_, this.1, by omega, a3, by omega⟩
    · have := Pst_in h i _ a3
      exact ⟨_, this.1, by omega, a3, by omega⟩
theorem Pst_join {l : List Int} {sp : Int} (i : Nat) : ∀ x : Int, Pst l sp (fun x => 0 ≤ x ∧ x ≤ sp) i x ↔ ∃ f : Int, (0 ≤ f ∧ f ≤ sp) ∧ Pst l sp (fun x => x = f) i x := by
  induction i with
  | zero =>
    intro x
    constructor
    · intro h; exact ⟨x, h, rfl⟩
    · rintro ⟨f, hf, rfl⟩; exact hf
  | succ i ih =>
    intro x
    constructor
    · rintro ⟨h0, h | h⟩
      · obtain ⟨f, hf, h⟩ := (ih _).1 h
        exact ⟨f, hf, h0, Or.inl h⟩
      · obtain ⟨f, hf, h⟩ := (ih _).1 h
        exact ⟨f, hf, h0, Or.inr h⟩
    · rintro ⟨f, hf, h0, h | h⟩
      · exact ⟨h0, Or.inl ((ih _).2 ⟨f, hf, h⟩)⟩
      · exact ⟨h0, Or.inr ((ih _).2 ⟨f, hf, h⟩)⟩
/-- A ruler fits within a span. -/
def Fit (l : List Int) (sp : Int) : Prop := ∃ x : Int, Pst l sp (fun x => 0 ≤ x ∧ x ≤ sp) l.length x
theorem Fit_from {l : List Int} {sp : Int} : Fit l sp ↔ ∃ f : Int, (0 ≤ f ∧ f ≤ sp) ∧ ∃ x, Pst l sp (fun x => x = f) l.length x := by
  unfold Fit
  constructor
  · rintro ⟨x, h⟩
    obtain ⟨f, hf, h⟩ := (Pst_join l.length x).1 h
    exact ⟨f, hf, x, h⟩
  · rintro ⟨f, hf, x, h⟩
    exact ⟨x, (Pst_join l.length x).2 ⟨f, hf, h⟩⟩
theorem tot_nonneg {l : List Int} (h : Rul l) (i : Nat) (hi : i ≤ l.length) : 0 ≤ tot (l.take i) ∧ tot (l.take i) ≤ 540 := by
  have h1 := tot_split l i
  have h2 := tot_drop_bd h.1 (l.length - i) i (by omega)
  have h3 := h.tot
  have h4 : 0 ≤ tot (l.take i) := by
    have := tot_bd (l := l.take i) (fun j hj hl => by
      have hl' : j < i := by simp at hl; omega
      rw [rd_take hl' hi]
      exact h.1.at (by omega))
    omega
  omega
theorem Fit_tot {l : List Int} (h : Rul l) : Fit l (tot l) := by
  have key : ∀ i : Nat, i ≤ l.length → Pst l (tot l) (fun x => 0 ≤ x ∧ x ≤ tot l) i (tot (l.take i)) := by
    intro i
    induction i with
    | zero =>
      intro _
      have := h.tot
      show 0 ≤ tot (l.take 0) ∧ tot (l.take 0) ≤ tot l
      simp only [List.take_zero, tot]
      omega
    | succ i ih =>
      intro hi
      have h1 := ih (by omega)
      have h2 := tot_take (l := l) (i := i) (by omega)
      have h3 := tot_nonneg h (i + 1) hi
      have h4 := tot_split l (i + 1)
      have h5 := tot_drop_bd h.1 (l.length - (i + 1)) (i + 1) (by omega)
      refine ⟨by omega, Or.inl ?_⟩
      rw [h2, show tot (l.take i) + rd l (i : Int) - rd l (i : Int) = tot (l.take i) by omega]
      exact h1
  exact ⟨_, key l.length (Nat.le_refl _)⟩
theorem Pst_mono {l : List Int} {s t : Int} (h : s ≤ t) : ∀ (i : Nat) (x : Int), Pst l s (fun x => 0 ≤ x ∧ x ≤ s) i x → Pst l t (fun x => 0 ≤ x ∧ x ≤ t) i x := by
  intro i
  induction i with
  | zero => exact fun x hx => ⟨hx.1, by have := hx.2; omega⟩
  | succ i ih =>
    rintro x ⟨h0, h1 | h1⟩
    · exact ⟨by omega, Or.inl (ih _ h1)⟩
    · exact ⟨by omega, Or.inr (ih _ h1)⟩
theorem Fit_mono {l : List Int} {s t : Int} (h : s ≤ t) (hf : Fit l s) : Fit l t := by
  obtain ⟨x, hx⟩ := hf
  exact ⟨x, Pst_mono h _ x hx⟩
theorem Fit_min {l : List Int} (h : Rul l) (sp : Int) (h0 : 0 ≤ sp) : Fit l (mn sp (tot l)) ↔ Fit l sp := by
  unfold mn
  split
  · rename_i c
    exact ⟨fun hf => Fit_mono (by omega) hf, fun _ => Fit_tot h⟩
  · exact Iff.rfl
theorem Fit_pos {l : List Int} {sp : Int} (h : Fit l sp) : 0 ≤ sp := by
  obtain ⟨x, hx⟩ := h
  have := Pst_in (fun _ h => h) _ x hx
  omega
/-- The least span, from some number on: there is one. -/
theorem least_ex (P : Int → Prop) (n : Nat) (h : P (n : Int)) : ∃ m : Nat, m ≤ n ∧ P (m : Int) ∧ ∀ j : Nat, j < m → ¬ P (j : Int) := by
  induction n using Nat.strongRecOn with
  | _ n ih =>
    by_cases c : ∃ j : Nat, j < n ∧ P (j : Int)
    · obtain ⟨j, hj, hp⟩ := c
      obtain ⟨m, h1, h2⟩ := ih j hj hp
      exact ⟨m, by omega, h2⟩
    · exact ⟨n, Nat.le_refl _, h, fun j hj hp => c ⟨j, hj, hp⟩⟩
/-! ### foldings, by their sets -/
theorem and_one (x : Nat) (hx : x < 4611686018427387904) : Go.bits .and .i64 (x : Int) 1 = ((x % 2 : Nat) : Int) := by
  have hk : IntKind.i64.bits = 64 := rfl
  have h1 : (1 : Int) = ((1 : Nat) : Int) := rfl
  have ha' : x % 2 ^ 64 = x := Nat.mod_eq_of_lt (by omega)
  have hb' : 1 % 2 ^ 64 = 1 := by decide
  rw [h1]
  simp only [Go.bits, hk, BitVec.ofInt_natCast, BitVec.toNat_and, BitVec.toNat_ofNat, ha', hb']
  rw [Nat.and_one_is_mod, Go.IntKind.wrap_i64]
  omega
def bitM (n s i : Nat) : Nat := s / 2 ^ (n - 1 - i) % 2
theorem bitM_lt (n s i : Nat) : bitM n s i < 2 := Nat.mod_lt _ (by decide)
theorem idx_at {n j : Nat} (hn : n ≤ 9) (hj : j < n) : wrap64 ((wrap64 ((n : Int) - 1)) - (j : Int)) = ((n - 1 - j : Nat) : Int) := by
  rw [wid (x := (n : Int) - 1) (by omega) (by omega), wid (by omega) (by omega)]
  omega
theorem bit_at {n s j : Nat} (hn : n ≤ 9) (hj : j < n) (hs : s ≤ 512) : Go.bits .and .i64 (shr .i64 (s : Int) (wrap64 ((wrap64 ((n : Int) - 1)) - (j : Int)))) 1 = ((bitM n s j : Nat) : Int) := by
  rw [idx_at hn hj]
  have e : shr .i64 (s : Int) ((n - 1 - j : Nat) : Int) = ((s / 2 ^ (n - 1 - j) : Nat) : Int) := by
    unfold shr
    have hk : IntKind.i64.bits = 64 := rfl
    rw [hk, Int.toNat_natCast, Nat.min_eq_left (by omega)]
    norm_cast
  rw [e, and_one _ (Nat.lt_of_le_of_lt (Nat.div_le_self _ _) (by omega))]
  rfl
theorem shl_one {n : Nat} (hn : n ≤ 9) : shl .i64 1 (n : Int) = ((2 ^ n : Nat) : Int) := by
  have hk : IntKind.i64.bits = 64 := rfl
  have hp : 2 ^ n ≤ 2 ^ 9 := Nat.pow_le_pow_right (by decide) hn
  unfold shl
  rw [hk, Int.toNat_natCast, Nat.min_eq_left (by omega), Int.one_mul, Go.IntKind.wrap_i64]
  have e : ((2 : Int) ^ n) = ((2 ^ n : Nat) : Int) := by norm_cast
  rw [e]
  generalize 2 ^ n = N at hp ⊢
  omega
def endM (l : List Int) (s : Nat) : Nat → Int × Int × Int
  | 0 => (0, 0, 0)
  | i + 1 => if bitM l.length s i = 0 then ((endM l s i).1 + rd l (i : Int), mn (endM l s i).2.1 ((endM l s i).1 + rd l (i : Int)), mx (endM l s i).2.2 ((endM l s i).1 + rd l (i : Int))) else ((endM l s i).1 - rd l (i : Int), mn (endM l s i).2.1 ((endM l s i).1 - rd l (i : Int)), mx (endM l s i).2.2 ((endM l s i).1 - rd l (i : Int)))
theorem endM_bd {l : List Int} (h : Rul l) (s : Nat) : ∀ n : Nat, n ≤ l.length → (-(60 * (n : Int)) ≤ (endM l s n).1 ∧ (endM l s n).1 ≤ 60 * (n : Int)) ∧ (-(60 * (n : Int)) ≤ (endM l s n).2.1 ∧ (endM l s n).2.1 ≤ 0) ∧ (0 ≤ (endM l s n).2.2 ∧ (endM l s n).2.2 ≤ 60 * (n : Int)) := by
  intro n
  induction n with
  | zero => intro _; simp only [endM]; omega
  | succ n ih =>
    intro hn
    have h1 := ih (by omega)
    have h2 := h.1.at (i := n) (by omega)
    simp only [endM]
    generalize endM l s n = q at *
    obtain ⟨a, b, c⟩ := q
    simp only [] at h1 ⊢
    simp only [mn, mx]
    split
    · simp only []
      refine ⟨?_, ?_, ?_⟩
      · omega
      · split <;> omega
      · split <;> omega
    · simp only []
      refine ⟨?_, ?_, ?_⟩
      · omega
      · split <;> omega
      · split <;> omega
def txtM (n s : Nat) : Nat → List Int
  | 0 => []
  | i + 1 => txtM n s i ++ [if bitM n s i = 0 then 114 else 108]
theorem txtM_len (n s : Nat) : ∀ i, (txtM n s i).length = i := by
  intro i
  induction i with
  | zero => rfl
  | succ i ih => simp [txtM, ih]
def foldTo {σ : Type} (f : σ → Nat → σ) (s0 : σ) : Nat → σ
  | 0 => s0
  | m + 1 => f (foldTo f s0 m) m
def spanM (l : List Int) (s : Nat) : Int := (endM l s l.length).2.2 - (endM l s l.length).2.1
def waysM (l : List Int) : Nat → Int
  | 0 => 0
  | s + 1 => if (endM l s l.length).1 = 0 then waysM l s + 1 else waysM l s
theorem waysM_bd (l : List Int) : ∀ s : Nat, 0 ≤ waysM l s ∧ waysM l s ≤ (s : Int) := by
  intro s
  induction s with
  | zero => simp [waysM]
  | succ s ih =>
    unfold waysM
    split <;> omega
def leastM (l : List Int) : Nat → Int × Int
  | 0 => (0, 0)
  | s + 1 => if s = 0 then (spanM l s, (s : Int)) else if spanM l s < (leastM l s).1 then (spanM l s, (s : Int)) else leastM l s
/-- The ends stay within the sum of what is laid. -/
theorem endM_tot {l : List Int} (h : Rul l) (s : Nat) : ∀ n : Nat, n ≤ l.length → (endM l s n).2.2 - (endM l s n).2.1 ≤ tot (l.take n) ∧ (endM l s n).2.1 ≤ (endM l s n).1 ∧ (endM l s n).1 ≤ (endM l s n).2.2 := by
  intro n
  induction n with
  | zero => intro _; simp [endM, tot]
  | succ n ih =>
    intro hn
    have h1 := ih (by omega)
    have h2 := h.1.at (i := n) (by omega)
    have h3 := tot_take (l := l) (i := n) (by omega)
    rw [h3]
    simp only [endM]
    generalize endM l s n = q at *
    generalize tot (l.take n) = T at *
    obtain ⟨a, b, c⟩ := q
    simp only [] at h1 ⊢
    simp only [mn, mx]
    split
    · simp only []
      refine ⟨?_, ?_, ?_⟩
      · split <;> split <;> omega
      · split <;> omega
      · split <;> omega
    · simp only []
      refine ⟨?_, ?_, ?_⟩
      · split <;> split <;> omega
      · split <;> omega
      · split <;> omega
theorem spanM_tot {l : List Int} (h : Rul l) (s : Nat) : spanM l s ≤ tot l := by
  have := (endM_tot h s l.length (Nat.le_refl _)).1
  rw [List.take_length] at this
  exact this
theorem least_fold {l : List Int} (h : Rul l) : ∀ n : Nat, foldTo (fun a s => mn a (spanM l s)) (tot l) (n + 1) = (leastM l (n + 1)).1 := by
  intro n
  induction n with
  | zero =>
    have := spanM_tot h 0
    show mn (tot l) (spanM l 0) = _
    have e : leastM l 1 = (spanM l 0, 0) := rfl
    rw [e]
    simp only [mn]
    split <;> omega
  | succ n ih =>
    have e : foldTo (fun a s => mn a (spanM l s)) (tot l) (n + 1 + 1) = mn (foldTo (fun a s => mn a (spanM l s)) (tot l) (n + 1)) (spanM l (n + 1)) := rfl
    have e2 : leastM l (n + 1 + 1) = if n + 1 = 0 then (spanM l (n + 1), ((n + 1 : Nat) : Int)) else if spanM l (n + 1) < (leastM l (n + 1)).1 then (spanM l (n + 1), ((n + 1 : Nat) : Int)) else leastM l (n + 1) := rfl
    rw [e, ih, e2, if_neg (by omega)]
    unfold mn
    split
    · rfl
    · rfl
theorem leastM_spec (l : List Int) : ∀ n : Nat, ∃ f : Nat, f < n + 1 ∧ leastM l (n + 1) = (spanM l f, (f : Int)) ∧ (∀ s : Nat, s < n + 1 → spanM l f ≤ spanM l s) ∧ (∀ s : Nat, s < f → spanM l f < spanM l s) := by
  intro n
  induction n with
  | zero =>
    refine ⟨0, by omega, rfl, fun s hs => ?_, fun s hs => by omega⟩
    have : s = 0 := by omega
    rw [this]; omega
  | succ n ih =>
    obtain ⟨f, h1, h2, h3, h4⟩ := ih
    have e2 : leastM l (n + 1 + 1) = if n + 1 = 0 then (spanM l (n + 1), ((n + 1 : Nat) : Int)) else if spanM l (n + 1) < (leastM l (n + 1)).1 then (spanM l (n + 1), ((n + 1 : Nat) : Int)) else leastM l (n + 1) := rfl
    rw [if_neg (by omega), h2] at e2
    by_cases c : spanM l (n + 1) < spanM l f
    · rw [if_pos c] at e2
      refine ⟨n + 1, by omega, e2, fun s hs => ?_, fun s hs => ?_⟩
      · by_cases e : s = n + 1
        · rw [e]; omega
        · have := h3 s (by omega); omega
      · have := h3 s (by omega); omega
    · rw [if_neg c] at e2
      refine ⟨f, by omega, e2, fun s hs => ?_, h4⟩
      by_cases e : s = n + 1
      · rw [e]; omega
      · exact h3 s (by omega)
theorem str_nonempty {xs : List Int} (h : xs ≠ []) : (strOfNums xs).toList.isEmpty = false := by
  rw [ByteArray.toList_eq, strOfNums_data]
  cases xs with
  | nil => exact absurd rfl h
  | cons a t => rfl
noncomputable def bestS (l : List Int) (z : Int) (a : ByteArray) (s : Nat) : ByteArray := if spanM l s = z then (if a.toList.isEmpty = true then strOfNums (txtM l.length s l.length) else a) else a
theorem bestS_fold {l : List Int} (h : Rul l) {f n : Nat} (hf : f < n) (hlt : ∀ s : Nat, s < f → spanM l f < spanM l s) : foldTo (bestS l (spanM l f)) (⟨#[]⟩ : ByteArray) n = strOfNums (txtM l.length f l.length) := by
  have hl := h.len
  have a1 : ∀ m : Nat, m ≤ f → foldTo (bestS l (spanM l f)) (⟨#[]⟩ : ByteArray) m = (⟨#[]⟩ : ByteArray) := by
    intro m
    induction m with
    | zero => intro _; rfl
    | succ m ih =>
      intro hm
      have e : foldTo (bestS l (spanM l f)) (⟨#[]⟩ : ByteArray) (m + 1) = bestS l (spanM l f) (foldTo (bestS l (spanM l f)) (⟨#[]⟩ : ByteArray) m) m := rfl
      have := hlt m (by omega)
      rw [e, ih (by omega)]
      unfold bestS
      rw [if_neg (by omega)]
  have a2 : ∀ d : Nat, foldTo (bestS l (spanM l f)) (⟨#[]⟩ : ByteArray) (f + 1 + d) = strOfNums (txtM l.length f l.length) := by
    intro d
    induction d with
    | zero =>
      have e : foldTo (bestS l (spanM l f)) (⟨#[]⟩ : ByteArray) (f + 1) = bestS l (spanM l f) (foldTo (bestS l (spanM l f)) (⟨#[]⟩ : ByteArray) f) f := rfl
      rw [Nat.add_zero, e, a1 f (Nat.le_refl _)]
      unfold bestS
      rw [if_pos rfl, if_pos (by rw [ByteArray.toList_eq]; rfl)]
    | succ d ih =>
      have e : foldTo (bestS l (spanM l f)) (⟨#[]⟩ : ByteArray) (f + 1 + (d + 1)) = bestS l (spanM l f) (foldTo (bestS l (spanM l f)) (⟨#[]⟩ : ByteArray) (f + 1 + d)) (f + 1 + d) := rfl
      have hne : txtM l.length f l.length ≠ [] := by
        intro q
        have := txtM_len l.length f l.length
        rw [q] at this
        simp at this
        omega
      rw [e, ih]
      unfold bestS
      have hs := str_nonempty hne
      rw [hs]
      split
      · rfl
      · rfl
  have := a2 (n - (f + 1))
  rw [show f + 1 + (n - (f + 1)) = n from by omega] at this
  exact this
/-! ### how many foldings end at a place -/
def cntTo (f : Nat → Int) (v : Int) : Nat → Nat
  | 0 => 0
  | m + 1 => cntTo f v m + (if f m = v then 1 else 0)
theorem cntTo_two (f g : Nat → Int) (a v : Int) (h0 : ∀ m : Nat, f (2 * m) = g m + a) (h1 : ∀ m : Nat, f (2 * m + 1) = g m - a) : ∀ m : Nat, cntTo f v (2 * m) = cntTo g (v - a) m + cntTo g (v + a) m := by
  intro m
  induction m with
  | zero => rfl
  | succ m ih =>
    have e : cntTo f v (2 * (m + 1)) = cntTo f v (2 * m) + (if f (2 * m) = v then 1 else 0) + (if f (2 * m + 1) = v then 1 else 0) := rfl
    have e1 : cntTo g (v - a) (m + 1) = cntTo g (v - a) m + (if g m = v - a then 1 else 0) := rfl
    have e2 : cntTo g (v + a) (m + 1) = cntTo g (v + a) m + (if g m = v + a then 1 else 0) := rfl
    have i1 : (if g m + a = v then 1 else 0) = (if g m = v - a then (1 : Nat) else 0) := by
      by_cases c : g m = v - a
      · rw [if_pos c, if_pos (by omega)]
      · rw [if_neg c, if_neg (by omega)]
    have i2 : (if g m - a = v then 1 else 0) = (if g m = v + a then (1 : Nat) else 0) := by
      by_cases c : g m = v + a
      · rw [if_pos c, if_pos (by omega)]
      · rw [if_neg c, if_neg (by omega)]
    rw [e, e1, e2, h0 m, h1 m, i1, i2, ih]
    omega
theorem bitM_half {n i : Nat} (m b : Nat) (hb : b < 2) (hi : i < n) : bitM (n + 1) (2 * m + b) i = bitM n m i := by
  unfold bitM
  have e : n + 1 - 1 - i = (n - 1 - i) + 1 := by omega
  rw [e, Nat.pow_succ, Nat.mul_comm (2 ^ (n - 1 - i)) 2, ← Nat.div_div_eq_div_mul, show (2 * m + b) / 2 = m from by omega]
theorem bitM_last (n m b : Nat) (hb : b < 2) : bitM (n + 1) (2 * m + b) n = b := by
  unfold bitM
  have e : n + 1 - 1 - n = 0 := by omega
  rw [e, Nat.pow_zero, Nat.div_one]
  omega
theorem endM_app (l : List Int) (a : Int) (m b : Nat) (hb : b < 2) : ∀ i : Nat, i ≤ l.length → endM (l ++ [a]) (2 * m + b) i = endM l m i := by
  intro i
  induction i with
  | zero => intro _; rfl
  | succ i ih =>
    intro hi
    have hl : (l ++ [a]).length = l.length + 1 := by simp
    simp only [endM]
    rw [ih (by omega), hl, bitM_half m b hb (by omega), rd_app (by omega)]
theorem endM_last (l : List Int) (a : Int) (m b : Nat) (hb : b < 2) : (endM (l ++ [a]) (2 * m + b) (l ++ [a]).length).1 = if b = 0 then (endM l m l.length).1 + a else (endM l m l.length).1 - a := by
  have hl : (l ++ [a]).length = l.length + 1 := by simp
  have e := endM_app l a m b hb l.length (Nat.le_refl _)
  have e2 : endM (l ++ [a]) (2 * m + b) (l.length + 1) = if bitM (l ++ [a]).length (2 * m + b) l.length = 0 then ((endM (l ++ [a]) (2 * m + b) l.length).1 + rd (l ++ [a]) (l.length : Int), mn (endM (l ++ [a]) (2 * m + b) l.length).2.1 ((endM (l ++ [a]) (2 * m + b) l.length).1 + rd (l ++ [a]) (l.length : Int)), mx (endM (l ++ [a]) (2 * m + b) l.length).2.2 ((endM (l ++ [a]) (2 * m + b) l.length).1 + rd (l ++ [a]) (l.length : Int))) else ((endM (l ++ [a]) (2 * m + b) l.length).1 - rd (l ++ [a]) (l.length : Int), mn (endM (l ++ [a]) (2 * m + b) l.length).2.1 ((endM (l ++ [a]) (2 * m + b) l.length).1 - rd (l ++ [a]) (l.length : Int)), mx (endM (l ++ [a]) (2 * m + b) l.length).2.2 ((endM (l ++ [a]) (2 * m + b) l.length).1 - rd (l ++ [a]) (l.length : Int))) := rfl
  rw [e, hl, bitM_last l.length m b hb, rd_app2] at e2
  rw [hl, e2]
  split
  · rfl
  · rfl
def cnt : List Int → Int → Nat
  | [], v => if v = 0 then 1 else 0
  | a :: t, v => cnt t (v - a) + cnt t (v + a)
theorem cnt_app (a : Int) : ∀ (l : List Int) (v : Int), cnt (l ++ [a]) v = cnt l (v - a) + cnt l (v + a) := by
  intro l
  induction l with
  | nil => intro v; rfl
  | cons x t ih =>
    intro v
    show cnt (t ++ [a]) (v - x) + cnt (t ++ [a]) (v + x) = (cnt t (v - a - x) + cnt t (v - a + x)) + (cnt t (v + a - x) + cnt t (v + a + x))
    rw [ih, ih, show v - x - a = v - a - x from by omega, show v - x + a = v + a - x from by omega, show v + x - a = v - a + x from by omega, show v + x + a = v + a + x from by omega]
    omega
theorem cnt_rev : ∀ (l : List Int) (v : Int), cnt l.reverse v = cnt l v := by
  intro l
  induction l with
  | nil => intro v; rfl
  | cons x t ih =>
    intro v
    rw [List.reverse_cons, cnt_app, ih, ih]
    rfl
theorem cnt_neg : ∀ (l : List Int) (v : Int), cnt l (-v) = cnt l v := by
  intro l
  induction l with
  | nil =>
    intro v
    show (if -v = 0 then 1 else 0) = (if v = 0 then 1 else 0)
    by_cases c : v = 0
    · rw [if_pos c, if_pos (by omega)]
    · rw [if_neg c, if_neg (by omega)]
  | cons x t ih =>
    intro v
    show cnt t (-v - x) + cnt t (-v + x) = cnt t (v - x) + cnt t (v + x)
    rw [show -v - x = -(v + x) from by omega, show -v + x = -(v - x) from by omega, ih, ih]
    omega
theorem cnt_odd : ∀ (l : List Int) (v : Int), cnt l v ≠ 0 → (v - tot l) % 2 = 0 := by
  intro l
  induction l with
  | nil =>
    intro v h
    have h : (if v = 0 then 1 else 0) ≠ 0 := h
    by_cases c : v = 0
    · rw [c]; rfl
    · rw [if_neg c] at h; exact absurd rfl h
  | cons x t ih =>
    intro v h
    have h : cnt t (v - x) + cnt t (v + x) ≠ 0 := h
    have e : tot (x :: t) = x + tot t := rfl
    rw [e]
    by_cases c : cnt t (v - x) = 0
    · have := ih (v + x) (by omega); omega
    · have := ih (v - x) c; omega
theorem cnt_even {l : List Int} (h : l ≠ []) : ∃ d : Nat, cnt l 0 = 2 * d := by
  cases l with
  | nil => exact absurd rfl h
  | cons x t =>
    refine ⟨cnt t x, ?_⟩
    show cnt t (0 - x) + cnt t (0 + x) = _
    rw [show (0 : Int) - x = -x from by omega, cnt_neg, show (0 : Int) + x = x from by omega]
    omega
theorem cntTo_cnt : ∀ (n : Nat) (l : List Int), l.length = n → ∀ v : Int, cntTo (fun s => (endM l s l.length).1) v (2 ^ n) = cnt l v := by
  intro n
  induction n with
  | zero =>
    intro l hl v
    have e : l = [] := List.length_eq_zero_iff.mp hl
    rw [e]
    show 0 + (if (0 : Int) = v then 1 else 0) = (if v = 0 then 1 else 0)
    by_cases c : v = 0
    · rw [if_pos c, if_pos c.symm]
    · rw [if_neg c, if_neg (fun q => c q.symm)]
  | succ n ih =>
    intro l hl v
    have hne : l ≠ [] := by intro q; rw [q] at hl; simp at hl
    obtain ⟨t, a, e⟩ : ∃ (t : List Int) (a : Int), l = t ++ [a] := ⟨l.dropLast, l.getLast hne, (List.dropLast_concat_getLast hne).symm⟩
    have ht : t.length = n := by rw [e] at hl; simp at hl; exact hl
    rw [e, cnt_app, ← ih t ht, ← ih t ht, Nat.pow_succ, Nat.mul_comm]
    refine cntTo_two _ _ a v (fun m => ?_) (fun m => ?_) (2 ^ n)
    · have := endM_last t a m 0 (by decide)
      simpa using this
    · have := endM_last t a m 1 (by decide)
      simpa using this
theorem waysM_cntTo (l : List Int) : ∀ m : Nat, waysM l m = (cntTo (fun s => (endM l s l.length).1) 0 m : Int) := by
  intro m
  induction m with
  | zero => rfl
  | succ m ih =>
    have e : waysM l (m + 1) = if (endM l m l.length).1 = 0 then waysM l m + 1 else waysM l m := rfl
    have e2 : cntTo (fun s => (endM l s l.length).1) 0 (m + 1) = cntTo (fun s => (endM l s l.length).1) 0 m + (if (endM l m l.length).1 = 0 then 1 else 0) := rfl
    rw [e, e2, ih]
    split
    · push_cast; rfl
    · simp
theorem waysM_cnt (l : List Int) : waysM l (2 ^ l.length) = (cnt l 0 : Int) := by
  rw [waysM_cntTo, cntTo_cnt l.length l rfl]
theorem Rul.rev {l : List Int} (h : Rul l) : Rul l.reverse := by
  refine ⟨fun j hj hl => ?_, by unfold Len9; rw [List.length_reverse]; exact h.2⟩
  have hl' : j < l.length := by simpa using hl
  rw [rev_rd hl']
  exact h.1.at (by omega)
/-! ### a set for given choices -/
def setOf (ch : Nat → Nat) : Nat → Nat
  | 0 => 0
  | n + 1 => 2 * setOf ch n + ch n
theorem setOf_lt {ch : Nat → Nat} (h : ∀ i, ch i < 2) : ∀ n : Nat, setOf ch n < 2 ^ n := by
  intro n
  induction n with
  | zero => simp [setOf]
  | succ n ih =>
    have := h n
    rw [Nat.pow_succ]
    simp only [setOf]
    omega
theorem setOf_bit {ch : Nat → Nat} (h : ∀ i, ch i < 2) : ∀ n i : Nat, i < n → bitM n (setOf ch n) i = ch i := by
  intro n
  induction n with
  | zero => intro i hi; omega
  | succ n ih =>
    intro i hi
    simp only [setOf]
    by_cases e : i = n
    · subst e
      exact bitM_last i _ _ (h i)
    · rw [bitM_half _ _ (h n) (by omega)]
      exact ih i (by omega)
/-! ### greedy foldings are foldings -/
theorem gr_end {l : List Int} (m : Int) : ∃ s : Nat, s < 2 ^ l.length ∧ ∀ i : Nat, i ≤ l.length → endM l s i = grM l m i := by
  have hc : ∀ i : Nat, (if (grM l m i).1 + rd l (i : Int) ≤ m then 0 else 1) < 2 := by intro i; split <;> omega
  refine ⟨setOf (fun i => if (grM l m i).1 + rd l (i : Int) ≤ m then 0 else 1) l.length, setOf_lt hc _, ?_⟩
  intro i
  induction i with
  | zero => intro _; rfl
  | succ i ih =>
    intro hi
    have hb := setOf_bit hc l.length i (by omega)
    generalize setOf (fun i => if (grM l m i).1 + rd l (i : Int) ≤ m then 0 else 1) l.length = s at *
    simp only [endM, grM]
    rw [ih (by omega), hb]
    by_cases c : (grM l m i).1 + rd l (i : Int) ≤ m
    · rw [if_pos c, if_pos c, if_pos rfl]
    · rw [if_neg c, if_neg c, if_neg (by omega)]
theorem gr_least {l : List Int} (m : Int) : (leastM l (2 ^ l.length)).1 ≤ (grM l m l.length).2.2 - (grM l m l.length).2.1 := by
  obtain ⟨s, h1, h2⟩ := gr_end (l := l) m
  obtain ⟨n, hN⟩ : ∃ n, 2 ^ l.length = n + 1 := ⟨2 ^ l.length - 1, by have := Nat.two_pow_pos l.length; omega⟩
  obtain ⟨f, g1, g2, g3, g4⟩ := leastM_spec l n
  rw [hN] at h1 ⊢
  rw [g2, ← h2 l.length (Nat.le_refl _)]
  exact g3 s h1
theorem gr_in {l : List Int} (h : Rul l) {m : Int} (hm : ∀ i : Nat, i < l.length → rd l (i : Int) ≤ m) (h0 : 1 ≤ m) : ∀ n : Nat, n ≤ l.length → (1 - m ≤ (grM l m n).1 ∧ (grM l m n).1 ≤ m) ∧ (1 - m ≤ (grM l m n).2.1 ∧ (grM l m n).2.1 ≤ 0) ∧ (0 ≤ (grM l m n).2.2 ∧ (grM l m n).2.2 ≤ m) := by
  intro n
  induction n with
  | zero => intro _; simp only [grM]; omega
  | succ n ih =>
    intro hn
    have h1 := ih (by omega)
    have h2 := h.1.at (i := n) (by omega)
    have h3 := hm n (by omega)
    simp only [grM]
    generalize grM l m n = q at *
    obtain ⟨a, b, c⟩ := q
    simp only [] at h1 ⊢
    simp only [mn, mx]
    split
    · simp only []
      refine ⟨?_, ?_, ?_⟩
      · omega
      · split <;> omega
      · split <;> omega
    · simp only []
      refine ⟨?_, ?_, ?_⟩
      · omega
      · split <;> omega
      · split <;> omega
theorem gr_lt {l : List Int} (h : Rul l) : (grM l (mxTo l l.length) l.length).2.2 - (grM l (mxTo l l.length) l.length).2.1 < 2 * mxTo l l.length := by
  have hl := h.len
  have h1 := mxTo_ge h l.length (Nat.le_refl _)
  have h2 := h.1.at (i := 0) (by omega)
  have h3 := h1 0 (by omega)
  have := gr_in h h1 (by omega) l.length (Nat.le_refl _)
  omega
/-! ### spans and places -/
def Seqs (l : List Int) (sp : Int) (n : Nat) (y : Nat → Int) : Prop := (∀ i : Nat, i ≤ n → 0 ≤ y i ∧ y i ≤ sp) ∧ ∀ i : Nat, i < n → (y (i + 1) = y i + rd l (i : Int) ∨ y (i + 1) = y i - rd l (i : Int))
theorem Pst_seq {l : List Int} {sp : Int} : ∀ (n : Nat) (x : Int), Pst l sp (fun x => 0 ≤ x ∧ x ≤ sp) n x → ∃ y : Nat → Int, y n = x ∧ Seqs l sp n y := by
  intro n
  induction n with
  | zero =>
    intro x hx
    refine ⟨fun _ => x, rfl, fun i _ => hx, fun i hi => by omega⟩
  | succ n ih =>
    intro x hx
    have step : ∀ v : Int, Pst l sp (fun x => 0 ≤ x ∧ x ≤ sp) n v → (x = v + rd l (n : Int) ∨ x = v - rd l (n : Int)) → ∃ y : Nat → Int, y (n + 1) = x ∧ Seqs l sp (n + 1) y := by
      intro v hv he
      obtain ⟨y, e, h1, h2⟩ := ih v hv
      refine ⟨fun j => if j ≤ n then y j else x, by simp only [if_neg (show ¬ n + 1 ≤ n by omega)], fun i hi => ?_, fun i hi => ?_⟩
      · by_cases c : i ≤ n
        · simp only [if_pos c]; exact h1 i c
        · simp only [if_neg c]; exact hx.1
      · by_cases c : i + 1 ≤ n
        · simp only [if_pos c, if_pos (show i ≤ n by omega)]; exact h2 i (by omega)
        · have e3 : i = n := by omega
          subst e3
          simp only [if_neg c, if_pos (Nat.le_refl i)]
          rw [e]; exact he
    rcases hx.2 with hv | hv
    · exact step _ hv (Or.inl (by omega))
    · exact step _ hv (Or.inr (by omega))
theorem seq_Pst {l : List Int} {sp : Int} {y : Nat → Int} {n : Nat} (h : Seqs l sp n y) : ∀ i : Nat, i ≤ n → Pst l sp (fun x => 0 ≤ x ∧ x ≤ sp) i (y i) := by
  intro i
  induction i with
  | zero => intro hi; exact h.1 0 hi
  | succ i ih =>
    intro hi
    refine ⟨h.1 (i + 1) hi, ?_⟩
    have q := ih (by omega)
    rcases h.2 i (by omega) with e | e
    · left; rw [e, show y i + rd l (i : Int) - rd l (i : Int) = y i from by omega]; exact q
    · right; rw [e, show y i - rd l (i : Int) + rd l (i : Int) = y i from by omega]; exact q
theorem Fit_seq {l : List Int} {sp : Int} : Fit l sp ↔ ∃ y : Nat → Int, Seqs l sp l.length y := by
  constructor
  · rintro ⟨x, hx⟩
    obtain ⟨y, _, h⟩ := Pst_seq l.length x hx
    exact ⟨y, h⟩
  · rintro ⟨y, h⟩
    exact ⟨y l.length, seq_Pst h l.length (Nat.le_refl _)⟩
theorem endM_seq {l : List Int} {sp : Int} {y : Nat → Int} (h : Seqs l sp l.length y) : ∃ s : Nat, s < 2 ^ l.length ∧ spanM l s ≤ sp := by
  have hc : ∀ i : Nat, (if y (i + 1) = y i + rd l (i : Int) then 0 else 1) < 2 := by intro i; split <;> omega
  refine ⟨setOf (fun i => if y (i + 1) = y i + rd l (i : Int) then 0 else 1) l.length, setOf_lt hc _, ?_⟩
  have hb := setOf_bit hc l.length
  generalize setOf (fun i => if y (i + 1) = y i + rd l (i : Int) then 0 else 1) l.length = s at *
  have key : ∀ i : Nat, i ≤ l.length → (endM l s i).1 = y i - y 0 ∧ - y 0 ≤ (endM l s i).2.1 ∧ (endM l s i).2.2 ≤ sp - y 0 := by
    intro i
    induction i with
    | zero => intro _; have := h.1 0 (by omega); simp only [endM]; omega
    | succ i ih =>
      intro hi
      obtain ⟨q1, q2, q3⟩ := ih (by omega)
      have r1 := h.1 (i + 1) hi
      have r2 := h.2 i (by omega)
      have e := hb i (by omega)
      simp only [endM]
      rw [e]
      generalize endM l s i = q at *
      obtain ⟨a, b, c⟩ := q
      simp only [] at q1 q2 q3 ⊢
      generalize rd l (i : Int) = d at *
      generalize y (i + 1) = u at *
      generalize y i = v at *
      by_cases c1 : u = v + d
      · rw [if_pos c1, if_pos rfl]
        simp only [mn, mx]
        refine ⟨?_, ?_, ?_⟩
        · omega
        · split <;> omega
        · split <;> omega
      · rw [if_neg c1, if_neg (by omega)]
        simp only [mn, mx]
        refine ⟨?_, ?_, ?_⟩
        · omega
        · split <;> omega
        · split <;> omega
  have := key l.length (Nat.le_refl _)
  unfold spanM
  omega
theorem endM_mono {l : List Int} (s n : Nat) : ∀ d : Nat, (endM l s (n + d)).2.1 ≤ (endM l s n).2.1 ∧ (endM l s n).2.2 ≤ (endM l s (n + d)).2.2 := by
  intro d
  induction d with
  | zero => exact ⟨Int.le_refl _, Int.le_refl _⟩
  | succ d ih =>
    rw [← Nat.add_assoc]
    simp only [endM]
    generalize endM l s (n + d) = q at *
    obtain ⟨a, b, c⟩ := q
    simp only [] at ih ⊢
    simp only [mn, mx]
    split
    · simp only []
      refine ⟨?_, ?_⟩
      · split <;> omega
      · split <;> omega
    · simp only []
      refine ⟨?_, ?_⟩
      · split <;> omega
      · split <;> omega
theorem seq_of_span {l : List Int} (h : Rul l) {sp : Int} {s : Nat} (hs : spanM l s ≤ sp) : Seqs l sp l.length (fun i => (endM l s i).1 - (endM l s l.length).2.1) := by
  refine ⟨fun i hi => ?_, fun i hi => ?_⟩
  · have h1 := (endM_tot h s i hi).2
    have h2 := endM_mono (l := l) s i (l.length - i)
    rw [show i + (l.length - i) = l.length from by omega] at h2
    unfold spanM at hs
    simp only []
    omega
  · simp only [endM]
    split
    · left; simp only []; omega
    · right; simp only []; omega
theorem least_fit {l : List Int} (h : Rul l) (sp : Int) : (leastM l (2 ^ l.length)).1 ≤ sp ↔ Fit l sp := by
  obtain ⟨n, hN⟩ : ∃ n, 2 ^ l.length = n + 1 := ⟨2 ^ l.length - 1, by have := Nat.two_pow_pos l.length; omega⟩
  obtain ⟨f, g1, g2, g3, g4⟩ := leastM_spec l n
  rw [Fit_seq, hN, g2]
  constructor
  · intro hs
    exact ⟨_, seq_of_span h hs⟩
  · rintro ⟨y, hy⟩
    obtain ⟨s, h1, h2⟩ := endM_seq hy
    have := g3 s (by omega)
    show spanM l f ≤ sp
    omega
theorem Fit_rev1 {l : List Int} {sp : Int} (hf : Fit l sp) : Fit l.reverse sp := by
  obtain ⟨y, h1, h2⟩ := Fit_seq.1 hf
  refine Fit_seq.2 ⟨fun j => y (l.length - j), ?_, ?_⟩
  · intro i hi
    exact h1 _ (by omega)
  · intro i hi
    rw [List.length_reverse] at hi
    simp only []
    rw [rev_rd hi]
    have q := h2 (l.length - 1 - i) (by omega)
    rw [show l.length - 1 - i + 1 = l.length - i from by omega] at q
    rw [show l.length - (i + 1) = l.length - 1 - i from by omega]
    omega
theorem least_rev {l : List Int} (h : Rul l) : (leastM l.reverse (2 ^ l.reverse.length)).1 = (leastM l (2 ^ l.length)).1 := by
  have a1 := (least_fit h.rev _).2 (Fit_rev1 ((least_fit h _).1 (Int.le_refl _)))
  have a2 := (least_fit h.rev _).1 (Int.le_refl _)
  have a3 := Fit_rev1 a2
  rw [List.reverse_reverse] at a3
  have a4 := (least_fit h _).2 a3
  omega
theorem least_case {l : List Int} (h : Rul l) {m : Nat} (h1 : Fit l (m : Int)) (h2 : ∀ j : Nat, j < m → ¬ Fit l (j : Int)) : (leastM l (2 ^ l.length)).1 = (m : Int) := by
  have a1 := (least_fit h _).2 h1
  have a2 := (least_fit h _).1 (Int.le_refl _)
  have a3 := Fit_pos a2
  by_cases c : (leastM l (2 ^ l.length)).1 < (m : Int)
  · refine absurd ?_ (h2 (leastM l (2 ^ l.length)).1.toNat (by omega))
    rw [Int.toNat_of_nonneg a3]
    exact a2
  · omega
theorem mxTo_le {l : List Int} {b : Int} (h0 : 0 ≤ b) : ∀ n : Nat, (∀ i : Nat, i < n → rd l (i : Int) ≤ b) → mxTo l n ≤ b := by
  intro n
  induction n with
  | zero => intro _; exact h0
  | succ n ih =>
    intro h
    have h1 := ih (fun i hi => h i (by omega))
    have h2 := h n (by omega)
    unfold mxTo mx
    split <;> omega
theorem least_mx {l : List Int} (h : Rul l) : mxTo l l.length ≤ (leastM l (2 ^ l.length)).1 := by
  have a2 := (least_fit h _).1 (Int.le_refl _)
  have a3 := Fit_pos a2
  obtain ⟨y, h1, h2⟩ := Fit_seq.1 a2
  refine mxTo_le a3 _ (fun i hi => ?_)
  have q1 := h1 i (by omega)
  have q2 := h1 (i + 1) (by omega)
  have q3 := h2 i hi
  omega
end Go.Proofs.Ytcabpamfncjoeaa.M
