/- Plain words on the ascending lists of shares, for the proofs of this seat's statements; no condition. -/
import Derived.Test.YtcabpamfncjoeaaMf
namespace Go.Proofs.Ytcabpamfncjoeaa.M
open Go.RowKit Go.Proofs.YtcabpamfncjoeaaW.PrintWords Go.Proofs.YtcabpamfncjoeaaW.PrintLast Go.Proofs.YtcabpamfncjoeaaW.PrintMore
set_option linter.unusedVariables false
set_option linter.unusedSimpArgs false

/-- All ascending lists of m shares of p, none below f. -/
def LL : Nat → Nat → Nat → List (List Int)
  | 0, p, _ => if p = 0 then [[]] else []
  | m + 1, p, f => (List.range' f (p / (m + 1) + 1 - f)).flatMap fun x => (LL m (p - x) x).map fun l => (x : Int) :: l
/-- Those whose first share is x or more. -/
def TT (m p x : Nat) : List (List Int) := (List.range' x (p / (m + 1) + 1 - x)).flatMap fun y => (LL m (p - y) y).map fun l => (y : Int) :: l
theorem LL_TT (m p f : Nat) : LL (m + 1) p f = TT m p f := rfl
theorem TT_step {m p x : Nat} (h : x * (m + 1) ≤ p) : TT m p x = ((LL m (p - x) x).map fun l => (x : Int) :: l) ++ TT m p (x + 1) := by
  have h1 : x ≤ p / (m + 1) := (Nat.le_div_iff_mul_le (by omega)).2 h
  unfold TT
  rw [show p / (m + 1) + 1 - x = (p / (m + 1) + 1 - (x + 1)) + 1 by omega, List.range'_succ, List.flatMap_cons]
theorem TT_end {m p x : Nat} (h : ¬ x * (m + 1) ≤ p) : TT m p x = [] := by
  have h1 : ¬ x ≤ p / (m + 1) := fun q => h ((Nat.le_div_iff_mul_le (by omega)).1 q)
  unfold TT
  rw [show p / (m + 1) + 1 - x = 0 by omega]
  rfl
theorem TT_zero (p : Nat) : ∀ (d x : Nat), x + d = p → TT 0 p x = [[(p : Int)]] := by
  intro d
  induction d with
  | zero =>
    intro x hx
    obtain rfl : x = p := by omega
    rw [TT_step (by omega), TT_end (by omega)]
    simp [LL]
  | succ d ih =>
    intro x hx
    rw [TT_step (by omega), ih (x + 1) (by omega)]
    simp [LL]
    omega
theorem LL_one (p f : Nat) : LL 1 p f = if f ≤ p then [[(p : Int)]] else [] := by
  rw [LL_TT]
  by_cases h : f ≤ p
  · rw [if_pos h]
    exact TT_zero p (p - f) f (by omega)
  · rw [if_neg h]
    exact TT_end (by omega)
def UpF : Int → List Int → Prop
  | _, [] => True
  | f, x :: t => f ≤ x ∧ UpF x t
theorem LL_mem : ∀ (m p f : Nat) (l : List Int), l ∈ LL m p f → l.length = m ∧ tot l = (p : Int) ∧ UpF f l := by
  intro m
  induction m with
  | zero =>
    intro p f l h
    unfold LL at h
    by_cases c : p = 0
    · rw [if_pos c] at h
      obtain rfl := List.mem_singleton.1 h
      exact ⟨rfl, by rw [c]; rfl, trivial⟩
    · rw [if_neg c] at h
      exact absurd h (by simp)
  | succ m ih =>
    intro p f l h
    unfold LL at h
    obtain ⟨x, hx, h⟩ := List.mem_flatMap.1 h
    obtain ⟨t, ht, rfl⟩ := List.mem_map.1 h
    obtain ⟨h1, h2, h3⟩ := ih _ _ _ ht
    have hd : p / (m + 1) ≤ p := Nat.div_le_self _ _
    have hx' := List.mem_range'_1.1 hx
    refine ⟨by simp [h1], ?_, ?_, h3⟩
    · show (x : Int) + tot t = p
      omega
    · omega
theorem UpF.bd : ∀ {l : List Int} {f : Int}, UpF f l → 0 ≤ f → 0 ≤ tot l ∧ ∀ x ∈ l, f ≤ x ∧ x ≤ tot l := by
  intro l
  induction l with
  | nil => intro f _ _; exact ⟨Int.le_refl _, by simp⟩
  | cons y t ih =>
    intro f h hf
    have h0 := h.1
    obtain ⟨h1, h2⟩ := ih h.2 (by omega)
    have e : tot (y :: t) = y + tot t := rfl
    refine ⟨by omega, fun x hx => ?_⟩
    rcases List.mem_cons.1 hx with rfl | hx
    · omega
    · have := h2 x hx; omega
theorem rd_cons (y : Int) (t : List Int) (j : Nat) : rd (y :: t) ((j + 1 : Nat) : Int) = rd t (j : Int) := rfl
theorem UpF.asc : ∀ {l : List Int} {f : Int}, UpF f l → Asc l := by
  intro l
  induction l with
  | nil => intro f _ j hj; simp at hj
  | cons y t ih =>
    intro f h j hj
    cases j with
    | zero =>
      cases t with
      | nil => simp at hj
      | cons z u => exact h.2.1
    | succ j => exact ih h.2 j (by simp at hj; omega)
theorem LL_bun {m p f : Nat} {l : List Int} (h : l ∈ LL m p f) (hm : 1 ≤ m ∧ m ≤ 6) (hp : p ≤ 30) (hf : 1 ≤ f) : Bun l := by
  obtain ⟨h1, h2, h3⟩ := LL_mem m p f l h
  have hb := h3.bd (by omega)
  refine ⟨⟨fun j _ hj => ?_, ⟨by omega, by omega⟩⟩, h3.asc⟩
  have := hb.2 _ (rd_mem hj)
  omega
/-- The last share; f where there is none. -/
def ld : Nat → List Int → Nat
  | f, [] => f
  | _, x :: t => ld x.toNat t
theorem ld_lst : ∀ (l : List Int) (f : Nat), 0 < l.length → (∀ x ∈ l, 0 ≤ x) → lst l = (ld f l : Int) := by
  intro l
  induction l with
  | nil => intro f h _; simp at h
  | cons y t ih =>
    intro f _ h
    have hy := h y (by simp)
    cases t with
    | nil =>
      show y = ((y.toNat : Nat) : Int)
      omega
    | cons z u =>
      have e := ih y.toNat (by simp) (fun x hx => h x (List.mem_cons_of_mem _ hx))
      rw [lst_at (n := u.length) (by simp)] at e
      rw [lst_at (n := u.length + 1) (by simp), rd_cons]
      exact e
/-- How many have a last share with q. -/
def cq (q : Nat → Bool) : Nat → Nat → Nat → Nat
  | 0, p, f => if p = 0 then (if q f = true then 1 else 0) else 0
  | 1, p, f => if f ≤ p then (if q p = true then 1 else 0) else 0
  | m + 2, p, f => ((List.range' f (p / (m + 2) + 1 - f)).map fun x => cq q (m + 1) (p - x) x).sum
theorem LL_count (q : Nat → Bool) : ∀ (m p f : Nat), (LL m p f).countP (fun l => q (ld f l)) = cq q m p f
  | 0, p, f => by
    unfold LL cq
    by_cases c : p = 0
    · rw [if_pos c, if_pos c]; simp only [List.countP_cons, List.countP_nil, ld]; exact Nat.zero_add _
    · rw [if_neg c, if_neg c]; rfl
  | 1, p, f => by
    rw [LL_one]
    unfold cq
    by_cases c : f ≤ p
    · rw [if_pos c, if_pos c]; simp only [List.countP_cons, List.countP_nil, ld, Int.toNat_natCast]; exact Nat.zero_add _
    · rw [if_neg c, if_neg c]; rfl
  | m + 2, p, f => by
    unfold LL cq
    rw [List.countP_flatMap]
    congr 1
    apply List.map_congr_left
    intro x _
    have h := LL_count q (m + 1) (p - x) x
    simp only [Function.comp_def, List.countP_map, ld, Int.toNat_natCast]
    exact h
theorem TT_mem {m p f x : Nat} {l : List Int} (hf : f ≤ x) (h : x * (m + 1) ≤ p) (hl : l ∈ LL m (p - x) x) : ((x : Int) :: l) ∈ TT m p f := by
  have h1 : x ≤ p / (m + 1) := (Nat.le_div_iff_mul_le (by omega)).2 h
  unfold TT
  exact List.mem_flatMap.2 ⟨x, List.mem_range'_1.2 ⟨hf, by omega⟩, List.mem_map.2 ⟨l, hl, rfl⟩⟩
theorem mul_low {m p x : Nat} (h : x * (m + 1) ≤ p) : x ≤ p := Nat.le_trans (Nat.le_mul_of_pos_right x (by omega)) h
/-- What a teller keeps behind a list of lists; false where it has stopped. -/
def fo {σ : Type} (tm : σ → List Int → σ × Bool) : σ → List (List Int) → σ × Bool
  | s, [] => (s, true)
  | s, x :: t => if (tm s x).2 = true then fo tm (tm s x).1 t else ((tm s x).1, false)
theorem fo_app {σ : Type} (tm : σ → List Int → σ × Bool) (A B : List (List Int)) : ∀ s, fo tm s (A ++ B) = if (fo tm s A).2 = true then fo tm (fo tm s A).1 B else ((fo tm s A).1, false) := by
  induction A with
  | nil => intro s; rfl
  | cons x t ih =>
    intro s
    have e : ∀ u, fo tm s (x :: u) = if (tm s x).2 = true then fo tm (tm s x).1 u else ((tm s x).1, false) := fun _ => rfl
    by_cases c : (tm s x).2 = true
    · have e1 : ∀ u, fo tm s (x :: u) = fo tm (tm s x).1 u := fun u => (e u).trans (if_pos c)
      rw [List.cons_append, e1, e1]
      exact ih _
    · have e1 : ∀ u, fo tm s (x :: u) = ((tm s x).1, false) := fun u => (e u).trans (if_neg c)
      rw [List.cons_append, e1, e1]
      rfl
theorem fo_go {σ : Type} {tm : σ → List Int → σ × Bool} {s s' : σ} {x : List Int} (t : List (List Int)) (h : tm s x = (s', true)) : fo tm s (x :: t) = fo tm s' t := by
  have e : fo tm s (x :: t) = if (tm s x).2 = true then fo tm (tm s x).1 t else ((tm s x).1, false) := rfl
  rw [e, h]
  rfl
theorem fo_no {σ : Type} {tm : σ → List Int → σ × Bool} {s s' : σ} {x : List Int} (t : List (List Int)) (h : tm s x = (s', false)) : fo tm s (x :: t) = (s', false) := by
  have e : fo tm s (x :: t) = if (tm s x).2 = true then fo tm (tm s x).1 t else ((tm s x).1, false) := rfl
  rw [e, h]
  rfl
theorem fo_one {σ : Type} (tm : σ → List Int → σ × Bool) (s : σ) (x : List Int) : fo tm s [x] = tm s x := by
  simp only [fo]
  generalize tm s x = q
  obtain ⟨q1, q2⟩ := q
  cases q2 <;> rfl
def clo (l : List Int) : Bool := decide (3 ≤ l.length ∧ 0 < gap l)
def tmC (s : Int) (l : List Int) : Int × Bool := if clo l = true then (wrap64 (s + 1), true) else (s, true)
def tmS (s : Int) (l : List Int) : Int × Bool := (wrap64 (s + 1), true)
def tmF (s l : List Int) : List Int × Bool := if clo l = true then (l, false) else (s, s.isEmpty)
theorem fo_C : ∀ (L : List (List Int)) (s : Int), 0 ≤ s → s + L.length ≤ 1000000 → fo tmC s L = (s + (L.countP clo : Nat), true) := by
  intro L
  induction L with
  | nil => intro s _ _; simp [fo]
  | cons x t ih =>
    intro s h0 h1
    simp only [List.length_cons] at h1
    rw [List.countP_cons]
    by_cases c : clo x = true
    · rw [fo_go t (if_pos c), if_pos c, wid (by omega) (by omega), ih _ (by omega) (by omega)]
      congr 1
      omega
    · rw [fo_go t (if_neg c), if_neg c, ih _ h0 (by omega)]
      rfl
theorem fo_S : ∀ (L : List (List Int)) (s : Int), 0 ≤ s → s + L.length ≤ 1000000 → fo tmS s L = (s + (L.length : Nat), true) := by
  intro L
  induction L with
  | nil => intro s _ _; simp [fo]
  | cons x t ih =>
    intro s h0 h1
    simp only [List.length_cons] at h1
    rw [fo_go t rfl, wid (by omega) (by omega), ih _ (by omega) (by omega), List.length_cons]
    congr 1
    omega
theorem fo_F : ∀ (L : List (List Int)), fo tmF [] L = ((L.find? clo).getD [], (L.find? clo).isNone) := by
  intro L
  induction L with
  | nil => rfl
  | cons x t ih =>
    rw [List.find?_cons]
    by_cases c : clo x = true
    · rw [fo_no t (if_pos c), c]
      rfl
    · rw [fo_go (s' := []) t (if_neg c), ih]
      rw [Bool.not_eq_true] at c
      rw [c]
def Lc (n p : Nat) : Nat := cq (fun _ => true) n p 1
def Cc (n p : Nat) : Nat := cq (fun x => decide (2 * x < p)) n p 1
def Rs (n p i : Nat) : Nat := ((List.range' i (p + 1 - i)).map fun x => Lc (n - 1) (p - x)).sum
theorem Lc_len (n p : Nat) : (LL n p 1).length = Lc n p := by
  have h := LL_count (fun _ => true) n p 1
  rw [List.countP_true] at h
  exact h
theorem Rs_step {n p i : Nat} (h : i ≤ p) : Rs n p i = Lc (n - 1) (p - i) + Rs n p (i + 1) := by
  unfold Rs
  rw [show p + 1 - i = (p + 1 - (i + 1)) + 1 by omega, List.range'_succ, List.map_cons, List.sum_cons]
theorem Rs_end (n p : Nat) : Rs n p (p + 1) = 0 := by
  unfold Rs
  rw [show p + 1 - (p + 1) = 0 by omega]
  rfl
theorem Cc_count {n p : Nat} (hn : 3 ≤ n) : (LL n p 1).countP clo = Cc n p := by
  have h := LL_count (fun x => decide (2 * x < p)) n p 1
  unfold Cc
  rw [← h]
  apply List.countP_congr
  intro l hl
  obtain ⟨h1, h2, h3⟩ := LL_mem n p 1 l hl
  have hb := h3.bd (by omega)
  have e := ld_lst l 1 (by omega) (fun x hx => by have := hb.2 x hx; omega)
  unfold clo gap
  show decide _ = true ↔ decide (2 * ld 1 l < p) = true
  rw [decide_eq_true_eq, decide_eq_true_eq, h2, e]
  omega
theorem fin1 : ∀ n < 7, ∀ p < 31, Lc n p = if n = 0 then (if p = 0 then 1 else 0) else if p < n then 0 else Lc (n - 1) (p - 1) + Lc n (p - n) := by decide +kernel
theorem fin2 : ∀ n < 7, ∀ p < 31, Lc n p ≤ 1000 := by decide +kernel
theorem fin3 : ∀ n < 7, 3 ≤ n → ∀ p < 31, 1 ≤ p → Lc n p = Rs n p ((p + 1) / 2) + Cc n p := by decide +kernel
theorem fin4 : ∀ n < 7, 3 ≤ n → ∀ p < 31, 1 ≤ p → decide (0 < Cc n p) = (decide (n ≤ p) && (decide (3 < n) || decide (p ≠ 4))) := by decide +kernel
end Go.Proofs.Ytcabpamfncjoeaa.M
