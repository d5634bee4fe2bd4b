/- Plain words on numbers, lists and rounds, for the proofs of this seat's statements; no condition. -/
import Derived.Test.YtcabpamfncjoeaaWMore
namespace Go.Proofs.Ytcabpamfncjoeaa.M
open Go.RowKit Go.Proofs.YtcabpamfncjoeaaW.PrintWords Go.Proofs.YtcabpamfncjoeaaW.PrintLast Go.Proofs.YtcabpamfncjoeaaW.PrintMore
set_option linter.unusedVariables false
set_option linter.unusedSimpArgs false

theorem wid {x : Int} (h : -9223372036854775808 ≤ x) (h' : x ≤ 9223372036854775807) : wrap64 x = x := by
  unfold wrap64
  omega
theorem wsucc {i n : Nat} (h : i < n) (hn : n ≤ 1000000000000000) : wrap64 ((i : Int) + 1) = ((i + 1 : Nat) : Int) := by
  rw [wid (by omega) (by omega)]
  omega
theorem ev_pos {α : Type} {c : Prop} [Decidable c] {f g : Nat → Option α} {r : α} (hc : c) (h : Ev f r) : Ev (fun k => if c then f k else g k) r := by
  simpa only [if_pos hc] using h
theorem ev_neg {α : Type} {c : Prop} [Decidable c] {f g : Nat → Option α} {r : α} (hc : ¬ c) (h : Ev g r) : Ev (fun k => if c then f k else g k) r := by
  simpa only [if_neg hc] using h
theorem ev_ite {α : Type} {c : Prop} [Decidable c] {f g : Nat → Option α} {r : α} (h : c → Ev f r) (h' : ¬ c → Ev g r) : Ev (fun k => if c then f k else g k) r := by
  by_cases hc : c
  · exact ev_pos hc (h hc)
  · exact ev_neg hc (h' hc)
theorem ev_opt {α β : Type} {o : Option β} {b : β} {f : Nat → β → Option α} {r : α} (ho : o = some b) (h : Ev (fun n => f n b) r) : Ev (fun n => o.bind (f n)) r := by
  subst ho
  exact h
theorem ev_val {α : Type} {a r : α} (h : a = r) : Ev (fun _ => some a) r := h ▸ Ev.now a
theorem ev_eq {α : Type} {f : Nat → Option α} {a r : α} (h : Ev f a) (e : a = r) : Ev f r := e ▸ h
/-- A loop that counts up, from its end back. -/
theorem up_ev {σ α : Type} (n : Nat) (g : Nat → σ → Int → Option α) (F : σ → Nat → α) (P : σ → Nat → Prop)
    (h0 : ∀ s, P s n → Ev (fun k => g k s (n : Int)) (F s n))
    (h1 : ∀ s (i : Nat), i < n → P s i → (∀ s', P s' (i + 1) → Ev (fun k => g k s' ((i + 1 : Nat) : Int)) (F s' (i + 1))) → Ev (fun k => g k s (i : Int)) (F s i)) :
    ∀ s (i : Nat), i ≤ n → P s i → Ev (fun k => g k s (i : Int)) (F s i) := by
  have H : ∀ (d : Nat) s (i : Nat), i + d = n → P s i → Ev (fun k => g k s (i : Int)) (F s i) := by
    intro d
    induction d with
    | zero =>
      intro s i hi hp
      obtain rfl : i = n := by omega
      exact h0 s hp
    | succ d ih =>
      intro s i hi hp
      exact h1 s i (by omega) hp fun s' hp' => ih s' (i + 1) (by omega) hp'
  intro s i hi hp
  exact H (n - i) s i (by omega) hp
/-- The same, where the loop's value is told by what holds of it. -/
theorem up_ex {σ α : Type} (n : Nat) (g : Nat → σ → Int → Option α) (Q : α → Prop) (P : σ → Nat → Prop)
    (h0 : ∀ s, P s n → ∃ r, Ev (fun k => g k s (n : Int)) r ∧ Q r)
    (h1 : ∀ s (i : Nat), i < n → P s i → (∀ s', P s' (i + 1) → ∃ r, Ev (fun k => g k s' ((i + 1 : Nat) : Int)) r ∧ Q r) → ∃ r, Ev (fun k => g k s (i : Int)) r ∧ Q r) :
    ∀ s (i : Nat), i ≤ n → P s i → ∃ r, Ev (fun k => g k s (i : Int)) r ∧ Q r := by
  have H : ∀ (d : Nat) s (i : Nat), i + d = n → P s i → ∃ r, Ev (fun k => g k s (i : Int)) r ∧ Q r := by
    intro d
    induction d with
    | zero =>
      intro s i hi hp
      obtain rfl : i = n := by omega
      exact h0 s hp
    | succ d ih =>
      intro s i hi hp
      exact h1 s i (by omega) hp fun s' hp' => ih s' (i + 1) (by omega) hp'
  intro s i hi hp
  exact H (n - i) s i (by omega) hp
/-- A loop that counts down, from its end back. -/
theorem down_ev {σ α : Type} (g : Nat → σ → Int → Option α) (F : σ → Nat → α) (P : σ → Nat → Prop)
    (h0 : ∀ s, P s 0 → Ev (fun k => g k s ((0 : Nat) : Int)) (F s 0))
    (h1 : ∀ s (i : Nat), P s (i + 1) → (∀ s', P s' i → Ev (fun k => g k s' (i : Int)) (F s' i)) → Ev (fun k => g k s ((i + 1 : Nat) : Int)) (F s (i + 1))) :
    ∀ (i : Nat) s, P s i → Ev (fun k => g k s (i : Int)) (F s i) := by
  intro i
  induction i with
  | zero => exact fun s hp => h0 s hp
  | succ i ih => exact fun s hp => h1 s i hp ih

/-- A sentence as a bool. -/
noncomputable def bl (P : Prop) : Bool := @decide P (Classical.propDecidable P)
theorem bl_true {P : Prop} (h : P) : bl P = true := by unfold bl; exact @decide_eq_true P (Classical.propDecidable P) h
theorem bl_false {P : Prop} (h : ¬ P) : bl P = false := by unfold bl; exact @decide_eq_false P (Classical.propDecidable P) h
theorem bl_iff {P : Prop} : bl P = true ↔ P := by
  constructor
  · intro h
    by_cases hp : P
    · exact hp
    · rw [bl_false hp] at h; cases h
  · exact bl_true
theorem bl_congr {P Q : Prop} (h : P ↔ Q) : bl P = bl Q := by rw [propext h]
theorem bl_dec {P Q : Prop} [Decidable P] (h : P ↔ Q) : decide P = bl Q := by
  by_cases hp : P
  · rw [bl_true (h.1 hp), decide_eq_true hp]
  · rw [bl_false (fun q => hp (h.2 q)), decide_eq_false hp]

theorem xor_nonneg (x y : Int) (hx : 0 ≤ x) (hx1 : x < 1099511627776) (hy : 0 ≤ y) (hy1 : y < 1099511627776) : 0 ≤ Go.bits .xor .i64 x y := by
  obtain ⟨a, rfl⟩ := Int.eq_ofNat_of_zero_le hx
  obtain ⟨b, rfl⟩ := Int.eq_ofNat_of_zero_le hy
  have ha : a < 2 ^ 40 := by omega
  have hb : b < 2 ^ 40 := by omega
  have hk : IntKind.i64.bits = 64 := rfl
  have h := Nat.xor_lt_two_pow ha hb
  have ha' : a % 2 ^ 64 = a := Nat.mod_eq_of_lt (by omega)
  have hb' : b % 2 ^ 64 = b := Nat.mod_eq_of_lt (by omega)
  simp only [Go.bits, hk, BitVec.ofInt_natCast, BitVec.toNat_xor, BitVec.toNat_ofNat, ha', hb']
  generalize hn : a ^^^ b = n at h
  rw [Go.IntKind.wrap_i64]
  omega

theorem wf8 {n : Int} (h : (Lit.int .u8 n).wf = true) : 0 ≤ n ∧ n ≤ 255 := by
  simp [Lit.wf, IntKind.min, IntKind.max, IntKind.signed, IntKind.bits] at h
  omega
theorem wf64 {n : Int} (h : (Lit.int .i64 n).wf = true) : -9223372036854775808 ≤ n ∧ n ≤ 9223372036854775807 := by
  simp [Lit.wf, IntKind.min, IntKind.max, IntKind.signed, IntKind.bits] at h
  omega
/-! ### lists -/
theorem rd_get {l : List Int} {i : Nat} (h : i < l.length) : rd l (i : Int) = l[i] := by
  simp [rd, List.getD_eq_getElem?_getD, h]
theorem drop_rd {l : List Int} {i : Nat} (h : i < l.length) : l.drop i = rd l (i : Int) :: l.drop (i + 1) := by
  rw [rd_get h]
  exact List.drop_eq_getElem_cons h
theorem rd_mem {l : List Int} {i : Nat} (h : i < l.length) : rd l (i : Int) ∈ l := by
  rw [rd_get h]
  exact List.getElem_mem h
theorem rd_take {l : List Int} {i n : Nat} (h : i < n) (hn : n ≤ l.length) : rd (l.take n) (i : Int) = rd l (i : Int) := by
  rw [rd_get (by simp; omega), rd_get (by omega)]
  simp
def tot : List Int → Int
  | [] => 0
  | x :: t => x + tot t
theorem tot_drop {l : List Int} {i : Nat} (h : i < l.length) : tot (l.drop i) = rd l (i : Int) + tot (l.drop (i + 1)) := by
  rw [drop_rd h]; rfl
theorem tot_drop_end (l : List Int) : tot (l.drop l.length) = 0 := by simp [tot]
theorem tot_app (l m : List Int) : tot (l ++ m) = tot l + tot m := by
  induction l with
  | nil => simp [tot]
  | cons x t ih => simp only [List.cons_append, tot, ih]; omega
theorem tot_take {l : List Int} {i : Nat} (h : i < l.length) : tot (l.take (i + 1)) = tot (l.take i) + rd l (i : Int) := by
  rw [List.take_succ_eq_append_getElem h, tot_app, rd_get h]
  simp [tot]
theorem ext_rd {l m : List Int} (h : l.length = m.length) (e : ∀ i : Nat, i < l.length → rd l (i : Int) = rd m (i : Int)) : l = m := by
  apply List.ext_getElem h
  intro i h1 h2
  rw [← rd_get h1, ← rd_get h2]
  exact e i h1

/-! ### rulers and bundles -/
def Ok (l : List Int) (i : Nat) : Prop := ∀ j : Nat, i ≤ j → j < l.length → 1 ≤ rd l (j : Int) ∧ rd l (j : Int) ≤ 60
def Len9 (l : List Int) : Prop := 1 ≤ l.length ∧ l.length ≤ 9
def Rul (l : List Int) : Prop := Ok l 0 ∧ Len9 l
def Asc (l : List Int) : Prop := ∀ j : Nat, j + 1 < l.length → rd l (j : Int) ≤ rd l ((j + 1 : Nat) : Int)
def Bun (l : List Int) : Prop := Rul l ∧ Asc l
theorem Ok.tail {l : List Int} {i : Nat} (h : Ok l i) : Ok l (i + 1) := fun j hj hl => h j (by omega) hl
theorem Ok.cons {l : List Int} {i : Nat} (h : Ok l (i + 1)) (h1 : 1 ≤ rd l (i : Int)) (h2 : rd l (i : Int) ≤ 60) : Ok l i := by
  intro j hj hl
  by_cases e : j = i
  · subst e; exact ⟨h1, h2⟩
  · exact h j (by omega) hl
theorem Ok.at {l : List Int} {i : Nat} (h : Ok l 0) (hi : i < l.length) : 1 ≤ rd l (i : Int) ∧ rd l (i : Int) ≤ 60 := h i (by omega) hi
theorem tot_drop_bd {l : List Int} (h : Ok l 0) : ∀ (d i : Nat), i + d = l.length → (d : Int) ≤ tot (l.drop i) ∧ tot (l.drop i) ≤ 60 * d := by
  intro d
  induction d with
  | zero =>
    intro i hi
    obtain rfl : i = l.length := by omega
    rw [tot_drop_end]
    omega
  | succ d ih =>
    intro i hi
    have := ih (i + 1) (by omega)
    have := h.at (i := i) (by omega)
    rw [tot_drop (by omega)]
    omega
theorem tot_bd {l : List Int} (h : Ok l 0) : (l.length : Int) ≤ tot l ∧ tot l ≤ 60 * l.length := by
  have := tot_drop_bd h l.length 0 (by omega)
  simpa using this
theorem tot_split (l : List Int) (i : Nat) : tot l = tot (l.take i) + tot (l.drop i) := by
  rw [← tot_app, List.take_append_drop]
def lst (l : List Int) : Int := rd l ((l.length : Int) - 1)
def gap (l : List Int) : Int := tot l - 2 * lst l
theorem lst_at {l : List Int} {n : Nat} (h : l.length = n + 1) : lst l = rd l (n : Int) := by
  unfold lst
  rw [h]
  congr 1
  omega
theorem lst_bd {l : List Int} (h : Rul l) : 1 ≤ lst l ∧ lst l ≤ 60 := by
  obtain ⟨n, hn⟩ : ∃ n, l.length = n + 1 := ⟨l.length - 1, by have := h.2.1; omega⟩
  rw [lst_at hn]
  exact h.1.at (by omega)
theorem lst_tot {l : List Int} (h : Rul l) : lst l ≤ tot l := by
  obtain ⟨n, hn⟩ : ∃ n, l.length = n + 1 := ⟨l.length - 1, by have := h.2.1; omega⟩
  rw [lst_at hn, tot_split l n, tot_drop (by omega)]
  have h1 := tot_drop_bd h.1 0 (n + 1) (by omega)
  have h2 : 0 ≤ tot (l.take n) := by
    have := tot_drop_bd h.1 (l.length - 0) 0 (by omega)
    have h3 := tot_bd (l := l.take n) (fun j hj hl => by
      have hl' : j < n := by simp at hl; omega
      rw [rd_take hl' (by omega)]
      exact h.1.at (by omega))
    omega
  omega
theorem Rul.len {l : List Int} (h : Rul l) : 1 ≤ l.length ∧ l.length ≤ 9 := h.2
theorem Rul.tot {l : List Int} (h : Rul l) : 1 ≤ tot l ∧ tot l ≤ 540 := by
  have := tot_bd h.1
  have := h.len
  omega
theorem Bun.take {l : List Int} {n : Nat} (h : Bun l) (h1 : 1 ≤ n) (hn : n ≤ l.length) : Bun (l.take n) := by
  have hl : (l.take n).length = n := by simp; omega
  refine ⟨⟨fun j hj hjl => ?_, ?_⟩, fun j hj => ?_⟩
  · rw [hl] at hjl
    rw [rd_take hjl hn]
    exact h.1.1.at (by omega)
  · unfold Len9
    rw [hl]
    have := h.1.len
    omega
  · rw [hl] at hj
    rw [rd_take (by omega) hn, rd_take (by omega) hn]
    exact h.2 j (by omega)
theorem mx_eq (a b : Int) : mx a b = max a b := by unfold mx; omega
theorem mn_eq (a b : Int) : mn a b = min a b := by unfold mn; omega
/-- Whether a distance is reached. -/
def To (l : List Int) (d : Int) : Prop := mx 0 (- gap l) ≤ d ∧ d ≤ tot l
/-- Whether two chains meet at a distance. -/
def Meets (l m : List Int) (d : Int) : Prop := d ≤ tot l + tot m ∧ mx 0 (- gap l) ≤ tot m + d ∧ mx 0 (- gap m) ≤ tot l + d
theorem gap_low {l : List Int} (h : Rul l) : 0 ≤ mx 0 (- gap l) ∧ mx 0 (- gap l) ≤ 60 := by
  have := h.tot
  have := lst_bd h
  have := lst_tot h
  unfold gap mx
  split <;> omega
noncomputable def bestM (l : List Int) (d : Int) : Nat → Int × Bool
  | 0 => (0, false)
  | n + 1 => bif bl (To (l.take (n + 1)) d) then (((n + 1 : Nat) : Int), true) else bestM l d n

theorem bestM_spec (l : List Int) (d : Int) : ∀ n : Nat, (∃ j : Nat, 1 ≤ j ∧ j ≤ n ∧ bestM l d n = ((j : Int), true) ∧ To (l.take j) d ∧ ∀ i, j < i → i ≤ n → ¬ To (l.take i) d) ∨ (bestM l d n = (0, false)) := by
  intro n
  induction n with
  | zero => exact Or.inr rfl
  | succ n ih =>
    by_cases h : To (l.take (n + 1)) d
    · refine Or.inl ⟨n + 1, by omega, by omega, ?_, h, fun i h1 h2 => by omega⟩
      unfold bestM
      rw [bl_true h]; rfl
    · have e : bestM l d (n + 1) = bestM l d n := by
        conv => lhs; unfold bestM
        rw [bl_false h]; rfl
      rcases ih with ⟨j, h1, h2, h3, h4, h5⟩ | h3
      · refine Or.inl ⟨j, h1, by omega, by rw [e, h3], h4, fun i hi1 hi2 => ?_⟩
        by_cases e2 : i = n + 1
        · subst e2; exact h
        · exact h5 i hi1 (by omega)
      · exact Or.inr (by rw [e, h3])

end Go.Proofs.Ytcabpamfncjoeaa.M
