/- Plain words on lattice paths, for the proofs of this seat's statements; no condition. -/
import Derived.Test.YtpeiefgkjfnfgaaM
namespace Go.Proofs.Ytpeiefgkjfnfgaa.M
open Go.RowKit Go.Proofs.YtpeiefgkjfnfgaaW.PrintWords Go.Proofs.YtpeiefgkjfnfgaaW.PrintLast Go.Proofs.YtpeiefgkjfnfgaaW.PrintMore
set_option linter.unusedVariables false
set_option linter.unusedSimpArgs false
def rl (xs : List (List Int)) (i : Int) : List Int := xs.getD i.toNat ([] : List Int)
theorem rl_get {l : List (List Int)} {i : Nat} (h : i < l.length) : rl l (i : Int) = l[i] := by
  simp [rl, List.getD_eq_getElem?_getD, h]
theorem rl_mem {l : List (List Int)} {i : Nat} (h : i < l.length) : rl l (i : Int) ∈ l := by
  rw [rl_get h]
  exact List.getElem_mem h
theorem ext_rl {l m : List (List Int)} (h : l.length = m.length) (e : ∀ i : Nat, i < l.length → rl l (i : Int) = rl m (i : Int)) : l = m := by
  apply List.ext_getElem h
  intro i h1 h2
  rw [← rl_get h1, ← rl_get h2]
  exact e i h1
def PX (p : List (List Int)) (i : Nat) : Int := rd (rl p (i : Int)) 0
def PY (p : List (List Int)) (i : Nat) : Int := rd (rl p (i : Int)) 1
def StepOk (s : List Int) : Prop := s.length = 2 ∧ (-9 ≤ rd s 0 ∧ rd s 0 ≤ 9) ∧ (-9 ≤ rd s 1 ∧ rd s 1 ≤ 9) ∧ ¬ (rd s 0 = 0 ∧ rd s 1 = 0)
def sX (p : List (List Int)) : Nat → Int
  | 0 => 0
  | n + 1 => sX p n + PX p n
def sY (p : List (List Int)) : Nat → Int
  | 0 => 0
  | n + 1 => sY p n + PY p n
def PSteps (p : List (List Int)) : Prop := ∀ j : Nat, j < p.length → StepOk (rl p (j : Int))
def PIn (p : List (List Int)) : Prop := (3 ≤ p.length ∧ p.length ≤ 8) ∧ PSteps p ∧ sX p p.length = 0 ∧ sY p p.length = 0
theorem sX_bd {p : List (List Int)} (n : Nat) (h : ∀ j : Nat, j < n → StepOk (rl p (j : Int))) : -(9 * (n : Int)) ≤ sX p n ∧ sX p n ≤ 9 * (n : Int) := by
  induction n with
  | zero => unfold sX; omega
  | succ n ih =>
    have h1 := ih fun j hj => h j (by omega)
    have h2 := (h n (by omega)).2.1
    unfold sX PX
    omega
theorem sY_bd {p : List (List Int)} (n : Nat) (h : ∀ j : Nat, j < n → StepOk (rl p (j : Int))) : -(9 * (n : Int)) ≤ sY p n ∧ sY p n ≤ 9 * (n : Int) := by
  induction n with
  | zero => unfold sY; omega
  | succ n ih =>
    have h1 := ih fun j hj => h j (by omega)
    have h2 := (h n (by omega)).2.2.1
    unfold sY PY
    omega
theorem PIn.bd {p : List (List Int)} (h : PIn p) (i : Nat) (hi : i ≤ p.length) : (-72 ≤ sX p i ∧ sX p i ≤ 72) ∧ (-72 ≤ sY p i ∧ sY p i ≤ 72) := by
  have h1 := sX_bd i fun j hj => h.2.1 j (by omega)
  have h2 := sY_bd i fun j hj => h.2.1 j (by omega)
  have := h.1
  omega
theorem PIn.step {p : List (List Int)} (h : PIn p) {i : Nat} (hi : i < p.length) : (rl p (i : Int)).length = 2 ∧ (-9 ≤ PX p i ∧ PX p i ≤ 9) ∧ (-9 ≤ PY p i ∧ PY p i ≤ 9) ∧ ¬ (PX p i = 0 ∧ PY p i = 0) := h.2.1 i hi
theorem mul_bd {a b : Int} (A B : Nat) (ha : -(A : Int) ≤ a ∧ a ≤ A) (hb : -(B : Int) ≤ b ∧ b ≤ B) : -((A * B : Nat) : Int) ≤ a * b ∧ a * b ≤ ((A * B : Nat) : Int) := by
  have h1 : a.natAbs ≤ A := by omega
  have h2 : b.natAbs ≤ B := by omega
  have h3 : (a * b).natAbs ≤ A * B := by
    rw [Int.natAbs_mul]
    exact Nat.mul_le_mul h1 h2
  omega
theorem tmod_next {i n : Nat} (hi : i < n) : Int.tmod (((i + 1 : Nat) : Int)) (n : Int) = (((i + 1) % n : Nat) : Int) := by
  rw [Int.tmod_eq_emod_of_nonneg (Int.natCast_nonneg _)]
  simp
theorem PIn.next {p : List (List Int)} (h : PIn p) {i : Nat} (hi : i < p.length) : ∃ j : Nat, Int.tmod (((i + 1 : Nat) : Int)) (p.length : Int) = (j : Int) ∧ j < p.length ∧ sX p j = sX p (i + 1) ∧ sY p j = sY p (i + 1) := by
  obtain ⟨_, _, h3, h4⟩ := h
  refine ⟨(i + 1) % p.length, tmod_next hi, Nat.mod_lt _ (by omega), ?_, ?_⟩
  · by_cases e : i + 1 = p.length
    · rw [e, Nat.mod_self, h3]; rfl
    · rw [Nat.mod_eq_of_lt (by omega)]
  · by_cases e : i + 1 = p.length
    · rw [e, Nat.mod_self, h4]; rfl
    · rw [Nat.mod_eq_of_lt (by omega)]
/-- The corners of the first n steps. -/
def cor (p : List (List Int)) (n : Nat) : List (List Int) := (List.range n).map fun i => [sX p i, sY p i]
theorem cor_len (p : List (List Int)) (n : Nat) : (cor p n).length = n := by simp [cor]
theorem cor_succ (p : List (List Int)) (n : Nat) : cor p (n + 1) = cor p n ++ [[sX p n, sY p n]] := by
  simp [cor, List.range_succ]
theorem cor_rl (p : List (List Int)) {n i : Nat} (h : i < n) : rl (cor p n) (i : Int) = [sX p i, sY p i] := by
  rw [rl_get (by rw [cor_len]; exact h)]
  simp [cor]
theorem rd2_0 (a b : Int) : rd [a, b] 0 = a := rfl
theorem rd2_1 (a b : Int) : rd [a, b] 1 = b := rfl
/-- Twice the area, summed up. -/
def arM (p : List (List Int)) : Nat → Int
  | 0 => 0
  | n + 1 => arM p n + (sX p n * (sY p n + PY p n) - sY p n * (sX p n + PX p n))
theorem PIn.prod {p : List (List Int)} (h : PIn p) {i : Nat} (hi : i < p.length) : (-11664 ≤ sX p i * (sY p i + PY p i) ∧ sX p i * (sY p i + PY p i) ≤ 11664) ∧ (-11664 ≤ sY p i * (sX p i + PX p i) ∧ sY p i * (sX p i + PX p i) ≤ 11664) := by
  have h1 := h.bd i (by omega)
  have h2 := (h.step hi).2
  have a := mul_bd (a := sX p i) (b := sY p i + PY p i) 108 108 (by omega) (by omega)
  have b := mul_bd (a := sY p i) (b := sX p i + PX p i) 108 108 (by omega) (by omega)
  omega
theorem PIn.ar {p : List (List Int)} (h : PIn p) : ∀ i : Nat, i ≤ p.length → -(23328 * (i : Int)) ≤ arM p i ∧ arM p i ≤ 23328 * (i : Int) := by
  intro i
  induction i with
  | zero => intro _; unfold arM; omega
  | succ i ih =>
    intro hi
    have h1 := ih (by omega)
    have h2 := h.prod (i := i) (by omega)
    unfold arM
    omega
/-- The greatest common divisor, by rounds. -/
def gM : Nat → Int → Int → Int
  | 0, a, _ => a
  | n + 1, a, b => if b = 0 then a else gM n b (a % b)
theorem gM_bd (n : Nat) : ∀ a b : Int, 0 ≤ a → a ≤ 1000 → 0 ≤ b → b ≤ 1000 → 0 ≤ gM n a b ∧ gM n a b ≤ 1000 := by
  induction n with
  | zero => intro a b h1 h2 _ _; unfold gM; omega
  | succ n ih =>
    intro a b h1 h2 h3 h4
    unfold gM
    split
    · omega
    · have := Int.emod_nonneg a (show b ≠ 0 by omega)
      have := Int.emod_lt_of_pos a (show 0 < b by omega)
      exact ih b (a % b) (by omega) (by omega) (by omega) (by omega)
def rimM (p : List (List Int)) : Nat → Int
  | 0 => 0
  | n + 1 => rimM p n + gM 1000 (mx (PX p n) (-PX p n)) (mx (PY p n) (-PY p n))
theorem rimM_bd {p : List (List Int)} (h : PIn p) : ∀ i : Nat, i ≤ p.length → 0 ≤ rimM p i ∧ rimM p i ≤ 1000 * (i : Int) := by
  intro i
  induction i with
  | zero => intro _; unfold rimM; omega
  | succ i ih =>
    intro hi
    have h1 := ih (by omega)
    have h2 := (h.step (i := i) (by omega)).2
    have h3 := gM_bd 1000 (mx (PX p i) (-PX p i)) (mx (PY p i) (-PY p i)) (by unfold mx; split <;> omega) (by unfold mx; split <;> omega) (by unfold mx; split <;> omega) (by unfold mx; split <;> omega)
    unfold rimM
    omega
/-- The least and the greatest coordinates of the first n corners. -/
def bxM (p : List (List Int)) : Nat → Int × Int × Int × Int
  | 0 => (0, 0, 0, 0)
  | n + 1 => (mn (bxM p n).1 (sX p n), mx (bxM p n).2.1 (sX p n), mn (bxM p n).2.2.1 (sY p n), mx (bxM p n).2.2.2 (sY p n))
theorem bxM_bd {p : List (List Int)} (h : PIn p) : ∀ i : Nat, i ≤ p.length → (-72 ≤ (bxM p i).1 ∧ (bxM p i).1 ≤ 72) ∧ (-72 ≤ (bxM p i).2.1 ∧ (bxM p i).2.1 ≤ 72) ∧ (-72 ≤ (bxM p i).2.2.1 ∧ (bxM p i).2.2.1 ≤ 72) ∧ (-72 ≤ (bxM p i).2.2.2 ∧ (bxM p i).2.2.2 ≤ 72) := by
  intro i
  induction i with
  | zero => intro _; simp only [bxM]; omega
  | succ i ih =>
    intro hi
    have h1 := ih (by omega)
    have h2 := h.bd i (by omega)
    simp only [bxM]
    generalize bxM p i = q at *
    obtain ⟨a, b, c, d⟩ := q
    simp only [mn, mx] at *
    refine ⟨?_, ?_, ?_, ?_⟩ <;> split <;> omega
/-- Cross products, halves, and whether a direction begins again. -/
def crM (a b : List Int) : Int := rd a 0 * rd b 1 - rd a 1 * rd b 0
def lowB (s : List Int) : Bool := decide (rd s 1 < 0 ∨ rd s 1 = 0 ∧ rd s 0 < 0)
def agB (a b : List Int) : Bool := if lowB a = lowB b then decide (crM a b < 0) else lowB a
def badB (a b : List Int) : Bool := decide (crM a b < 0 ∨ crM a b = 0 ∧ rd a 0 * rd b 0 + rd a 1 * rd b 1 < 0)
def nx (p : List (List Int)) (i : Nat) : Nat := (i + 1) % p.length
noncomputable def cvM (p : List (List Int)) : Nat → Nat → Int → Bool
  | 0, _, c => c == 1
  | d + 1, i, c => if badB (rl p (i : Int)) (rl p (nx p i : Int)) then false else cvM p d (i + 1) (if agB (rl p (i : Int)) (rl p (nx p i : Int)) then c + 1 else c)
theorem crM_bd {a b : List Int} (ha : StepOk a) (hb : StepOk b) : (-81 ≤ rd a 0 * rd b 1 ∧ rd a 0 * rd b 1 ≤ 81) ∧ (-81 ≤ rd a 1 * rd b 0 ∧ rd a 1 * rd b 0 ≤ 81) ∧ (-81 ≤ rd a 0 * rd b 0 ∧ rd a 0 * rd b 0 ≤ 81) ∧ (-81 ≤ rd a 1 * rd b 1 ∧ rd a 1 * rd b 1 ≤ 81) := by
  have h1 := mul_bd (a := rd a 0) (b := rd b 1) 9 9 ha.2.1 hb.2.2.1
  have h2 := mul_bd (a := rd a 1) (b := rd b 0) 9 9 ha.2.2.1 hb.2.1
  have h3 := mul_bd (a := rd a 0) (b := rd b 0) 9 9 ha.2.1 hb.2.1
  have h4 := mul_bd (a := rd a 1) (b := rd b 1) 9 9 ha.2.2.1 hb.2.2.1
  omega
end Go.Proofs.Ytpeiefgkjfnfgaa.M
