/- What functions of the given program come to, by the abstract machine: one text of a proof. -/
import Derived.Test.YtlnflmjgnmljeaaBB1
set_option linter.unusedVariables false
set_option linter.unusedSimpArgs false
namespace Go.Abs
/-! ### the schedule of keys, byte by byte -/
theorem ixor_comm (a b : Int) : ixor a b = ixor b a := by simp [ixor, Nat.xor_comm]
def rcLaw : Nat → Int
  | 0 => 1
  | i + 1 => dblLaw (rcLaw i)
theorem rcLaw_lt : ∀ i, 0 ≤ rcLaw i ∧ rcLaw i < 256
  | 0 => by decide
  | i + 1 => dblLaw_lt
def knLaw (q : List Int) (j : Nat) (c : Int) : Int := ixor (q.getD j 0) (if j = 0 then ixor (boxLaw (q.getD 13 0)) c else if j < 4 then boxLaw (q.getD (12 + (j + 1) % 4) 0) else q.getD (12 + j) 0)
def kNextLaw (l : List Int) (n : Nat) : Int := knLaw (l.drop (16 * (n / 16) - 16)) (n % 16) (rcLaw (n / 16 - 1))
def kLaw (key : List Int) : Nat → List Int
  | 0 => key
  | n + 1 => kLaw key n ++ [kNextLaw (kLaw key n) (16 + n)]
/-- the first so many bytes, from 16 on -/
def ksLaw (key : List Int) (n : Nat) : List Int := kLaw key (n - 16)
theorem ksLaw_len {key : List Int} (hk : key.length = 16) {n : Nat} (h : 16 ≤ n) : (ksLaw key n).length = n := by
  have : ∀ m, (kLaw key m).length = 16 + m := fun m => by
    induction m with
    | zero => simpa [kLaw] using hk
    | succ m ih => simp [kLaw, ih]; omega
  unfold ksLaw; rw [this]; omega
theorem ksLaw_succ {key : List Int} {n : Nat} (h : 16 ≤ n) : ksLaw key (n + 1) = ksLaw key n ++ [kNextLaw (ksLaw key n) n] := by
  obtain ⟨m, rfl⟩ : ∃ m, n = 16 + m := ⟨n - 16, by omega⟩
  unfold ksLaw
  rw [show 16 + m + 1 - 16 = m + 1 by omega, show 16 + m - 16 = m by omega]
  rfl
theorem getD_drop {l : List Int} {a j : Nat} : (l.drop a).getD j 0 = l.getD (a + j) 0 := by simp [List.getD]
theorem kNextLaw_eq {l : List Int} {n : Nat} (h : 16 ≤ n) : kNextLaw l n = ixor (l.getD (n - 16) 0) (if n % 16 = 0 then ixor (boxLaw (l.getD (n - 3) 0)) (rcLaw (n / 16 - 1)) else if n % 16 < 4 then boxLaw (l.getD (16 * (n / 16) - 4 + (n % 16 + 1) % 4) 0) else l.getD (n - 4) 0) := by
  unfold kNextLaw knLaw
  simp only [getD_drop]
  rw [show 16 * (n / 16) - 16 + n % 16 = n - 16 by omega]
  by_cases h0 : n % 16 = 0
  · rw [if_pos h0, if_pos h0, show 16 * (n / 16) - 16 + 13 = n - 3 by omega]
  · rw [if_neg h0, if_neg h0]
    by_cases h4 : n % 16 < 4
    · rw [if_pos h4, if_pos h4, show 16 * (n / 16) - 16 + (12 + (n % 16 + 1) % 4) = 16 * (n / 16) - 4 + (n % 16 + 1) % 4 by omega]
    · rw [if_neg h4, if_neg h4, show 16 * (n / 16) - 16 + (12 + n % 16) = n - 4 by omega]

/-- sixteen steps -/
def stepsLaw (c : Int) (q : List Int) : Nat → List Int
  | 0 => q
  | j + 1 => stepsLaw c q j ++ [knLaw (stepsLaw c q j) j c]
theorem ks_steps {key : List Int} (hk : key.length = 16) {R : Nat} (hR : 1 ≤ R) : ∀ j, j ≤ 16 → (ksLaw key (16 * R + j)).drop (16 * R - 16) = stepsLaw (rcLaw (R - 1)) ((ksLaw key (16 * R)).drop (16 * R - 16)) j ∧ (ksLaw key (16 * R + j)).take (16 * R - 16) = (ksLaw key (16 * R)).take (16 * R - 16)
  | 0, _ => ⟨rfl, rfl⟩
  | j + 1, hj => by
    obtain ⟨h1, h2⟩ := ks_steps hk hR j (by omega)
    have hl := ksLaw_len hk (n := 16 * R + j) (by omega)
    rw [show 16 * R + (j + 1) = 16 * R + j + 1 by omega, ksLaw_succ (by omega)]
    refine ⟨?_, ?_⟩
    · rw [List.drop_append_of_le_length (by omega), h1]
      show _ = stepsLaw _ _ j ++ [knLaw (stepsLaw _ _ j) j _]
      rw [← h1]
      unfold kNextLaw
      rw [show (16 * R + j) / 16 = R by omega, show (16 * R + j) % 16 = j by omega]
    · rw [List.take_append_of_le_length (by omega), h2]
theorem stepsLaw_pre (c : Int) (q : List Int) : ∀ j, ∃ s, stepsLaw c q j = q ++ s ∧ s.length = j
  | 0 => ⟨[], by simp [stepsLaw], rfl⟩
  | j + 1 => by
    obtain ⟨s, h, hl⟩ := stepsLaw_pre c q j
    exact ⟨s ++ [knLaw (stepsLaw c q j) j c], by rw [stepsLaw, h, List.append_assoc], by simp [hl]⟩
def nextLaw (q : List Int) (c : Int) : List Int := (stepsLaw c q 16).drop 16
theorem ks_next {key : List Int} (hk : key.length = 16) {R : Nat} (hR : 1 ≤ R) : ksLaw key (16 * R + 16) = ksLaw key (16 * R) ++ nextLaw ((ksLaw key (16 * R)).drop (16 * R - 16)) (rcLaw (R - 1)) := by
  obtain ⟨h1, h2⟩ := ks_steps hk hR 16 (Nat.le_refl _)
  have hl := ksLaw_len hk (n := 16 * R) (by omega)
  obtain ⟨s, hs, hsl⟩ := stepsLaw_pre (rcLaw (R - 1)) ((ksLaw key (16 * R)).drop (16 * R - 16)) 16
  have hq : ((ksLaw key (16 * R)).drop (16 * R - 16)).length = 16 := by simp [hl]; omega
  rw [← List.take_append_drop (16 * R - 16) (ksLaw key (16 * R + 16)), h1, h2, hs, ← List.append_assoc, List.take_append_drop]
  unfold nextLaw
  rw [hs, List.drop_append_of_le_length (by omega), List.drop_of_length_le (by omega)]
  simp
theorem set_zeros {l : List Int} {v : Int} {m : Nat} : (l ++ List.replicate (m + 1) 0).set l.length v = (l ++ [v]) ++ List.replicate m 0 := by
  rw [List.set_append, if_neg (by omega)]
  simp [List.replicate_succ]
def Bytes (l : List Int) : Prop := ∀ i, i < l.length → 0 ≤ l.getD i 0 ∧ l.getD i 0 < 256
theorem Bytes.get {l : List Int} (h : Bytes l) (i : Nat) : 0 ≤ l.getD i 0 ∧ l.getD i 0 < 256 := by
  rcases Nat.lt_or_ge i l.length with hi | hi
  · exact h i hi
  · rw [List.getD_eq_getElem?_getD, List.getElem?_eq_none hi]; decide
theorem Bytes.append {a b : List Int} (ha : Bytes a) (hb : Bytes b) : Bytes (a ++ b) := by
  intro i _
  rcases Nat.lt_or_ge i a.length with hi | hi
  · rw [List.getD_eq_getElem?_getD, List.getElem?_append_left hi, ← List.getD_eq_getElem?_getD]; exact ha.get i
  · rw [List.getD_eq_getElem?_getD, List.getElem?_append_right hi, ← List.getD_eq_getElem?_getD]; exact hb.get _
theorem Bytes.one {x : Int} (h : 0 ≤ x ∧ x < 256) : Bytes [x] := by
  intro i hi
  match i, hi with
  | 0, _ => exact h
theorem Bytes.drop {l : List Int} (h : Bytes l) (n : Nat) : Bytes (l.drop n) := fun i _ => by rw [getD_drop]; exact h.get _
theorem Bytes.take {l : List Int} (h : Bytes l) (n : Nat) : Bytes (l.take n) := fun i hi => by
  have : i < n := by simp at hi; omega
  rw [List.getD_eq_getElem?_getD, List.getElem?_take, if_pos this, ← List.getD_eq_getElem?_getD]; exact h.get _
theorem knLaw_rng {q : List Int} (hq : Bytes q) {j : Nat} {c : Int} (hc : 0 ≤ c ∧ c < 256) : 0 ≤ knLaw q j c ∧ knLaw q j c < 256 := by
  unfold knLaw
  refine ixor_lt8 (hq.get _) ?_
  split
  · exact ixor_lt8 (boxLaw_rng (hq.get _)) hc
  · split
    · exact boxLaw_rng (hq.get _)
    · exact hq.get _
theorem ksLaw_bytes {key : List Int} (hk : Bytes key) : ∀ n, Bytes (ksLaw key n) := by
  have : ∀ m, Bytes (kLaw key m) := fun m => by
    induction m with
    | zero => exact hk
    | succ m ih => exact ih.append (.one (knLaw_rng (ih.drop _) (rcLaw_lt _)))
  exact fun n => this _
theorem tab_box {x : Int} (h : 0 ≤ x ∧ x < 256) : TABLaw.getD x.toNat 0 = boxLaw x := by
  unfold TABLaw boxLaw
  rw [List.getD_eq_getElem?_getD, List.getElem?_append_left (by rw [show BOXLaw.length = 256 by kernel_rfl]; omega), List.getD_eq_getElem?_getD]
theorem TABLaw_len : TABLaw.length = 512 := by kernel_rfl
def setsLaw (xs : List Int) (n : Nat) : List Int → List Int
  | [] => xs
  | v :: vs => setsLaw (xs.set n v) (n + 1) vs
theorem setsLaw_zeros : ∀ {vs l : List Int} {m : Nat}, vs.length ≤ m → setsLaw (l ++ List.replicate m 0) l.length vs = l ++ vs ++ List.replicate (m - vs.length) 0
  | [], l, m, _ => by simp [setsLaw]
  | v :: vs, l, m, h => by
    obtain ⟨k, rfl⟩ : ∃ k, m = k + 1 := ⟨m - 1, by simp at h; omega⟩
    rw [setsLaw, set_zeros]
    have := setsLaw_zeros (vs := vs) (l := l ++ [v]) (m := k) (by simpa using h)
    rw [List.length_append] at this
    rw [show l.length + 1 = l.length + [v].length from rfl, this]
    simp
/-- the same, the other way round -/
def knXLaw (q : List Int) (j : Nat) (c : Int) : Int := ixor (if j = 0 then ixor (boxLaw (q.getD 13 0)) c else if j < 4 then boxLaw (q.getD (12 + (j + 1) % 4) 0) else q.getD (12 + j) 0) (q.getD j 0)
def stepsXLaw (c : Int) (q : List Int) : Nat → List Int
  | 0 => q
  | j + 1 => stepsXLaw c q j ++ [knXLaw (stepsXLaw c q j) j c]
theorem stepsX_eq (c : Int) (q : List Int) : ∀ j, stepsXLaw c q j = stepsLaw c q j
  | 0 => rfl
  | j + 1 => by
    rw [stepsXLaw, stepsLaw, stepsX_eq c q j]
    unfold knXLaw knLaw
    rw [ixor_comm]
theorem list16 {l : List Int} (h : l.length = 16) : ∃ a0 a1 a2 a3 a4 a5 a6 a7 a8 a9 a10 a11 a12 a13 a14 a15, l = [a0, a1, a2, a3, a4, a5, a6, a7, a8, a9, a10, a11, a12, a13, a14, a15] := by
  match l, h with
  | [a0, a1, a2, a3, a4, a5, a6, a7, a8, a9, a10, a11, a12, a13, a14, a15], _ => exact ⟨a0, a1, a2, a3, a4, a5, a6, a7, a8, a9, a10, a11, a12, a13, a14, a15, rfl⟩
end Go.Abs
