/- What functions of the given program come to, by the abstract machine: one text of a proof. -/
import Derived.Test.YtlnflmjgnmljeaaBB7
set_option linter.unusedVariables false
set_option linter.unusedSimpArgs false
set_option maxRecDepth 8000
namespace Go.Abs
open Go.Proofs.Try
theorem Bytes.of {l : List Int} (h : ∀ z ∈ l, 0 ≤ z ∧ z < 256) : Bytes l := fun i hi => by
  rw [List.getD_eq_getElem?_getD, List.getElem?_eq_getElem hi]; exact h _ (List.getElem_mem hi)
theorem lent_sub {zs : List Int} {n : Nat} (hn : n ≤ zs.length) : subLaw (subLaw zs 0 n ++ [201, 202]) 0 n = subLaw zs 0 n := by
  have hl : (subLaw zs 0 n).length = n := subLaw_len (by omega)
  rw [subLaw, List.drop_zero, List.take_append_of_le_length (by omega), List.take_of_length_le (by omega)]
theorem lent_take {zs : List Int} {n : Nat} (hn : n ≤ zs.length) : List.take n (subLaw zs 0 n ++ [201, 202]) = List.take n zs := by
  have hl : (subLaw zs 0 n).length = n := subLaw_len (by omega)
  rw [List.take_append_of_le_length (by omega), List.take_of_length_le (by omega)]
  simp [subLaw]
theorem lent_a {zs : List Int} {n : Nat} (hn : n ≤ zs.length) : (subLaw zs 0 n ++ [201, 202]).getD n 0 = 201 := by
  have hl : (subLaw zs 0 n).length = n := subLaw_len (by omega)
  rw [List.getD_eq_getElem?_getD, List.getElem?_append_right (by omega), hl]; simp
theorem lent_b {zs : List Int} {n : Nat} (hn : n ≤ zs.length) : (subLaw zs 0 n ++ [201, 202]).getD (n + 1) 0 = 202 := by
  have hl : (subLaw zs 0 n).length = n := subLaw_len (by omega)
  rw [List.getD_eq_getElem?_getD, List.getElem?_append_right (by omega), hl]; simp
theorem law4 {zs : List Int} {n : Nat} (hn : n ≤ zs.length) (hz : ∀ z ∈ zs, 0 ≤ z ∧ z < 256) (hm : zs.length ≤ 140737488351232) : Small prog (fun _ => none) 4 [.slice 1 0 0 0 n (some zs.length)] [some ⟨.ints .u8 zs, 0, false, 5⟩] (.bool true) [some ⟨.ints .u8 zs, 0, false, 5⟩] := by
  have hl : (subLaw zs 0 n).length = n := subLaw_len (by omega)
  by_cases h : n = 16
  · subst h
    have hb : Bytes (subLaw zs 0 16) := (((Bytes.of hz).drop 0).take 16)
    have e := lent_a hn
    have e' := lent_b hn
    refine small_drop (small_of (R := R4a zs) eLa_ok hmA (f := 4) (fn := f4) (by kernel_rfl) (by kernel_rfl) FnOrc.nil rfl (R4a_ok ?_) R4a_val R4a_tab)
    simp only [allP, Con.h, lent_sub hn, lent_take hn, lent_a hn, lent_b hn, hl, hb, ksLaw_len hl (n := 176) (by decide), beq_self_eq_true, List.length_append, List.length_cons, List.length_nil, eq_self, true_and, and_true, Nat.zero_add, Nat.reduceAdd, e']
    omega
  · refine small_drop (small_of (R := R4b zs n) eLb_ok hmA (f := 4) (fn := f4) (by kernel_rfl) (by kernel_rfl) FnOrc.nil rfl (R4b_ok ?_) R4b_val R4b_tab)
    simp only [allP, Con.h, lent_sub hn, lent_take hn, lent_a hn, lent_b hn, hl, beq_self_eq_true, List.length_append, List.length_cons, List.length_nil, eq_self, true_and, and_true, Nat.zero_add]
    omega
end Go.Abs
