/- What functions of the given program come to, by the abstract machine: one text of a proof. -/
import Derived.Test.YtlnflmjgnmljeaaBC8
set_option linter.unusedVariables false
set_option linter.unusedSimpArgs false
set_option maxRecDepth 8000
namespace Go.Abs
open Go.Proofs.Try
theorem law5 {zs bs : List Int} {n m : Nat} (hn : n ≤ zs.length) (hz : ∀ z ∈ zs, 0 ≤ z ∧ z < 256) (hk : zs.length ≤ 140737488351232) (hm : m ≤ bs.length) (hb : ∀ z ∈ bs, 0 ≤ z ∧ z < 256) (hk' : bs.length ≤ 140737488351232) :
    Small prog (fun _ => none) 5 [.slice 1 0 0 0 n (some zs.length), .slice 1 1 0 0 m (some bs.length)] [some ⟨.ints .u8 zs, 0, false, 5⟩, some ⟨.ints .u8 bs, 0, false, 5⟩] (.bool true) [some ⟨.ints .u8 zs, 0, false, 5⟩, some ⟨.ints .u8 bs, 0, false, 5⟩] := by
  have hl : (subLaw zs 0 n).length = n := subLaw_len (by omega)
  have hl' : (subLaw bs 0 m).length = m := subLaw_len (by omega)
  have e0 := lent_a hn
  have e1 := lent_b hn
  have f0 := lent_a hm
  have f1 := lent_b hm
  by_cases h : n = 16 ∧ m = 16
  · obtain ⟨rfl, rfl⟩ := h
    have hz' := Bytes.of hz
    have hb' := Bytes.of hb
    have q := sub_bytes hz' 0 16
    have q' := sub_bytes hb' 0 16
    refine small_ofG (keep := [0,1]) (R := R5a zs bs) eSa_ok hmA (f := 5) (fn := f5) (by kernel_rfl) (by kernel_rfl) FnOrc.nil rfl (R5a_ok ?_) R5a_val R5a_tab
    simp only [allP, Con.h, lent_sub hn, lent_take hn, lent_sub hm, lent_take hm, e0, e1, f0, f1, hl, hl', hz', hb', q, q', beq_self_eq_true, List.length_append, List.length_cons, List.length_nil, eq_self, true_and, and_true, Nat.zero_add, Nat.reduceAdd]
    omega
  · have hne : n ≠ 16 ∨ m ≠ 16 := by omega
    refine small_ofG (keep := [0,1]) (R := R5b zs bs n m) eSb_ok hmA (f := 5) (fn := f5) (by kernel_rfl) (by kernel_rfl) FnOrc.nil rfl (R5b_ok ?_) R5b_val R5b_tab
    simp only [allP, Con.h, lent_sub hn, lent_take hn, lent_sub hm, lent_take hm, e0, e1, f0, f1, hl, hl', hne, beq_self_eq_true, List.length_append, List.length_cons, List.length_nil, eq_self, true_and, and_true, Nat.zero_add]
    omega
end Go.Abs
