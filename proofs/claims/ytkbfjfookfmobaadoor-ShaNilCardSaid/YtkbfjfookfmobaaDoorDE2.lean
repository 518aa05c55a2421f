/- What functions of the given program come to, by the abstract machine: one text of a proof. -/
import Derived.Test.YtkbfjfookfmobaaDoorDE1
set_option linter.unusedVariables false
set_option linter.unusedSimpArgs false
set_option maxRecDepth 8000
namespace Go.Abs
open Go.Proofs Go.Proofs.Tryd
noncomputable def tab5 (a : Int) (zs : List Int) (n : Nat) : Tab := if a = 256 then (R5a zs n).tab else if a = 512 then (R5b zs n).tab else (R5c a zs n).tab
theorem law5 {a : Int} {zs : List Int} {n : Nat} : Small prog glS 5 [.int .i64 a, .slice 1 0 0 0 n (some zs.length)] [some ⟨.ints .u8 zs, 0, false, 5⟩] (.bool true) (tab5 a zs n) := by
  unfold tab5
  by_cases h1 : a = 256
  · subst h1
    rw [if_pos rfl]
    exact small_of (R := R5a zs n) eN2_ok hmS (f := 5) (fn := f5) (by kernel_rfl) (by kernel_rfl) FnOrc.nil rfl (R5a_ok trivial) R5a_val rfl
  · rw [if_neg h1]
    by_cases h2 : a = 512
    · subst h2
      rw [if_pos rfl]
      exact small_of (R := R5b zs n) eN2_ok hmS (f := 5) (fn := f5) (by kernel_rfl) (by kernel_rfl) FnOrc.nil rfl (R5b_ok trivial) R5b_val rfl
    · rw [if_neg h2]
      exact small_of (R := R5c a zs n) eN3_ok hmS (f := 5) (fn := f5) (by kernel_rfl) (by kernel_rfl) FnOrc.nil rfl (R5c_ok (by simp [allP, Con.h, h1, h2])) R5c_val rfl
end Go.Abs
