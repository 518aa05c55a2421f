/- What functions of the given program come to, by the abstract machine: texts of a proof. -/
import Derived.Test.YtmhfelkcibfigaaDoorP0
import Derived.Test.YtmhfelkcibfigaaDoorAbs2
set_option linter.unusedVariables false
set_option linter.unusedSimpArgs false
set_option maxRecDepth 100000
set_option maxHeartbeats 4000000
namespace Go.Abs
open Go.Proofs Go.Proofs.Tryd
/-! ### the document's Below -/
noncomputable def sm16 (k : Nat) : Summary := fun args T => ⟨[.tab T [], .val (.tuple args) (.tuple [.int .i64 (iOf (vAt args 0)), .int .i64 (iOf (vAt args 1))]), .leI (lvLaw (iOf (vAt args 0))) (k : Int)], .bool (belowLaw (iOf (vAt args 0)) (iOf (vAt args 1))), []⟩
def P16 (k : Nat) : Prop := ∀ x n : Int, lvLaw x ≤ (k : Int) → Small prog glI 16 [.int .i64 x, .int .i64 n] [] (.bool (belowLaw x n)) []
theorem sm16_ok {k : Nat} (hp : P16 k) : SmOk prog glI 16 (sm16 k) := by
  intro args T h
  unfold sm16 at h ⊢
  simp only at h ⊢
  generalize iOf (vAt args 0) = x at h ⊢
  generalize iOf (vAt args 1) = n at h ⊢
  obtain ⟨hT, hv, h1, _⟩ := h
  simp only [Con.h] at hT hv h1
  injection hv with hv
  subst hT hv
  exact hp x n h1
noncomputable def S16 (k : Nat) : Summary := callR (sm16 k) []
theorem S16_ok {k : Nat} (hp : P16 k) : SumOk prog glI 16 (S16 k) := callR_ok (sm16_ok hp) []
noncomputable def eR (k : Nat) : Env := eI0 [(16, S16 k), (28, S28), (29, S29)]
theorem eR_ok {k : Nat} (hp : P16 k) : EnvOk (eR k) := envOf_ok tysI_ok (SumsOk.cons (fn := f16) (S16_ok hp) (by kernel_rfl) (by kernel_rfl) (by kernel_rfl) (SumsOk.cons (fn := f28) S28_ok (by kernel_rfl) (by kernel_rfl) (by kernel_rfl) (SumsOk.cons (fn := f29) S29_ok (by kernel_rfl) (by kernel_rfl) (by kernel_rfl) trivial)))
noncomputable def eR0 : Env := eI0 [(28, S28), (29, S29)]
theorem eR0_ok : EnvOk eR0 := envOf_ok tysI_ok (SumsOk.cons (fn := f28) S28_ok (by kernel_rfl) (by kernel_rfl) (by kernel_rfl) (SumsOk.cons (fn := f29) S29_ok (by kernel_rfl) (by kernel_rfl) (by kernel_rfl) trivial))
noncomputable def R16_0 (x n : Int) : Res := runF eR0 f16 [] 400 [.int .i64 x, .int .i64 n] [] [some true]
theorem R16_0_ok {x n : Int} (h : allP [.p (decide (x < 0) = true)]) : OkR (R16_0 x n) := OkR.dem (fl := [false]) (by kernel_rfl) (by kernel_rfl) (by kernel_rfl) h
theorem R16_0_val {x n : Int} : (R16_0 x n).val = .bool false := by kernel_rfl
theorem R16_0_tab {x n : Int} : (R16_0 x n).tab = [] := by kernel_rfl
noncomputable def R16_1 (x n : Int) : Res := runF eR0 f16 [] 400 [.int .i64 x, .int .i64 n] [] [some false, some true]
theorem R16_1_ok {x n : Int} (h : allP [.p (decide (x < 0) = false), .p (decide (127 ≤ x) = true)]) : OkR (R16_1 x n) := OkR.dem (fl := [false, false]) (by kernel_rfl) (by kernel_rfl) (by kernel_rfl) h
theorem R16_1_val {x n : Int} : (R16_1 x n).val = .bool false := by kernel_rfl
theorem R16_1_tab {x n : Int} : (R16_1 x n).tab = [] := by kernel_rfl
noncomputable def R16_2 (x n : Int) : Res := runF eR0 f16 [] 400 [.int .i64 x, .int .i64 n] [] [some false, some false, some true]
theorem R16_2_ok {x n : Int} (h : allP [.p (decide (x < 0) = false), .p (decide (127 ≤ x) = false), .p (decide (n < 0) = true)]) : OkR (R16_2 x n) := OkR.dem (fl := [false, false, false]) (by kernel_rfl) (by kernel_rfl) (by kernel_rfl) h
theorem R16_2_val {x n : Int} : (R16_2 x n).val = .bool false := by kernel_rfl
theorem R16_2_tab {x n : Int} : (R16_2 x n).tab = [] := by kernel_rfl
noncomputable def R16_3 (x n : Int) : Res := runF eR0 f16 [] 400 [.int .i64 x, .int .i64 n] [] [some false, some false, some false, some true]
theorem R16_3_ok {x n : Int} (h : allP [.p (decide (x < 0) = false), .p (decide (127 ≤ x) = false), .p (decide (n < 0) = false), .p (decide (64 ≤ n) = true)]) : OkR (R16_3 x n) := OkR.dem (fl := [false, false, false, false]) (by kernel_rfl) (by kernel_rfl) (by kernel_rfl) h
theorem R16_3_val {x n : Int} : (R16_3 x n).val = .bool false := by kernel_rfl
theorem R16_3_tab {x n : Int} : (R16_3 x n).tab = [] := by kernel_rfl
noncomputable def R16_4 (x n : Int) : Res := runF eR0 f16 [] 400 [.int .i64 x, .int .i64 n] [] [some false, some false, some false, some false, some true, none]
theorem R16_4_ok {x n : Int} (h : allP [.p (decide (x < 0) = false), .p (decide (127 ≤ x) = false), .p (decide (n < 0) = false), .p (decide (64 ≤ n) = false), .p ((x.tmod 2 == 0) = true), .rng (-9223372036854775808) (2 * n) 9223372036854775807]) : OkR (R16_4 x n) := OkR.dem (fl := [false, false, false, false, true, false, false]) (by kernel_rfl) (by kernel_rfl) (by kernel_rfl) h
theorem R16_4_val {x n : Int} : (R16_4 x n).val = .bool (x == 2 * n) := by kernel_rfl
theorem R16_4_tab {x n : Int} : (R16_4 x n).tab = [] := by kernel_rfl
noncomputable def R16t (k : Nat) (x n : Int) : Res := runF (eR k) f16 [] 400 [.int .i64 x, .int .i64 n] [] [some false, some false, some false, some false, some false, none, none, some true]
theorem R16t_ok {k : Nat} {x n : Int} (h : allP [.p (decide (x < 0) = false), .p (decide (127 ≤ x) = false), .p (decide (n < 0) = false), .p (decide (64 ≤ n) = false), .p ((x.tmod 2 == 0) = false), .leI (lvLaw (sideLaw x (-1))) (↑k : Int), .p (belowLaw (sideLaw x (-1)) n = true)]) : OkR (R16t k x n) := OkR.dem (fl := bitsF 14 16) (by kernel_rfl) (by kernel_rfl) (by kernel_rfl) h
theorem R16t_val {k : Nat} {x n : Int} : (R16t k x n).val = .bool true := by kernel_rfl
theorem R16t_tab {k : Nat} {x n : Int} : (R16t k x n).tab = [] := by kernel_rfl
noncomputable def R16f (k : Nat) (x n : Int) : Res := runF (eR k) f16 [] 400 [.int .i64 x, .int .i64 n] [] [some false, some false, some false, some false, some false, none, none, some false, none]
theorem R16f_ok {k : Nat} {x n : Int} (h : allP [.p (decide (x < 0) = false), .p (decide (127 ≤ x) = false), .p (decide (n < 0) = false), .p (decide (64 ≤ n) = false), .p ((x.tmod 2 == 0) = false), .leI (lvLaw (sideLaw x (-1))) (↑k : Int), .p (belowLaw (sideLaw x (-1)) n = false), .leI (lvLaw (sideLaw x 1)) (↑k : Int)]) : OkR (R16f k x n) := OkR.dem (fl := bitsF 17 16) (by kernel_rfl) (by
 kernel_rfl) (by kernel_rfl) h
theorem R16f_val {k : Nat} {x n : Int} : (R16f k x n).val = .bool (belowLaw (sideLaw x 1) n) := by kernel_rfl
theorem R16f_tab {k : Nat} {x n : Int} : (R16f k x n).tab = [] := by kernel_rfl
theorem below_out {x n : Int} (h : x < 0 ∨ 127 ≤ x ∨ n < 0 ∨ 64 ≤ n) : belowLaw x n = false := by
  cases hb : belowLaw x n with
  | false => rfl
  | true =>
    simp only [belowLaw, Bool.and_eq_true, decide_eq_true_eq] at hb
    omega
theorem lv_down : domOdd.all (fun x => eqI (lvLaw (sideLaw x (-1))) (lvLaw x - 1) && (eqI (lvLaw (sideLaw x 1)) (lvLaw x - 1) && (leIB 1 (lvLaw x) && (inB (sideLaw x (-1)) && inB (sideLaw x 1))))) = true := by decide +kernel
theorem lv_even' {x : Int} (h : 0 ≤ x) (h2 : x % 2 = 0) : lvLaw x = 0 := by
  have := lv_even (a := x / 2) (by omega)
  rwa [show 2 * (x / 2) = x by omega] at this
theorem below_even {x n : Int} (h0 : 0 ≤ x) (h1 : x < 127) (h2 : x % 2 = 0) (g0 : 0 ≤ n) (g1 : n < 64) : belowLaw x n = (x == 2 * n) := by
  unfold belowLaw
  rw [decide_eq_true h0, decide_eq_true h1, decide_eq_true g0, decide_eq_true g1, lv_even' h0 h2]
  simp only [Bool.true_and, show ((0 : Int) + 1).toNat = 1 by rfl]
  cases h : (x == 2 * n) with
  | true => rw [beq_iff_eq] at h ⊢; omega
  | false => rw [beq_eq_false_iff_ne] at h ⊢; omega
theorem p16 : ∀ k : Nat, P16 k := by
  intro k
  induction k with
  | zero =>
    intro x n hl
    by_cases h0 : x < 0
    · rw [below_out (by omega)]; exact small_of (R := R16_0 x n) eR0_ok hmI (f := 16) (fn := f16) (by kernel_rfl) (by kernel_rfl) FnOrc.nil rfl (R16_0_ok (by simp only [allP, Con.h, decide_eq_false_iff_not, decide_eq_true_eq, beq_eq_false_iff_ne, beq_iff_eq, ne_eq, and_true]; omega)) R16_0_val R16_0_tab
    by_cases h1 : 127 ≤ x
    · rw [below_out (by omega)]; exact small_of (R := R16_1 x n) eR0_ok hmI (f := 16) (fn := f16) (by kernel_rfl) (by kernel_rfl) FnOrc.nil rfl (R16_1_ok (by simp only [allP, Con.h, decide_eq_false_iff_not, decide_eq_true_eq, beq_eq_false_iff_ne, beq_iff_eq, ne_eq, and_true]; omega)) R16_1_val R16_1_tab
    by_cases h2 : n < 0
    · rw [below_out (by omega)]; exact small_of (R := R16_2 x n) eR0_ok hmI (f := 16) (fn := f16) (by kernel_rfl) (by kernel_rfl) FnOrc.nil rfl (R16_2_ok (by simp only [allP, Con.h, decide_eq_false_iff_not, decide_eq_true_eq, beq_eq_false_iff_ne, beq_iff_eq, ne_eq, and_true]; omega)) R16_2_val R16_2_tab
    by_cases h3 : 64 ≤ n
    · rw [below_out (by omega)]; exact small_of (R := R16_3 x n) eR0_ok hmI (f := 16) (fn := f16) (by kernel_rfl) (by kernel_rfl) FnOrc.nil rfl (R16_3_ok (by simp only [allP, Con.h, decide_eq_false_iff_not, decide_eq_true_eq, beq_eq_false_iff_ne, beq_iff_eq, ne_eq, and_true]; omega)) R16_3_val R16_3_tab
    have ht : x.tmod 2 = x % 2 := Int.tmod_eq_emod_of_nonneg (by omega)
    by_cases h4 : x % 2 = 0
    · rw [below_even (by omega) (by omega) h4 (by omega) (by omega)]
      exact small_of (R := R16_4 x n) eR0_ok hmI (f := 16) (fn := f16) (by kernel_rfl) (by kernel_rfl) FnOrc.nil rfl (R16_4_ok (by simp only [allP, Con.h, decide_eq_false_iff_not, decide_eq_true_eq, beq_eq_false_iff_ne, beq_iff_eq, ne_eq, and_true]; omega)) R16_4_val R16_4_tab
    · exfalso
      have hi : innerLaw x = true := by rw [inner_odd (by omega) (by omega), ht, beq_iff_eq]; omega
      have := List.all_eq_true.1 lv_down x (domOdd_mem hi)
      simp only [Bool.and_eq_true] at this
      have := leIB_ok this.2.2.1
      omega
  | succ k ih =>
    intro x n hl
    by_cases h0 : x < 0
    · rw [below_out (by omega)]; exact small_of (R := R16_0 x n) eR0_ok hmI (f := 16) (fn := f16) (by kernel_rfl) (by kernel_rfl) FnOrc.nil rfl (R16_0_ok (by simp only [allP, Con.h, decide_eq_false_iff_not, decide_eq_true_eq, beq_eq_false_iff_ne, beq_iff_eq, ne_eq, and_true]; omega)) R16_0_val R16_0_tab
    by_cases h1 : 127 ≤ x
    · rw [below_out (by omega)]; exact small_of (R := R16_1 x n) eR0_ok hmI (f := 16) (fn := f16) (by kernel_rfl) (by kernel_rfl) FnOrc.nil rfl (R16_1_ok (by simp only [allP, Con.h, decide_eq_false_iff_not, decide_eq_true_eq, beq_eq_false_iff_ne, beq_iff_eq, ne_eq, and_true]; omega)) R16_1_val R16_1_tab
    by_cases h2 : n < 0
    · rw [below_out (by omega)]; exact small_of (R := R16_2 x n) eR0_ok hmI (f := 16) (fn := f16) (by kernel_rfl) (by kernel_rfl) FnOrc.nil rfl (R16_2_ok (by simp only [allP, Con.h, decide_eq_false_iff_not, decide_eq_true_eq, beq_eq_false_iff_ne, beq_iff_eq, ne_eq, and_true]; omega)) R16_2_val R16_2_tab
    by_cases h3 : 64 ≤ n
    · rw [below_out (by omega)]; exact small_of (R := R16_3 x n) eR0_ok hmI (f := 16) (fn := f16) (by kernel_rfl) (by kernel_rfl) FnOrc.nil rfl (R16_3_ok (by simp only [allP, Con.h, decide_eq_false_iff_not, decide_eq_true_eq, beq_eq_false_iff_ne, beq_iff_eq, ne_eq, and_true]; omega)) R16_3_val R16_3_tab
    have ht : x.tmod 2 = x % 2 := Int.tmod_eq_emod_of_nonneg (by omega)
    by_cases h4 : x % 2 = 0
    · rw [below_even (by omega) (by omega) h4 (by omega) (by omega)]
      exact small_of (R := R16_4 x n) eR0_ok hmI (f := 16) (fn := f16) (by kernel_rfl) (by kernel_rfl) FnOrc.nil rfl (R16_4_ok (by simp only [allP, Con.h, decide_eq_false_iff_not, decide_eq_true_eq, beq_eq_false_iff_ne, beq_iff_eq, ne_eq, and_true]; omega)) R16_4_val R16_4_tab
    · have hi : innerLaw x = true := by rw [inner_odd (by omega) (by omega), ht, beq_iff_eq]; omega
      have hd := List.all_eq_true.1 lv_down x (domOdd_mem hi)
      simp only [Bool.and_eq_true] at hd
      have d1 := eqI_ok hd.1
      have d2 := eqI_ok hd.2.1
      have hb := below_part (l := n) hi (by omega) (by omega)
      rw [hb.1]
      cases hl1 : belowLaw (sideLaw x (-1)) n with
      | true => exact small_of (R := R16t k x n) (eR_ok ih) hmI (f := 16) (fn := f16) (by kernel_rfl) (by kernel_rfl) FnOrc.nil rfl (R16t_ok (by simp only [allP, Con.h, decide_eq_false_iff_not, beq_eq_false_iff_ne, ne_eq, hl1, and_true]; omega)) R16t_val R16t_tab
      | false =>
        rw [Bool.false_or]
        exact small_of (R := R16f k x n) (eR_ok ih) hmI (f := 16) (fn := f16) (by kernel_rfl) (by kernel_rfl) FnOrc.nil rfl (R16f_ok (by simp only [allP, Con.h, decide_eq_false_iff_not, beq_eq_false_iff_ne, ne_eq, hl1, and_true, true_and]; omega)) R16f_val R16f_tab
theorem lv_64 (x : Int) : lvLaw x ≤ 64 := by
  unfold lvLaw
  split
  · omega
  · have : ∀ f n : Nat, lvGo f n ≤ f := by
      intro f
      induction f with
      | zero => intro n; simp [lvGo]
      | succ f ih => intro n; unfold lvGo; split <;> have := ih (n / 2) <;> omega
    have := this 64 x.toNat
    omega
noncomputable def sm16a : Summary := fun args T => ⟨[.tab T [], .val (.tuple args) (.tuple [.int .i64 (iOf (vAt args 0)), .int .i64 (iOf (vAt args 1))])], .bool (belowLaw (iOf (vAt args 0)) (iOf (vAt args 1))), []⟩
theorem sm16a_ok : SmOk prog glI 16 sm16a := by
  intro args T h
  exact sm16_ok (p16 64) args T ⟨h.1, h.2.1, lv_64 _, trivial⟩
noncomputable def S16a : Summary := callR sm16a []
theorem S16a_ok : SumOk prog glI 16 S16a := callR_ok sm16a_ok []
end Go.Abs

set_option linter.unusedVariables false
set_option linter.unusedSimpArgs false
set_option maxRecDepth 100000
set_option maxHeartbeats 4000000
namespace Go.Abs
open Go.Proofs Go.Proofs.Tryd
/-! ### two lists; the document's Common -/
noncomputable def A10 (P Q : List Int) (g gc n m : Nat) (i : Int) : Out := trim 2 2 [0,1,5] (run (eI0 []) 26 ⟨2, []⟩ 400 (roundOf 0 f10) [(0, .slice 1 0 g 0 n none), (1, .slice 1 1 gc 0 m none), (5, .int .i64 i)] [some ⟨.ints .i64 P, g, false, 3⟩, some ⟨.ints .i64 Q, gc, false, 3⟩] [some true, some false])
theorem A10_ok {P Q : List Int} {g gc n m : Nat} {i : Int} (h : allP [.eqN g g, .p (decide (i < (↑n : Int)) = true), .eqN g g, .leI 0 i, .leI (i + 1) (↑n : Int), .eqN g g, .leN (i.toNat + 1) P.length, .eqN gc gc, .leI 0 i, .leI (i + 1) (↑m : Int), .eqN gc gc, .leN (i.toNat + 1) Q.length, .p ((P.getD i.toNat 0 != Q.getD i.toNat 0) = false), .rng (-9223372036854775808) (i + 1) 9223372036854775807]) :
 Ok (A10 P Q g gc n m i) := Ok.dem (fl := bitsF 15 0) (by kernel_rfl) (by kernel_rfl) (by kernel_rfl) h
theorem A10_ex {P Q : List Int} {g gc n m : Nat} {i : Int} : (A10 P Q g gc n m i).ex = .normal := by kernel_rfl
theorem A10_fm {P Q : List Int} {g gc n m : Nat} {i : Int} : (A10 P Q g gc n m i).fm = [(0, .slice 1 0 g 0 n none), (1, .slice 1 1 gc 0 m none), (5, .int .i64 (i + 1))] := by kernel_rfl
theorem A10_tab {P Q : List Int} {g gc n m : Nat} {i : Int} : (A10 P Q g gc n m i).tab = [some ⟨.ints .i64 P, g, false, 3⟩, some ⟨.ints .i64 Q, gc, false, 3⟩] := by kernel_rfl
noncomputable def X10 (P Q : List Int) (g gc n m : Nat) (i : Int) : Out := trim 2 2 [] (run (eI0 []) 26 ⟨2, []⟩ 400 (roundOf 0 f10) [(0, .slice 1 0 g 0 n none), (1, .slice 1 1 gc 0 m none), (5, .int .i64 i)] [some ⟨.ints .i64 P, g, false, 3⟩, some ⟨.ints .i64 Q, gc, false, 3⟩] [some false])
theorem X10_ok {P Q : List Int} {g gc n m : Nat} {i : Int} (h : allP [.eqN g g, .p (decide (i < (↑n : Int)) = false)]) : Ok (X10 P Q g gc n m i) := Ok.dem (fl := [false, false]) (by kernel_rfl) (by kernel_rfl) (by kernel_rfl) h
theorem X10_ex {P Q : List Int} {g gc n m : Nat} {i : Int} : (X10 P Q g gc n m i).ex = .exit 0 := by kernel_rfl
theorem X10_fm {P Q : List Int} {g gc n m : Nat} {i : Int} : (X10 P Q g gc n m i).fm = [] := by kernel_rfl
theorem X10_tab {P Q : List Int} {g gc n m : Nat} {i : Int} : (X10 P Q g gc n m i).tab = [some ⟨.ints .i64 P, g, false, 3⟩, some ⟨.ints .i64 Q, gc, false, 3⟩] := by kernel_rfl
def SameLaw (P Q : List Int) : Prop := P = Q ∧ P.length ≤ 1000
def F10 (P Q : List Int) (g gc n m : Nat) (i : Nat) : Fm := [(0, .slice 1 0 g 0 n none), (1, .slice 1 1 gc 0 m none), (5, .int .i64 (i : Nat))]
theorem loop10 {P Q : List Int} {g gc n m : Nat} (hn : n = P.length) (hm : m = Q.length) (hs : SameLaw P Q) : To (eI0 []) 26 2 (.block 0 (.loop (roundOf 0 f10))) [(0, .slice 1 0 g 0 n none), (1, .slice 1 1 gc 0 m none), (5, .int .i64 0)] [some ⟨.ints .i64 P, g, false, 3⟩, some ⟨.ints .i64 Q, gc, false, 3⟩] .normal [] [some ⟨.ints .i64 P, g, false, 3⟩, some ⟨.ints .i64 Q, gc, false, 3⟩] := by
  obtain ⟨rfl, hl⟩ := hs
  subst hn hm
  refine To.rounds (F10 P P g gc P.length P.length) (fun _ => [some ⟨.ints .i64 P, g, false, 3⟩, some ⟨.ints .i64 P, gc, false, 3⟩]) P.length (fun i hi => ?_) (To.of (o := X10 P P g gc P.length P.length (P.length : Nat)) eI0_ok hmI (Nat.le_refl 2) OrcOk.nil rfl (X10_ok (by simp [allP, Con.h])) X10_ex X10_fm X10_tab)
  refine To.of (o := A10 P P g gc P.length P.length (i : Nat)) eI0_ok hmI (Nat.le_refl 2) OrcOk.nil rfl (A10_ok ?_) A10_ex A10_fm A10_tab
  simp only [allP, Con.h, decide_eq_true_eq, addO_eq, mulO_eq, Int.toNat_natCast, Nat.zero_add, Nat.mul_one, bne_self_eq_false, and_true, true_and]
  omega
noncomputable def g10c (vs : List AVal) (T : Tab) (P : List Int) (Q : List Int) (g : Nat) (gc : Nat) (n : Nat) (m : Nat) : Out := ⟨[.tab T [some ⟨.ints .i64 P, g, false, 3⟩, some ⟨.ints .i64 Q, gc, false, 3⟩], .val (.tuple vs) (.tuple [.slice 1 0 g 0 n none, .slice 1 1 gc 0 m none, .int .i64 0]), .eqN n P.length, .eqN m Q.length, .p (SameLaw P Q)], .normal, [], [some ⟨.ints .i64 P, g, false, 3⟩, some ⟨.ints .i64 Q, gc, false, 3⟩], []⟩
theorem g10c_ok {vs : List AVal} {T : Tab} {P : List Int} {Q : List Int} {g : Nat} {gc : Nat} {n : Nat} {m : Nat} (h : Ok (g10c vs T P Q g gc n m)) : To (eI0 []) 26 2 (.block 0 (.loop (roundOf 0 f10))) (zipF [0,1,5] vs) T (g10c vs T P Q g gc n m).ex (g10c vs T P Q g gc n m).fm (g10c vs T P Q g gc n m).tab := by
  obtain ⟨hT, hv, h1, h2, h3, _⟩ := h.h
  simp only [Con.h] at hT hv h1 h2 h3
  injection hv with hv
  subst hT hv
  exact loop10 h1 h2 h3
noncomputable def g10 : List AVal → Tab → Out := fun vs T => g10c vs T (xsAt T 0) (xsAt T 1) (gAt T 0) (gAt T 1) (lenOf (vAt vs 0)) (lenOf (vAt vs 1))
theorem g10_ok : BlkOk (eI0 []) f10 0 (.loop (roundOf 0 f10)) (blkS 2 [0,1,5] g10) := blkS_ok fun vs T h => g10c_ok h
noncomputable def orc10 : OrcL := [(0, blkS 2 [0,1,5] g10)]
theorem orc10_ok : FnOrc (eI0 []) f10 orc10 := FnOrc.cons g10_ok (by kernel_rfl) FnOrc.nil
noncomputable def R10 (P Q : List Int) (g gc n m : Nat) : Res := runF (eI0 []) f10 orc10 400 [.slice 1 0 g 0 n none, .slice 1 1 gc 0 m none] [some ⟨.ints .i64 P, g, false, 3⟩, some ⟨.ints .i64 Q, gc, false, 3⟩] [some false]
theorem R10_ok {P Q : List Int} {g gc n m : Nat} (h : allP [.eqN g g, .eqN gc gc, .p (((↑n : Int) != (↑m : Int)) = false), .eqN n P.length, .eqN m Q.length, .p (SameLaw P Q)]) : OkR (R10 P Q g gc n m) := OkR.dem (fl := [false, false, false, false, false, false, false, false]) (by kernel_rfl) (by kernel_rfl) (by kernel_rfl) h
theorem R10_val {P Q : List Int} {g gc n m : Nat} : (R10 P Q g gc n m).val = .bool true := by kernel_rfl
theorem R10_tab {P Q : List Int} {g gc n m : Nat} : (R10 P Q g gc n m).tab = [some ⟨.ints .i64 P, g, false, 3⟩, some ⟨.ints .i64 Q, gc, false, 3⟩] := by kernel_rfl
noncomputable def sm10c (args : List AVal) (T : Tab) (P : List Int) (Q : List Int) (g : Nat) (gc : Nat) (n : Nat) (m : Nat) : Res := ⟨[.tab T [some ⟨.ints .i64 P, g, false, 3⟩, some ⟨.ints .i64 Q, gc, false, 3⟩], .val (.tuple args) (.tuple [.slice 1 0 g 0 n none, .slice 1 1 gc 0 m none]), .eqN n P.length, .eqN m Q.length, .p (SameLaw P Q)], .bool true, [some ⟨.ints .i64 P, g, false, 3⟩, some ⟨.ints .i64 Q, gc, false, 3⟩]⟩
theorem sm10c_ok {args : List AVal} {T : Tab} {P : List Int} {Q : List Int} {g : Nat} {gc : Nat} {n : Nat} {m : Nat} (h : allP (sm10c args T P Q g gc n m).cs) : Small prog glI 10 args T (sm10c args T P Q g gc n m).val (sm10c args T P Q g gc n m).tab := by
  obtain ⟨hT, hv, h1, h2, h3, _⟩ := h
  simp only [Con.h] at hT hv h1 h2 h3
  injection hv with hv
  subst hT hv
  show Small prog glI 10 [.slice 1 0 g 0 n none, .slice 1 1 gc 0 m none] [some ⟨.ints .i64 P, g, false, 3⟩, some ⟨.ints .i64 Q, gc, false, 3⟩] (.bool true) [some ⟨.ints .i64 P, g, false, 3⟩, some ⟨.ints .i64 Q, gc, false, 3⟩]
  have h3' : SameLaw P Q := h3
  have hpq : P.length = Q.length := by rw [h3'.1]
  exact small_of (R := R10 P Q g gc n m) eI0_ok hmI (f := 10) (fn := f10) (by kernel_rfl) (by kernel_rfl) orc10_ok rfl (R10_ok (by simp only [allP, Con.h, h1, h2, hpq, bne_self_eq_false, and_true, true_and]; exact h3)) R10_val R10_tab
noncomputable def sm10 : Summary := fun args T => sm10c args T (xsAt T 0) (xsAt T 1) (gAt T 0) (gAt T 1) (lenOf (vAt args 0)) (lenOf (vAt args 1))
theorem sm10_ok : SmOk prog glI 10 sm10 := fun args T h => sm10c_ok h
noncomputable def S10 : Summary := callR sm10 []
theorem S10_ok : SumOk prog glI 10 S10 := callR_ok sm10_ok []
noncomputable def eC9 : Env := eI0 [(16, S16a), (30, S30), (36, S36)]
theorem eC9_ok : EnvOk eC9 := envOf_ok tysI_ok (SumsOk.cons (fn := f16) S16a_ok (by kernel_rfl) (by kernel_rfl) (by kernel_rfl) (SumsOk.cons (fn := f30) S30_ok (by kernel_rfl) (by kernel_rfl) (by kernel_rfl) (SumsOk.cons (fn := f36) S36_ok (by kernel_rfl) (by kernel_rfl) (by kernel_rfl) trivial)))
noncomputable def A9 (b n x : Int) : Out := trim 0 0 [1,2,8] (run eC9 32 ⟨0, []⟩ 400 (roundOf 0 f9) [(1, .int .i64 b), (2, .int .i64 n), (8, .int .i64 x)] [] [some false, none])
theorem A9_ok {b n x : Int} (h : allP [.p (belowLaw x b = false)]) : Ok (A9 b n x) := Ok.dem (fl := [false, false, false, false, false]) (by kernel_rfl) (by kernel_rfl) (by kernel_rfl) h
theorem A9_ex {b n x : Int} : (A9 b n x).ex = .normal := by kernel_rfl
theorem A9_fm {b n x : Int} : (A9 b n x).fm = [(1, .int .i64 b), (2, .int .i64 n), (8, .int .i64 (parLaw x n))] := by kernel_rfl
theorem A9_tab {b n x : Int} : (A9 b n x).tab = [] := by kernel_rfl
noncomputable def X9 (b n x : Int) : Out := trim 0 0 [8] (run eC9 32 ⟨0, []⟩ 400 (roundOf 0 f9) [(1, .int .i64 b), (2, .int .i64 n), (8, .int .i64 x)] [] [some true])
theorem X9_ok {b n x : Int} (h : allP [.p (belowLaw x b = true)]) : Ok (X9 b n x) := Ok.dem (fl := [false, false, false]) (by kernel_rfl) (by kernel_rfl) (by kernel_rfl) h
theorem X9_ex {b n x : Int} : (X9 b n x).ex = .exit 0 := by kernel_rfl
theorem X9_fm {b n x : Int} : (X9 b n x).fm = [(8, .int .i64 x)] := by kernel_rfl
theorem X9_tab {b n x : Int} : (X9 b n x).tab = [] := by kernel_rfl
def chX (x n : Int) : List Int := x :: pathGo n 7 x
def FromLaw (x b n : Int) : Prop := ∃ a, x = 2 * a ∧ thereLaw a n = true ∧ thereLaw b n = true
def atLaw (x b n : Int) : Int := (chX x n).getD (nbLaw (chX x n) b) 0
theorem step_facts : domA.all (fun p => (List.range (pathLaw p.1 p.2).length).all fun i => eqI ((chainLaw p.1 p.2).getD (i + 1) 0) (parLaw ((chainLaw p.1 p.2).getD i 0) p.2)) = true := by decide +kernel
def F9 (b n x : Int) (i : Nat) : Fm := [(1, .int .i64 b), (2, .int .i64 n), (8, .int .i64 ((chX x n).getD i 0))]
theorem loop9 {b n x : Int} (h : FromLaw x b n) : To eC9 32 0 (.block 0 (.loop (roundOf 0 f9))) [(1, .int .i64 b), (2, .int .i64 n), (8, .int .i64 x)] [] .normal [(8, .int .i64 (atLaw x b n))] [] := by
  obtain ⟨a, rfl, ha, hb⟩ := h
  have hn := nb_lt ha hb
  have hh := first_hit (belowN (chainLaw a n) b) (chainLaw a n).length 0 (by rw [Nat.zero_add]; exact hn)
  have e : chX (2 * a) n = chainLaw a n := rfl
  refine To.rounds (F9 b n (2 * a)) (fun _ => []) (nbLaw (chainLaw a n) b) (fun i hi => ?_) ?_
  · have h0 : belowLaw ((chainLaw a n).getD i 0) b = false := first_no (belowN (chainLaw a n) b) (chainLaw a n).length 0 i (Nat.zero_le _) hi
    have h1 := List.all_eq_true.1 (List.all_eq_true.1 step_facts _ (domA_mem ha)) i (List.mem_range.2 (by rw [chain_len] at hn; simp only; omega))
    have h2 := eqI_ok h1
    refine To.of (o := A9 b n ((chainLaw a n).getD i 0)) eC9_ok hmI (Nat.le_refl 0) OrcOk.nil rfl (A9_ok (by simp only [allP, Con.h, h0, and_true])) A9_ex ?_ A9_tab
    rw [A9_fm]
    unfold F9
    rw [e, h2]
  · have h0 : belowLaw ((chainLaw a n).getD (nbLaw (chainLaw a n) b) 0) b = true := hh
    exact To.of (o := X9 b n ((chainLaw a n).getD (nbLaw (chainLaw a n) b) 0)) eC9_ok hmI (Nat.le_refl 0) OrcOk.nil rfl (X9_ok (by simp only [allP, Con.h, h0, and_true])) X9_ex X9_fm X9_tab
noncomputable def g9c (vs : List AVal) (T : Tab) (b : Int) (n : Int) (x : Int) : Out := ⟨[.tab T [], .val (.tuple vs) (.tuple [.int .i64 b, .int .i64 n, .int .i64 x]), .p (FromLaw x b n)], .normal, [(8, .int .i64 (atLaw x b n))], [], []⟩
theorem g9c_ok {vs : List AVal} {T : Tab} {b : Int} {n : Int} {x : Int} (h : Ok (g9c vs T b n x)) : To eC9 32 0 (.block 0 (.loop (roundOf 0 f9))) (zipF [1,2,8] vs) T (g9c vs T b n x).ex (g9c vs T b n x).fm (g9c vs T b n x).tab := by
  obtain ⟨hT, hv, h1, _⟩ := h.h
  simp only [Con.h] at hT hv h1
  injection hv with hv
  subst hT hv
  exact loop9 h1
noncomputable def g9 : List AVal → Tab → Out := fun vs T => g9c vs T (iOf (vAt vs 0)) (iOf (vAt vs 1)) (iOf (vAt vs 2))
theorem g9_ok : BlkOk eC9 f9 0 (.loop (roundOf 0 f9)) (blkS 0 [1,2,8] g9) := blkS_ok fun vs T h => g9c_ok h
noncomputable def orc9 : OrcL := [(0, blkS 0 [1,2,8] g9)]
theorem orc9_ok : FnOrc eC9 f9 orc9 := FnOrc.cons g9_ok (by kernel_rfl) FnOrc.nil
noncomputable def R9a (x b n : Int) : Res := runF eC9 f9 orc9 400 [.int .i64 x, .int .i64 b, .int .i64 n] [] [some false]
theorem R9a_ok {x b n : Int} (h : allP [.p (thereLaw x n = false)]) : OkR (R9a x b n) := OkR.dem (fl := [false, false, false]) (by kernel_rfl) (by kernel_rfl) (by kernel_rfl) h
theorem R9a_val {x b n : Int} : (R9a x b n).val = .tuple [.int .i64 (-1), .bool false] := by kernel_rfl
theorem R9a_tab {x b n : Int} : (R9a x b n).tab = [] := by kernel_rfl
noncomputable def R9b (x b n : Int) : Res := runF eC9 f9 orc9 400 [.int .i64 x, .int .i64 b, .int .i64 n] [] [some true, some false]
theorem R9b_ok {x b n : Int} (h : allP [.p (thereLaw x n = true), .p (thereLaw b n = false)]) : OkR (R9b x b n) := OkR.dem (fl := [false, false, false, false, false, false]) (by kernel_rfl) (by kernel_rfl) (by kernel_rfl) h
theorem R9b_val {x b n : Int} : (R9b x b n).val = .tuple [.int .i64 (-1), .bool false] := by kernel_rfl
theorem R9b_tab {x b n : Int} : (R9b x b n).tab = [] := by kernel_rfl
noncomputable def R9c (x b n : Int) : Res := runF eC9 f9 orc9 400 [.int .i64 x, .int .i64 b, .int .i64 n] [] [some true, some true]
theorem R9c_ok {x b n : Int} (h : allP [.p (thereLaw x n = true), .p (thereLaw b n = true), .rng (-9223372036854775808) (2 * x) 9223372036854775807, .p (FromLaw (2 * x) b n)]) : OkR (R9c x b n) := OkR.dem (fl := [false, false, false, false, false, false, false, false, false, false]) (by kernel_rfl) (by kernel_rfl) (by kernel_rfl) h
theorem R9c_val {x b n : Int} : (R9c x b n).val = .tuple [.int .i64 (atLaw (2 * x) b n), .bool true] := by kernel_rfl
theorem R9c_tab {x b n : Int} : (R9c x b n).tab = [] := by kernel_rfl
noncomputable def sm9c (args : List AVal) (T : Tab) (x : Int) (b : Int) (n : Int) : Res := ⟨[.tab T [], .val (.tuple args) (.tuple [.int .i64 x, .int .i64 b, .int .i64 n])], .tuple [.int .i64 (comLaw x b n), .bool (bothLaw x b n)], []⟩
theorem sm9c_ok {args : List AVal} {T : Tab} {x : Int} {b : Int} {n : Int} (h : allP (sm9c args T x b n).cs) : Small prog glI 9 args T (sm9c args T x b n).val (sm9c args T x b n).tab := by
  obtain ⟨hT, hv, _⟩ := h
  simp only [Con.h] at hT hv
  injection hv with hv
  subst hT hv
  show Small prog glI 9 [.int .i64 x, .int .i64 b, .int .i64 n] [] (.tuple [.int .i64 (comLaw x b n), .bool (bothLaw x b n)]) []
  cases ha : thereLaw x n with
  | false =>
    have h : bothLaw x b n = false := by unfold bothLaw; rw [ha]; rfl
    rw [both_no h, h]
    exact small_of (R := R9a x b n) eC9_ok hmI (f := 9) (fn := f9) (by kernel_rfl) (by kernel_rfl) orc9_ok rfl (R9a_ok (by simp only [allP, Con.h, ha, and_true])) R9a_val R9a_tab
  | true =>
    cases hb : thereLaw b n with
    | false =>
      have h : bothLaw x b n = false := by unfold bothLaw; rw [ha, hb]; rfl
      rw [both_no h, h]
      exact small_of (R := R9b x b n) eC9_ok hmI (f := 9) (fn := f9) (by kernel_rfl) (by kernel_rfl) orc9_ok rfl (R9b_ok (by simp only [allP, Con.h, ha, hb, and_true])) R9b_val R9b_tab
    | true =>
      have h : bothLaw x b n = true := by unfold bothLaw; rw [ha, hb]; rfl
      have h0 := there_hi ha
      have hr := may_rng h0.1
      rw [com_eq ha hb, h]
      exact small_of (R := R9c x b n) eC9_ok hmI (f := 9) (fn := f9) (by kernel_rfl) (by kernel_rfl) orc9_ok rfl (R9c_ok (by simp only [allP, Con.h, ha, hb, and_true, true_and]; exact ⟨by omega, x, rfl, ha, hb⟩)) R9c_val R9c_tab
noncomputable def sm9 : Summary := fun args T => sm9c args T (iOf (vAt args 0)) (iOf (vAt args 1)) (iOf (vAt args 2))
theorem sm9_ok : SmOk prog glI 9 sm9 := fun args T h => sm9c_ok h
noncomputable def S9 : Summary := callR sm9 []
theorem S9_ok : SumOk prog glI 9 S9 := callR_ok sm9_ok []
noncomputable def eW5n : Env := eI0 [(30, S30), (36, S36)]
theorem eW5n_ok : EnvOk eW5n := envOf_ok tysI_ok (SumsOk.cons (fn := f30) S30_ok (by kernel_rfl) (by kernel_rfl) (by kernel_rfl) (SumsOk.cons (fn := f36) S36_ok (by kernel_rfl) (by kernel_rfl) (by kernel_rfl) trivial))
noncomputable def eW6n : Env := eI0 [(30, S30), (31, S31), (36, S36)]
theorem eW6n_ok : EnvOk eW6n := envOf_ok tysI_ok (SumsOk.cons (fn := f30) S30_ok (by kernel_rfl) (by kernel_rfl) (by kernel_rfl) (SumsOk.cons (fn := f31) S31_ok (by kernel_rfl) (by kernel_rfl) (by kernel_rfl) (SumsOk.cons (fn := f36) S36_ok (by kernel_rfl) (by kernel_rfl) (by kernel_rfl) trivial)))
noncomputable def R12n (x n : Int) : Res := runF eW5n f12 [] 400 [.int .i64 x, .int .i64 n] [] [some false]
theorem R12n_ok {x n : Int} (h : allP [.p (thereLaw x n = false)]) : OkR (R12n x n) := OkR.dem (fl := [false, false, false]) (by kernel_rfl) (by kernel_rfl) (by kernel_rfl) h
theorem R12n_val {x n : Int} : (R12n x n).val = .nilSlice := by kernel_rfl
theorem R12n_tab {x n : Int} : (R12n x n).tab = [] := by kernel_rfl
noncomputable def sm12nc (args : List AVal) (T : Tab) (x : Int) (n : Int) : Res := ⟨[.tab T [], .val (.tuple args) (.tuple [.int .i64 x, .int .i64 n]), .tt (!thereLaw x n)], .nilSlice, []⟩
theorem sm12nc_ok {args : List AVal} {T : Tab} {x : Int} {n : Int} (h : allP (sm12nc args T x n).cs) : Small prog glI 12 args T (sm12nc args T x n).val (sm12nc args T x n).tab := by
  obtain ⟨hT, hv, h1, _⟩ := h
  simp only [Con.h] at hT hv h1
  injection hv with hv
  subst hT hv
  show Small prog glI 12 [.int .i64 x, .int .i64 n] [] (.nilSlice) []
  have h0 : thereLaw x n = false := by simpa using h1
  exact small_of (R := R12n x n) eW5n_ok hmI (f := 12) (fn := f12) (by kernel_rfl) (by kernel_rfl) FnOrc.nil rfl (R12n_ok (by simp only [allP, Con.h, h0, and_true])) R12n_val R12n_tab
noncomputable def sm12n : Summary := fun args T => sm12nc args T (iOf (vAt args 0)) (iOf (vAt args 1))
theorem sm12n_ok : SmOk prog glI 12 sm12n := fun args T h => sm12nc_ok h
noncomputable def R14n (x n : Int) : Res := runF eW6n f14 [] 400 [.int .i64 x, .int .i64 n] [] [some false]
theorem R14n_ok {x n : Int} (h : allP [.p (thereLaw x n = false)]) : OkR (R14n x n) := OkR.dem (fl := [false, false, false]) (by kernel_rfl) (by kernel_rfl) (by kernel_rfl) h
theorem R14n_val {x n : Int} : (R14n x n).val = .nilSlice := by kernel_rfl
theorem R14n_tab {x n : Int} : (R14n x n).tab = [] := by kernel_rfl
noncomputable def sm14nc (args : List AVal) (T : Tab) (x : Int) (n : Int) : Res := ⟨[.tab T [], .val (.tuple args) (.tuple [.int .i64 x, .int .i64 n]), .tt (!thereLaw x n)], .nilSlice, []⟩
theorem sm14nc_ok {args : List AVal} {T : Tab} {x : Int} {n : Int} (h : allP (sm14nc args T x n).cs) : Small prog glI 14 args T (sm14nc args T x n).val (sm14nc args T x n).tab := by
  obtain ⟨hT, hv, h1, _⟩ := h
  simp only [Con.h] at hT hv h1
  injection hv with hv
  subst hT hv
  show Small prog glI 14 [.int .i64 x, .int .i64 n] [] (.nilSlice) []
  have h0 : thereLaw x n = false := by simpa using h1
  exact small_of (R := R14n x n) eW6n_ok hmI (f := 14) (fn := f14) (by kernel_rfl) (by kernel_rfl) FnOrc.nil rfl (R14n_ok (by simp only [allP, Con.h, h0, and_true])) R14n_val R14n_tab
noncomputable def sm14n : Summary := fun args T => sm14nc args T (iOf (vAt args 0)) (iOf (vAt args 1))
theorem sm14n_ok : SmOk prog glI 14 sm14n := fun args T h => sm14nc_ok h
noncomputable def S37n0 : Summary := sumI modeO eW1 f37 [] 400 [some false] [true, true]
theorem S37n0_ok : SumOk prog glI 37 S37n0 := sumI_ok eW1_ok hmI (fn := f37) (by kernel_rfl) (by kernel_rfl) [] FnOrc.nil 400 [some false] [true, true]
noncomputable def eN0 : Env := eI0 [(37, S37n0)]
theorem eN0_ok : EnvOk eN0 := envOf_ok tysI_ok (SumsOk.cons (fn := f37) S37n0_ok (by kernel_rfl) (by kernel_rfl) (by kernel_rfl) trivial)
noncomputable def R11n0 (x n : Int) : Res := resG 0 [] (runF eN0 f11 [] 400 [.int .i64 x, .int .i64 n] [] [])
theorem R11n0_ok {x n : Int} (h : allP [.rng (-9223372036854775808) (2 * x) 9223372036854775807, .p (mayLaw n = false)]) : OkR (R11n0 x n) := OkR.dem (fl := [false, false, false, false, true, true]) (by kernel_rfl) (by kernel_rfl) (by kernel_rfl) h
theorem R11n0_val {x n : Int} : (R11n0 x n).val = .nilSlice := by kernel_rfl
theorem R11n0_tab {x n : Int} : (R11n0 x n).tab = [] := by kernel_rfl
noncomputable def R13n0 (x n : Int) : Res := resG 0 [] (runF eN0 f13 [] 400 [.int .i64 x, .int .i64 n] [] [])
theorem R13n0_ok {x n : Int} (h : allP [.rng (-9223372036854775808) (2 * x) 9223372036854775807, .p (mayLaw n = false)]) : OkR (R13n0 x n) := OkR.dem (fl := [false, false, false, false, true, true]) (by kernel_rfl) (by kernel_rfl) (by kernel_rfl) h
theorem R13n0_val {x n : Int} : (R13n0 x n).val = .nilSlice := by kernel_rfl
theorem R13n0_tab {x n : Int} : (R13n0 x n).tab = [] := by kernel_rfl
noncomputable def S37n1 : Summary := sumI modeO eW1 f37 [] 400 [some true, some true] [true, true]
theorem S37n1_ok : SumOk prog glI 37 S37n1 := sumI_ok eW1_ok hmI (fn := f37) (by kernel_rfl) (by kernel_rfl) [] FnOrc.nil 400 [some true, some true] [true, true]
noncomputable def eN1 : Env := eI0 [(37, S37n1)]
theorem eN1_ok : EnvOk eN1 := envOf_ok tysI_ok (SumsOk.cons (fn := f37) S37n1_ok (by kernel_rfl) (by kernel_rfl) (by kernel_rfl) trivial)
noncomputable def R11n1 (x n : Int) : Res := resG 0 [] (runF eN1 f11 [] 400 [.int .i64 x, .int .i64 n] [] [])
theorem R11n1_ok {x n : Int} (h : allP [.rng (-9223372036854775808) (2 * x) 9223372036854775807, .p (mayLaw n = true), .p (decide (x < 0) = true)]) : OkR (R11n1 x n) := OkR.dem (fl := [false, false, false, false, false, true, true]) (by kernel_rfl) (by kernel_rfl) (by kernel_rfl) h
theorem R11n1_val {x n : Int} : (R11n1 x n).val = .nilSlice := by kernel_rfl
theorem R11n1_tab {x n : Int} : (R11n1 x n).tab = [] := by kernel_rfl
noncomputable def R13n1 (x n : Int) : Res := resG 0 [] (runF eN1 f13 [] 400 [.int .i64 x, .int .i64 n] [] [])
theorem R13n1_ok {x n : Int} (h : allP [.rng (-9223372036854775808) (2 * x) 9223372036854775807, .p (mayLaw n = true), .p (decide (x < 0) = true)]) : OkR (R13n1 x n) := OkR.dem (fl := [false, false, false, false, false, true, true]) (by kernel_rfl) (by kernel_rfl) (by kernel_rfl) h
theorem R13n1_val {x n : Int} : (R13n1 x n).val = .nilSlice := by kernel_rfl
theorem R13n1_tab {x n : Int} : (R13n1 x n).tab = [] := by kernel_rfl
noncomputable def S37n2 : Summary := sumI modeO eW1 f37 [] 400 [some true, some false, some true] [true, true]
theorem S37n2_ok : SumOk prog glI 37 S37n2 := sumI_ok eW1_ok hmI (fn := f37) (by kernel_rfl) (by kernel_rfl) [] FnOrc.nil 400 [some true, some false, some true] [true, true]
noncomputable def eN2 : Env := eI0 [(37, S37n2)]
theorem eN2_ok : EnvOk eN2 := envOf_ok tysI_ok (SumsOk.cons (fn := f37) S37n2_ok (by kernel_rfl) (by kernel_rfl) (by kernel_rfl) trivial)
noncomputable def R11n2 (x n : Int) : Res := resG 0 [] (runF eN2 f11 [] 400 [.int .i64 x, .int .i64 n] [] [])
theorem R11n2_ok {x n : Int} (h : allP [.rng (-9223372036854775808) (2 * x) 9223372036854775807, .p (mayLaw n = true), .p (decide (x < 0) = false), .p (decide (n ≤ x) = true)]) : OkR (R11n2 x n) := OkR.dem (fl := [false, false, false, false, false, false, true, true]) (by kernel_rfl) (by kernel_rfl) (by kernel_rfl) h
theorem R11n2_val {x n : Int} : (R11n2 x n).val = .nilSlice := by kernel_rfl
theorem R11n2_tab {x n : Int} : (R11n2 x n).tab = [] := by kernel_rfl
noncomputable def R13n2 (x n : Int) : Res := resG 0 [] (runF eN2 f13 [] 400 [.int .i64 x, .int .i64 n] [] [])
theorem R13n2_ok {x n : Int} (h : allP [.rng (-9223372036854775808) (2 * x) 9223372036854775807, .p (mayLaw n = true), .p (decide (x < 0) = false), .p (decide (n ≤ x) = true)]) : OkR (R13n2 x n) := OkR.dem (fl := [false, false, false, false, false, false, true, true]) (by kernel_rfl) (by kernel_rfl) (by kernel_rfl) h
theorem R13n2_val {x n : Int} : (R13n2 x n).val = .nilSlice := by kernel_rfl
theorem R13n2_tab {x n : Int} : (R13n2 x n).tab = [] := by kernel_rfl
noncomputable def sm11nc (args : List AVal) (T : Tab) (x : Int) (n : Int) : Res := ⟨[.tab T [], .val (.tuple args) (.tuple [.int .i64 x, .int .i64 n]), .tt (!thereLaw x n), .rng (-9223372036854775808) (2 * x) 9223372036854775807], .nilSlice, []⟩
theorem sm11nc_ok {args : List AVal} {T : Tab} {x : Int} {n : Int} (h : allP (sm11nc args T x n).cs) : Small prog glI 11 args T (sm11nc args T x n).val (sm11nc args T x n).tab := by
  obtain ⟨hT, hv, h1, h2, _⟩ := h
  simp only [Con.h] at hT hv h1 h2
  injection hv with hv
  subst hT hv
  show Small prog glI 11 [.int .i64 x, .int .i64 n] [] (.nilSlice) []
  have h0 : thereLaw x n = false := by simpa using h1
  have hd : True := trivial
  cases hm : mayLaw n with
  | false => exact small_ofG (R := R11n0 x n) (keep := []) eN0_ok hmI (f := 11) (fn := f11) (by kernel_rfl) (by kernel_rfl) FnOrc.nil rfl (R11n0_ok (by simp only [allP, Con.h, decide_eq_false_iff_not, decide_eq_true_eq, beq_eq_false_iff_ne, beq_iff_eq, ne_eq, and_true]; first | exact hm | exact ⟨by omega, hm⟩)) R11n0_val R11n0_tab
  | true =>
    by_cases h2 : x < 0
    · exact small_ofG (R := R11n1 x n) (keep := []) eN1_ok hmI (f := 11) (fn := f11) (by kernel_rfl) (by kernel_rfl) FnOrc.nil rfl (R11n1_ok (by simp only [allP, Con.h, decide_eq_false_iff_not, decide_eq_true_eq, beq_eq_false_iff_ne, beq_iff_eq, ne_eq, and_true]; first | exact ⟨hm, h2⟩ | exact ⟨by omega, hm, h2⟩)) R11n1_val R11n1_tab
    · have h3 : n ≤ x := by
        by_cases h : x < n
        · exfalso
          simp only [thereLaw, hm, decide_eq_true (show 0 ≤ x by omega), decide_eq_true h, Bool.true_and] at h0
          cases h0
        · omega
      exact small_ofG (R := R11n2 x n) (keep := []) eN2_ok hmI (f := 11) (fn := f11) (by kernel_rfl) (by kernel_rfl) FnOrc.nil rfl (R11n2_ok (by simp only [allP, Con.h, decide_eq_false_iff_not, decide_eq_true_eq, beq_eq_false_iff_ne, beq_iff_eq, ne_eq, and_true]; first | exact ⟨hm, h2, h3⟩ | exact ⟨by omega, hm, h2, h3⟩)) R11n2_val R11n2_tab
noncomputable def sm11n : Summary := fun args T => sm11nc args T (iOf (vAt args 0)) (iOf (vAt args 1))
theorem sm11n_ok : SmOk prog glI 11 sm11n := fun args T h => sm11nc_ok h
noncomputable def sm13nc (args : List AVal) (T : Tab) (x : Int) (n : Int) : Res := ⟨[.tab T [], .val (.tuple args) (.tuple [.int .i64 x, .int .i64 n]), .tt (!thereLaw x n), .rng (-9223372036854775808) (2 * x) 9223372036854775807], .nilSlice, []⟩
theorem sm13nc_ok {args : List AVal} {T : Tab} {x : Int} {n : Int} (h : allP (sm13nc args T x n).cs) : Small prog glI 13 args T (sm13nc args T x n).val (sm13nc args T x n).tab := by
  obtain ⟨hT, hv, h1, h2, _⟩ := h
  simp only [Con.h] at hT hv h1 h2
  injection hv with hv
  subst hT hv
  show Small prog glI 13 [.int .i64 x, .int .i64 n] [] (.nilSlice) []
  have h0 : thereLaw x n = false := by simpa using h1
  have hd : True := trivial
  cases hm : mayLaw n with
  | false => exact small_ofG (R := R13n0 x n) (keep := []) eN0_ok hmI (f := 13) (fn := f13) (by kernel_rfl) (by kernel_rfl) FnOrc.nil rfl (R13n0_ok (by simp only [allP, Con.h, decide_eq_false_iff_not, decide_eq_true_eq, beq_eq_false_iff_ne, beq_iff_eq, ne_eq, and_true]; first | exact hm | exact ⟨by omega, hm⟩)) R13n0_val R13n0_tab
  | true =>
    by_cases h2 : x < 0
    · exact small_ofG (R := R13n1 x n) (keep := []) eN1_ok hmI (f := 13) (fn := f13) (by kernel_rfl) (by kernel_rfl) FnOrc.nil rfl (R13n1_ok (by simp only [allP, Con.h, decide_eq_false_iff_not, decide_eq_true_eq, beq_eq_false_iff_ne, beq_iff_eq, ne_eq, and_true]; first | exact ⟨hm, h2⟩ | exact ⟨by omega, hm, h2⟩)) R13n1_val R13n1_tab
    · have h3 : n ≤ x := by
        by_cases h : x < n
        · exfalso
          simp only [thereLaw, hm, decide_eq_true (show 0 ≤ x by omega), decide_eq_true h, Bool.true_and] at h0
          cases h0
        · omega
      exact small_ofG (R := R13n2 x n) (keep := []) eN2_ok hmI (f := 13) (fn := f13) (by kernel_rfl) (by kernel_rfl) FnOrc.nil rfl (R13n2_ok (by simp only [allP, Con.h, decide_eq_false_iff_not, decide_eq_true_eq, beq_eq_false_iff_ne, beq_iff_eq, ne_eq, and_true]; first | exact ⟨hm, h2, h3⟩ | exact ⟨by omega, hm, h2, h3⟩)) R13n2_val R13n2_tab
noncomputable def sm13n : Summary := fun args T => sm13nc args T (iOf (vAt args 0)) (iOf (vAt args 1))
theorem sm13n_ok : SmOk prog glI 13 sm13n := fun args T h => sm13nc_ok h
noncomputable def S11n : Summary := callR sm11n []
theorem S11n_ok : SumOk prog glI 11 S11n := callR_ok sm11n_ok []
noncomputable def S12n : Summary := callR sm12n []
theorem S12n_ok : SumOk prog glI 12 S12n := callR_ok sm12n_ok []
noncomputable def S13n : Summary := callR sm13n []
theorem S13n_ok : SumOk prog glI 13 S13n := callR_ok sm13n_ok []
noncomputable def S14n : Summary := callR sm14n []
theorem S14n_ok : SumOk prog glI 14 S14n := callR_ok sm14n_ok []
end Go.Abs

set_option linter.unusedVariables false
set_option linter.unusedSimpArgs false
set_option maxRecDepth 100000
set_option maxHeartbeats 4000000
namespace Go.Abs
open Go.Proofs Go.Proofs.Tryd
/-! ### a product that goes round -/
theorem AWp.wrapRegion {E : Env} {n k : Nat} {fm : Fm} {T : Tab} {post : AExit → Fm → Tab → Prop} (hE : EnvOk E) {id : Nat} {opsA : Array Oper} {l1 l2 : List Oper} {oy : Oper} (hsp : opsA.toList = l1 ++ oy :: l2) {ds1 : List (Option Bool)} {o1 : Out}
    (ho1 : runOps E opsA.toList n l1 fm (T ++ holes (cntA E l1)) T.length ds1 = o1) (hc1 : Ok o1)
    {t ty : TypeId} {x y : Operand} {d : Nat} (hop : oy.op = .binOp .mul t x y ty) (hg : oy.guard = none) (hdst : oy.dst = some d) (hdn : d < n) {a b : Int} (hx : evOf o1.fm x = some (.int .i64 a)) (hy : evOf o1.fm y = some (.int .i64 b))
    (rest : ∃ ds2 o2, runOps E opsA.toList n l2 ((d, .int .i64 (IntKind.wrap .i64 (a * b))) :: o1.fm) (o1.tab ++ holes (cntA E l2)) o1.tab.length ds2 = o2 ∧ Ok o2 ∧ post .normal o2.fm o2.tab) :
    AWp E n k (.region id opsA false) fm T post := by
  intro rr D ν a0 w hs hrd
  refine wpIn_region_list ?_
  rw [hsp]
  refine wpListIn_app l1 a0 w ?_
  obtain ⟨g1, g2, g3⟩ := Holes_holes hs.hr (cntA E l1)
  rw [← show opsA.toList.toArray = opsA by simp]
  refine runOps_sound hE l1 ⟨g1, hs.fm, hs.size, hs.defers⟩ g3 (by rw [ho1]; exact hc1.h) fun ν1 a1 w1 s1 n1 f1 => ?_
  rw [ho1] at s1 f1
  have f1' : Fr (Own ν T) w (Own ν1 o1.tab) w1 := ⟨f1.os, f1.tape, f1.output, f1.size, fun b hb ho => f1.block b hb (fun h => ho (g2 b h)), fun b hb => (f1.own b hb).imp (g2 b) (fun h => h)⟩
  show wpListIn _ _ _ _ _ (oy :: l2) a1 w1
  unfold wpListIn
  rw [if_pos (by simp [Region.wanted, hg])]
  refine ⟨fun _ _ => trivial, ?_⟩
  have hsem : oy.semAt (Fc rr).round a1.eval = execOp a1.eval oy := by
    cases rr with
    | none => exact Oper.semAt_none _ _
    | some l => exact Oper.semAt_some l _ _ (fun c h => by rw [hop] at h; cases h)
  have hxe := (evOf_rel s1 x _ hx).int_inv
  have hye := (evOf_rel s1 y _ hy).int_inv
  have hrun : (oy.semAt (Fc rr).round a1.eval).run E.P w1 = .ok (.value (.int .i64 (IntKind.wrap .i64 (a * b)))) w1 := by
    rw [hsem]
    have h5 : (binOp .mul t (.int .i64 a) (.int .i64 b)).run E.P w1 = .ok (.int .i64 (IntKind.wrap .i64 (a * b))) w1 := by rw [binOp_mul]; rfl
    have h4 : (eqGuard .mul t x y (.int .i64 a) (.int .i64 b)).run E.P w1 = .ok () w1 := by rw [eqGuard_at_int]; rfl
    simp only [execOp, hop, hxe, hye, Sem.run_bind, h4, h5, Result.andThen_ok, Sem.run_pure]
  rw [hrun]
  show wpListIn (Fc rr) 0 E.P opsA.toList.toArray (Post E n k post D ν T w) l2 _ _
  obtain ⟨ds2, o2, ho2, hc2, hpost⟩ := rest
  have s2 : SRel E D ν1 ((d, .int .i64 (IntKind.wrap .i64 (a * b))) :: o1.fm) o1.tab n (a1.put oy.dst (.int .i64 (IntKind.wrap .i64 (a * b)))) w1 := by
    have := s1.put (d := oy.dst) (NuLe.refl ν1) s1.hr (by rw [hdst]; simpa [dstOk] using hdn) (VR.int .i64 (IntKind.wrap .i64 (a * b)))
    rw [hdst] at this ⊢
    exact this
  obtain ⟨y1, y2, y3⟩ := Holes_holes s2.hr (cntA E l2)
  refine runOps_sound hE l2 ⟨y1, s2.fm, s2.size, s2.defers⟩ y3 (by rw [ho2]; exact hc2.h) fun ν6 a6 w6 s6 n6 f6 => ?_
  rw [ho2] at s6 f6
  refine ⟨.normal, o2.fm, o2.tab, ν6, rfl, hpost, s6.m, (n1.b k).trans (n6.b k), f1'.trans ⟨f6.os, f6.tape, f6.output, f6.size, fun b hb ho => f6.block b hb (fun h => ho (y2 b h)), fun b hb => (f6.own b hb).imp (y2 b) (fun h => h)⟩⟩
def scC : Code → Code | .scope c => c | c => c
def fsC : Code → Code | .seq a _ => a | c => c
def snC : Code → Code | .seq _ b => b | c => c
def opC : Code → Array Oper | .region _ o _ => o | _ => #[]
noncomputable def c37 : Code := scC (bodyOf f37)
noncomputable def r37 : Code := snC c37
noncomputable def ops37 : Array Oper := opC (fsC c37)
noncomputable def oy37 : Oper := match ops37.toList with | [_, o, _] => o | _ => default
noncomputable def Z37_0 (x n w : Int) (g : Nat) : Out := trim 1 1 [] (run eW1 35 ⟨1, []⟩ 400 r37 [(0, .int .i64 x), (1, .int .i64 n), (6, .int .i64 w)] [some ⟨.agg [.nilSlice], g, true, 25⟩] [some false])
theorem Z37_0_ok {x n w : Int} {g : Nat} (h : allP [.p (mayLaw n = false)]) : Ok (Z37_0 x n w g) := Ok.dem (fl := [false, false, false]) (by kernel_rfl) (by kernel_rfl) (by kernel_rfl) h
theorem Z37_0_ex {x n w : Int} {g : Nat} : (Z37_0 x n w g).ex = .ret := by kernel_rfl
theorem Z37_0_fm {x n w : Int} {g : Nat} : (Z37_0 x n w g).fm = [] := by kernel_rfl
theorem Z37_0_tab {x n w : Int} {g : Nat} : (Z37_0 x n w g).tab = [some ⟨.agg [.nilSlice], g, true, 25⟩] := by kernel_rfl
noncomputable def Z37_1 (x n w : Int) (g : Nat) : Out := trim 1 1 [] (run eW1 35 ⟨1, []⟩ 400 r37 [(0, .int .i64 x), (1, .int .i64 n), (6, .int .i64 w)] [some ⟨.agg [.nilSlice], g, true, 25⟩] [some true, some true])
theorem Z37_1_ok {x n w : Int} {g : Nat} (h : allP [.p (mayLaw n = true), .p (decide (x < 0) = true)]) : Ok (Z37_1 x n w g) := Ok.dem (fl := [false, false, false, false]) (by kernel_rfl) (by kernel_rfl) (by kernel_rfl) h
theorem Z37_1_ex {x n w : Int} {g : Nat} : (Z37_1 x n w g).ex = .ret := by kernel_rfl
theorem Z37_1_fm {x n w : Int} {g : Nat} : (Z37_1 x n w g).fm = [] := by kernel_rfl
theorem Z37_1_tab {x n w : Int} {g : Nat} : (Z37_1 x n w g).tab = [some ⟨.agg [.nilSlice], g, true, 25⟩] := by kernel_rfl
noncomputable def Z37_2 (x n w : Int) (g : Nat) : Out := trim 1 1 [] (run eW1 35 ⟨1, []⟩ 400 r37 [(0, .int .i64 x), (1, .int .i64 n), (6, .int .i64 w)] [some ⟨.agg [.nilSlice], g, true, 25⟩] [some true, some false, some true])
theorem Z37_2_ok {x n w : Int} {g : Nat} (h : allP [.p (mayLaw n = true), .p (decide (x < 0) = false), .p (decide (n ≤ x) = true)]) : Ok (Z37_2 x n w g) := Ok.dem (fl := [false, false, false, false, false]) (by kernel_rfl) (by kernel_rfl) (by kernel_rfl) h
theorem Z37_2_ex {x n w : Int} {g : Nat} : (Z37_2 x n w g).ex = .ret := by kernel_rfl
theorem Z37_2_fm {x n w : Int} {g : Nat} : (Z37_2 x n w g).fm = [] := by kernel_rfl
theorem Z37_2_tab {x n w : Int} {g : Nat} : (Z37_2 x n w g).tab = [some ⟨.agg [.nilSlice], g, true, 25⟩] := by kernel_rfl
theorem rest37 {x n w : Int} {g : Nat} (h0 : thereLaw x n = false) : To eW1 35 1 r37 [(0, .int .i64 x), (1, .int .i64 n), (6, .int .i64 w)] [some ⟨.agg [.nilSlice], g, true, 25⟩] .ret [] [some ⟨.agg [.nilSlice], g, true, 25⟩] := by
  cases hm : mayLaw n with
  | false => exact To.of (o := Z37_0 x n w g) eW1_ok hmI (Nat.le_refl 1) OrcOk.nil rfl (Z37_0_ok (by simp only [allP, Con.h, decide_eq_false_iff_not, decide_eq_true_eq, beq_eq_false_iff_ne, beq_iff_eq, ne_eq, and_true]; exact hm)) Z37_0_ex Z37_0_fm Z37_0_tab
  | true =>
    by_cases h2 : x < 0
    · exact To.of (o := Z37_1 x n w g) eW1_ok hmI (Nat.le_refl 1) OrcOk.nil rfl (Z37_1_ok (by simp only [allP, Con.h, decide_eq_false_iff_not, decide_eq_true_eq, beq_eq_false_iff_ne, beq_iff_eq, ne_eq, and_true]; exact ⟨hm, h2⟩)) Z37_1_ex Z37_1_fm Z37_1_tab
    · have h3 : n ≤ x := by
        by_cases h : x < n
        · exfalso
          simp only [thereLaw, hm, decide_eq_true (show 0 ≤ x by omega), decide_eq_true h, Bool.true_and] at h0
          cases h0
        · omega
      exact To.of (o := Z37_2 x n w g) eW1_ok hmI (Nat.le_refl 1) OrcOk.nil rfl (Z37_2_ok (by simp only [allP, Con.h, decide_eq_false_iff_not, decide_eq_true_eq, beq_eq_false_iff_ne, beq_iff_eq, ne_eq, and_true]; exact ⟨hm, h2, h3⟩)) Z37_2_ex Z37_2_fm Z37_2_tab
noncomputable def l37a : List Oper := ops37.toList.take 1
noncomputable def l37b : List Oper := ops37.toList.drop 2
theorem p37w {x n : Int} {g q : Nat} (h0 : thereLaw x n = false) : Small prog glI 37 [.int .i64 x, .int .i64 n, .func (.func q) [] [.var 0 g]] [some ⟨.agg [.nilSlice], g, true, 25⟩] (.tuple []) [some ⟨.agg [.nilSlice], g, true, 25⟩] := by
  refine small_of_awp (E := eW1) (f := 37) eW1_ok (fn := f37) (c := .scope c37) (by kernel_rfl) (by kernel_rfl) (by kernel_rfl) ?_
  show AWp eW1 35 1 (.scope c37) [(0, .int .i64 x), (1, .int .i64 n), (2, .func (.func q) [] [.var 0 g])] [some ⟨.agg [.nilSlice], g, true, 25⟩] (fun ex fm T => (ex = .normal ∨ ex = .ret) ∧ T = [some ⟨.agg [.nilSlice], g, true, 25⟩] ∧ ∃ cs us, aRes eW1 fm T f37.results.toList = some (cs, us) ∧ allP cs ∧ retV us = .tuple [])
  refine SWp.wp (SWp.step ?_)
  rw [show c37 = .seq (.region 0 ops37 false) r37 by kernel_rfl]
  refine AWp.seq (AWp.wrapRegion eW1_ok (l1 := l37a) (oy := oy37) (l2 := l37b) (t := 3) (ty := 3) (x := .const (.int .i64 2)) (y := .tmp 9) (d := 10) (a := 2) (b := x) (ds1 := []) (by kernel_rfl) rfl ⟨?_⟩ (by kernel_rfl) (by kernel_rfl) (by kernel_rfl) (by decide) (by kernel_rfl) (by kernel_rfl) ⟨[], _, rfl, ⟨?_⟩, ?_⟩)
  · exact trivial
  · exact trivial
  · refine AWp.enter (m := 1) (slots := [0,1,6]) (f := [(0, .int .i64 x), (1, .int .i64 n), (6, .int .i64 (IntKind.wrap .i64 (2 * x)))]) (by kernel_rfl) (by kernel_rfl) ?_
    refine AWp.mono (rest37 h0) ?_
    rintro ex fm T ⟨rfl, rfl, rfl⟩
    exact ⟨.inr rfl, rfl, _, _, rfl, trivial, rfl⟩
end Go.Abs

set_option linter.unusedVariables false
set_option linter.unusedSimpArgs false
set_option maxRecDepth 100000
set_option maxHeartbeats 4000000
namespace Go.Abs
open Go.Proofs Go.Proofs.Tryd
/-! ### IndexWays -/
noncomputable def sm37w38c (args : List AVal) (T : Tab) (x : Int) (n : Int) (g : Nat) : Res := ⟨[.tab T [some ⟨.agg [.nilSlice], g, true, 25⟩], .val (.tuple args) (.tuple [.int .i64 x, .int .i64 n, .func (.func 38) [] [.var 0 g]]), .tt (!thereLaw x n)], .tuple [], [some ⟨.agg [.nilSlice], g, true, 25⟩]⟩
theorem sm37w38c_ok {args : List AVal} {T : Tab} {x : Int} {n : Int} {g : Nat} (h : allP (sm37w38c args T x n g).cs) : Small prog glI 37 args T (sm37w38c args T x n g).val (sm37w38c args T x n g).tab := by
  obtain ⟨hT, hv, h1, _⟩ := h
  simp only [Con.h] at hT hv h1
  injection hv with hv
  subst hT hv
  exact p37w (by simpa using h1)
noncomputable def sm37w38 : Summary := fun args T => sm37w38c args T (iOf (vAt args 0)) (iOf (vAt args 1)) (gAt T 0)
theorem sm37w38_ok : SmOk prog glI 37 sm37w38 := fun args T h => sm37w38c_ok h
noncomputable def S37w38 : Summary := callR sm37w38 [true]
theorem S37w38_ok : SumOk prog glI 37 S37w38 := callR_ok sm37w38_ok [true]
noncomputable def eW8_38 : Env := eI0 [(37, S37w38)]
theorem eW8_38_ok : EnvOk eW8_38 := envOf_ok tysI_ok (SumsOk.cons (fn := f37) S37w38_ok (by kernel_rfl) (by kernel_rfl) (by kernel_rfl) trivial)
noncomputable def R11w (x n : Int) : Res := resG 0 [] (runF eW8_38 f11 [] 400 [.int .i64 x, .int .i64 n] [] [])
theorem R11w_ok {x n : Int} (h : allP [.tt !thereLaw x n]) : OkR (R11w x n) := OkR.dem (fl := [false, false, false, true, true]) (by kernel_rfl) (by kernel_rfl) (by kernel_rfl) h
theorem R11w_val {x n : Int} : (R11w x n).val = .nilSlice := by kernel_rfl
theorem R11w_tab {x n : Int} : (R11w x n).tab = [] := by kernel_rfl
noncomputable def sm11wc (args : List AVal) (T : Tab) (x : Int) (n : Int) : Res := ⟨[.tab T [], .val (.tuple args) (.tuple [.int .i64 x, .int .i64 n]), .tt (!thereLaw x n)], .nilSlice, []⟩
theorem sm11wc_ok {args : List AVal} {T : Tab} {x : Int} {n : Int} (h : allP (sm11wc args T x n).cs) : Small prog glI 11 args T (sm11wc args T x n).val (sm11wc args T x n).tab := by
  obtain ⟨hT, hv, h1, _⟩ := h
  simp only [Con.h] at hT hv h1
  injection hv with hv
  subst hT hv
  show Small prog glI 11 [.int .i64 x, .int .i64 n] [] (.nilSlice) []
  exact small_ofG (R := R11w x n) (keep := []) eW8_38_ok hmI (f := 11) (fn := f11) (by kernel_rfl) (by kernel_rfl) FnOrc.nil rfl (R11w_ok (by simp only [allP, Con.h, and_true]; exact h1)) R11w_val R11w_tab
noncomputable def sm11w : Summary := fun args T => sm11wc args T (iOf (vAt args 0)) (iOf (vAt args 1))
theorem sm11w_ok : SmOk prog glI 11 sm11w := fun args T h => sm11wc_ok h
noncomputable def S11w : Summary := callR sm11w []
theorem S11w_ok : SumOk prog glI 11 S11w := callR_ok sm11w_ok []
noncomputable def sm37w39c (args : List AVal) (T : Tab) (x : Int) (n : Int) (g : Nat) : Res := ⟨[.tab T [some ⟨.agg [.nilSlice], g, true, 25⟩], .val (.tuple args) (.tuple [.int .i64 x, .int .i64 n, .func (.func 39) [] [.var 0 g]]), .tt (!thereLaw x n)], .tuple [], [some ⟨.agg [.nilSlice], g, true, 25⟩]⟩
theorem sm37w39c_ok {args : List AVal} {T : Tab} {x : Int} {n : Int} {g : Nat} (h : allP (sm37w39c args T x n g).cs) : Small prog glI 37 args T (sm37w39c args T x n g).val (sm37w39c args T x n g).tab := by
  obtain ⟨hT, hv, h1, _⟩ := h
  simp only [Con.h] at hT hv h1
  injection hv with hv
  subst hT hv
  exact p37w (by simpa using h1)
noncomputable def sm37w39 : Summary := fun args T => sm37w39c args T (iOf (vAt args 0)) (iOf (vAt args 1)) (gAt T 0)
theorem sm37w39_ok : SmOk prog glI 37 sm37w39 := fun args T h => sm37w39c_ok h
noncomputable def S37w39 : Summary := callR sm37w39 [true]
theorem S37w39_ok : SumOk prog glI 37 S37w39 := callR_ok sm37w39_ok [true]
noncomputable def eW8_39 : Env := eI0 [(37, S37w39)]
theorem eW8_39_ok : EnvOk eW8_39 := envOf_ok tysI_ok (SumsOk.cons (fn := f37) S37w39_ok (by kernel_rfl) (by kernel_rfl) (by kernel_rfl) trivial)
noncomputable def R13w (x n : Int) : Res := resG 0 [] (runF eW8_39 f13 [] 400 [.int .i64 x, .int .i64 n] [] [])
theorem R13w_ok {x n : Int} (h : allP [.tt !thereLaw x n]) : OkR (R13w x n) := OkR.dem (fl := [false, false, false, true, true]) (by kernel_rfl) (by kernel_rfl) (by kernel_rfl) h
theorem R13w_val {x n : Int} : (R13w x n).val = .nilSlice := by kernel_rfl
theorem R13w_tab {x n : Int} : (R13w x n).tab = [] := by kernel_rfl
noncomputable def sm13wc (args : List AVal) (T : Tab) (x : Int) (n : Int) : Res := ⟨[.tab T [], .val (.tuple args) (.tuple [.int .i64 x, .int .i64 n]), .tt (!thereLaw x n)], .nilSlice, []⟩
theorem sm13wc_ok {args : List AVal} {T : Tab} {x : Int} {n : Int} (h : allP (sm13wc args T x n).cs) : Small prog glI 13 args T (sm13wc args T x n).val (sm13wc args T x n).tab := by
  obtain ⟨hT, hv, h1, _⟩ := h
  simp only [Con.h] at hT hv h1
  injection hv with hv
  subst hT hv
  show Small prog glI 13 [.int .i64 x, .int .i64 n] [] (.nilSlice) []
  exact small_ofG (R := R13w x n) (keep := []) eW8_39_ok hmI (f := 13) (fn := f13) (by kernel_rfl) (by kernel_rfl) FnOrc.nil rfl (R13w_ok (by simp only [allP, Con.h, and_true]; exact h1)) R13w_val R13w_tab
noncomputable def sm13w : Summary := fun args T => sm13wc args T (iOf (vAt args 0)) (iOf (vAt args 1))
theorem sm13w_ok : SmOk prog glI 13 sm13w := fun args T h => sm13wc_ok h
noncomputable def S13w : Summary := callR sm13w []
theorem S13w_ok : SumOk prog glI 13 S13w := callR_ok sm13w_ok []
noncomputable def eL3v : Env := eI0 [(8, S8), (9, S9), (10, S10), (11, S11), (12, S12), (13, S13), (14, S14), (15, S15), (16, S16a), (17, S17)]
theorem eL3v_ok : EnvOk eL3v := envOf_ok tysI_ok (SumsOk.cons (fn := f8) S8_ok (by kernel_rfl) (by kernel_rfl) (by kernel_rfl) (SumsOk.cons (fn := f9) S9_ok (by kernel_rfl) (by kernel_rfl) (by kernel_rfl) (SumsOk.cons (fn := f10) S10_ok (by kernel_rfl) (by kernel_rfl) (by kernel_rfl) (SumsOk.cons (fn := f11) S11_ok (by kernel_rfl) (by kernel_rfl) (by kernel_rfl) (SumsOk.cons (fn := f12) S12_ok (by kernel_rfl) (by kernel_rfl) (by kernel_rfl) (SumsOk.cons (fn := f13) S13_ok (by kernel_rfl) (by kernel_rfl) (by kernel_rfl) (SumsOk.cons (fn := f14) S14_ok (by kernel_rfl) (by kernel_rfl) (by kernel_rfl) (SumsOk.cons (fn := f15) S15_ok (by kernel_rfl) (by kernel_rfl) (by kernel_rfl) (SumsOk.cons (fn := f16) S16a_ok (by kernel_rfl) (by kernel_rfl) (by kernel_rfl) (SumsOk.cons (fn := f17) S17_ok (by kernel_rfl) (by kernel_rfl) (by kernel_rfl) trivial))))))))))
noncomputable def eL3n : Env := eI0 [(8, S8), (9, S9), (10, S10i), (11, S11w), (12, S12n), (13, S13w), (14, S14n), (15, S15), (16, S16a), (17, S17)]
theorem eL3n_ok : EnvOk eL3n := envOf_ok tysI_ok (SumsOk.cons (fn := f8) S8_ok (by kernel_rfl) (by kernel_rfl) (by kernel_rfl) (SumsOk.cons (fn := f9) S9_ok (by kernel_rfl) (by kernel_rfl) (by kernel_rfl) (SumsOk.cons (fn := f10) S10i_ok (by kernel_rfl) (by kernel_rfl) (by kernel_rfl) (SumsOk.cons (fn := f11) S11w_ok (by kernel_rfl) (by kernel_rfl) (by kernel_rfl) (SumsOk.cons (fn := f12) S12n_ok (by kernel_rfl) (by kernel_rfl) (by kernel_rfl) (SumsOk.cons (fn := f13) S13w_ok (by kernel_rfl) (by kernel_rfl) (by kernel_rfl) (SumsOk.cons (fn := f14) S14n_ok (by kernel_rfl) (by kernel_rfl) (by kernel_rfl) (SumsOk.cons (fn := f15) S15_ok (by kernel_rfl) (by kernel_rfl) (by kernel_rfl) (SumsOk.cons (fn := f16) S16a_ok (by kernel_rfl) (by kernel_rfl) (by kernel_rfl) (SumsOk.cons (fn := f17) S17_ok (by kernel_rfl) (by kernel_rfl) (by kernel_rfl) trivial))))))))))
noncomputable def R3v (a b x n : Int) : Res := resG 0 [] (runF eL3v f3 [] 400 [.int .i64 a, .int .i64 b, .int .i64 x, .int .i64 n] [] [none, none, none, none, some true, some true, none, none, some true, none])
theorem R3v_ok {a b x n : Int} (h : allP [.tt (thereLaw a n), .tt (thereLaw a n), .eqN ((pathLaw a n).length - 1) ((pathLaw a n).length - 1), .eqN ((pathLaw a n).length - 1) ((pathLaw a n).length - 1), .eqN (pathLaw a n).length (pathLaw a n).length, .eqN (pathLaw a n).length (pathLaw a n).length, .p (SameLaw (pathLaw a n) (pathLaw a n)), .tt (thereLaw a n), .tt (thereLaw a n), .eqN ((copLaw a
 n).length - 1) ((copLaw a n).length - 1), .eqN ((copLaw a n).length - 1) ((copLaw a n).length - 1), .eqN (copLaw a n).length (copLaw a n).length, .eqN (copLaw a n).length (copLaw a n).length, .p (SameLaw (copLaw a n) (copLaw a n)), .p ((comLaw a b n == comLaw a b n) = true), .p ((bothLaw a b n == bothLaw a b n) = true), .p ((belowLaw x a == belowLaw x a) = true)]) : OkR (R3v a b x n) := OkR.dem (fl
 := bitsF 39 0) (by kernel_rfl) (by kernel_rfl) (by kernel_rfl) h
theorem R3v_val {a b x n : Int} : (R3v a b x n).val = .bool true := by kernel_rfl
theorem R3v_tab {a b x n : Int} : (R3v a b x n).tab = [] := by kernel_rfl
noncomputable def R3n (a b x n : Int) : Res := resG 0 [] (runF eL3n f3 [] 400 [.int .i64 a, .int .i64 b, .int .i64 x, .int .i64 n] [] [none, none, none, none, some true, some true, none, none, some true, none])
theorem R3n_ok {a b x n : Int} (h : allP [.tt !thereLaw a n, .tt !thereLaw a n, .tt !thereLaw a n, .tt !thereLaw a n, .p ((comLaw a b n == comLaw a b n) = true), .p ((bothLaw a b n == bothLaw a b n) = true), .p ((belowLaw x a == belowLaw x a) = true)]) : OkR (R3n a b x n) := OkR.dem (fl := bitsF 25 0) (by kernel_rfl) (by kernel_rfl) (by kernel_rfl) h
theorem R3n_val {a b x n : Int} : (R3n a b x n).val = .bool true := by kernel_rfl
theorem R3n_tab {a b x n : Int} : (R3n a b x n).tab = [] := by kernel_rfl
end Go.Abs

set_option linter.unusedVariables false
set_option linter.unusedSimpArgs false
set_option maxRecDepth 100000
set_option maxHeartbeats 4000000
namespace Go.Abs
open Go.Proofs Go.Proofs.Tryd
theorem law3 {a b x n : Int} : Small prog glI 3 [.int .i64 a, .int .i64 b, .int .i64 x, .int .i64 n] [] (.bool true) [] := by
  cases h : thereLaw a n with
  | true =>
    have w := way h
    have hl := w.len
    rw [chain_len] at hl
    have s1 : SameLaw (pathLaw a n) (pathLaw a n) := ⟨rfl, by omega⟩
    have s2 : SameLaw (copLaw a n) (copLaw a n) := ⟨rfl, by rw [w.same]; omega⟩
    refine small_ofG (R := R3v a b x n) (keep := []) eL3v_ok hmI (f := 3) (fn := f3) (by kernel_rfl) (by kernel_rfl) FnOrc.nil rfl (R3v_ok ?_) R3v_val R3v_tab
    simp only [allP, Con.h, h, s1, s2, beq_self_eq_true, and_true, true_and]
  | false =>
    refine small_ofG (R := R3n a b x n) (keep := []) eL3n_ok hmI (f := 3) (fn := f3) (by kernel_rfl) (by kernel_rfl) FnOrc.nil rfl (R3n_ok ?_) R3n_val R3n_tab
    simp only [allP, Con.h, h, Bool.not_false, beq_self_eq_true, and_true, true_and]
end Go.Abs
