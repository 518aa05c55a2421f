/- What functions of the given program come to, by the abstract machine: texts of a proof. -/
import Derived.Test.YtmfacmccilipfaaP0
import Derived.Test.YtmfacmccilipfaaAbs2
set_option linter.unusedVariables false
set_option linter.unusedSimpArgs false
set_option maxRecDepth 100000
set_option maxHeartbeats 4000000
namespace Go.Abs
open Go.Proofs Go.Proofs.Try
/-! ### vectors of one, and of three -/
noncomputable def eM2 : Env := eN0 [(89, S18c)]
theorem eM2_ok : EnvOk eM2 := envOf_ok tysN_ok (SumsOk.cons (fn := f89) S18c_ok (by kernel_rfl) (by kernel_rfl) (by kernel_rfl) trivial)
noncomputable def nR71a (a : List Int) (g1 n1 gO : Nat) (c1 : Option Nat) (ow ow1 : Bool) : Res := resG 2 [0, 1, 3] (runF eM2 f71 [] 400 [.slice 1 0 gO 0 1 (some 1)] [some ⟨.agg [.slice 1 1 g1 0 n1 c1], gO, ow, 22⟩, some ⟨.ints .u8 a, g1, ow1, 5⟩] [none, some false, none])
theorem nR71a_ok {a : List Int} {g1 n1 gO : Nat} {c1 : Option Nat} {ow ow1 : Bool} (h : allP [.eqN gO gO, .eqN gO gO, .eqN gO gO, .eqN g1 g1, .p (decide (65536 < (↑n1 : Int)) = false), .eqN g1 g1, .leN (lenLaw (↑n1 : Int)).length 140737488355328, .leN (0 + (lenLaw (↑n1 : Int)).length) (lenLaw (↑n1 : Int)).length, .leN (0 + (lenLaw (↑n1 : Int)).length) ([] ++ List.take (lenLaw (↑n1 : Int)).length
 (lenLaw (↑n1 : Int))).length, .leN (addO (lenLaw (↑n1 : Int)).length n1) 140737488355328, .eqN g1 g1, .leN (0 + n1) a.length]) : OkR (nR71a a g1 n1 gO c1 ow ow1) := OkR.dem (fl := bitsF 20 799788) (by kernel_rfl) (by kernel_rfl) (by kernel_rfl) h
theorem nR71a_val {a : List Int} {g1 n1 gO : Nat} {c1 : Option Nat} {ow ow1 : Bool} : (nR71a a g1 n1 gO c1 ow ow1).val = .tuple [.slice 1 2 1 0 (addO (lenLaw (↑n1 : Int)).length n1) none, .int .i64 0] := by kernel_rfl
theorem nR71a_tab {a : List Int} {g1 n1 gO : Nat} {c1 : Option Nat} {ow ow1 : Bool} : (nR71a a g1 n1 gO c1 ow ow1).tab = [some ⟨.agg [.slice 1 1 g1 0 n1 c1], gO, ow, 22⟩, some ⟨.ints .u8 a, g1, ow1, 5⟩, some ⟨.ints .u8 (List.take (lenLaw (↑n1 : Int)).length ([] ++ List.take (lenLaw (↑n1 : Int)).length (lenLaw (↑n1 : Int))) ++ List.take n1 a), 1, true, 5⟩] := by kernel_rfl
noncomputable def nR71c (a b c : List Int) (g1 g2 g3 n1 n2 n3 gO : Nat) (ow ow1 ow2 ow3 : Bool) : Res := resG 4 [0, 1, 2, 3, 5] (runF eM2 f71 [] 400 [.slice 1 0 gO 0 3 (some 3)] [some ⟨.agg [.slice 1 1 g1 0 n1 none, .slice 1 2 g2 0 n2 none, .slice 1 3 g3 0 n3 none], gO, ow, 22⟩, some ⟨.ints .u8 a, g1, ow1, 5⟩, some ⟨.ints .u8 b, g2, ow2, 5⟩, some ⟨.ints .u8 c, g3, ow3, 5⟩] [none, some false, none, some false, none, some false, none])
theorem nR71c_ok {a b c : List Int} {g1 g2 g3 n1 n2 n3 gO : Nat} {ow ow1 ow2 ow3 : Bool} (h : allP [.eqN gO gO, .eqN gO gO, .eqN gO gO, .eqN g1 g1, .p (decide (65536 < (↑n1 : Int)) = false), .eqN g1 g1, .leN (lenLaw (↑n1 : Int)).length 140737488355328, .leN (0 + (lenLaw (↑n1 : Int)).length) (lenLaw (↑n1 : Int)).length, .leN (0 + (lenLaw (↑n1 : Int)).length) ([] ++ List.take (lenLaw (↑n1 :
 Int)).length (lenLaw (↑n1 : Int))).length, .leN (addO (lenLaw (↑n1 : Int)).length n1) 140737488355328, .eqN g1 g1, .leN (0 + n1) a.length, .eqN gO gO, .eqN gO gO, .eqN g2 g2, .p (decide (65536 < (↑n2 : Int)) = false), .eqN g2 g2, .leN (0 + addO (lenLaw (↑n1 : Int)).length n1) (List.take (lenLaw (↑n1 : Int)).length ([] ++ List.take (lenLaw (↑n1 : Int)).length (lenLaw (↑n1 : Int))) ++ List.take n1
 a).length, .leN (addO (addO (lenLaw (↑n1 : Int)).length n1) (lenLaw (↑n2 : Int)).length) 140737488355328, .leN (0 + (lenLaw (↑n2 : Int)).length) (lenLaw (↑n2 : Int)).length, .leN (0 + addO (addO (lenLaw (↑n1 : Int)).length n1) (lenLaw (↑n2 : Int)).length) (List.take (addO (lenLaw (↑n1 : Int)).length n1) (List.take (lenLaw (↑n1 : Int)).length ([] ++ List.take (lenLaw (↑n1 : Int)).length (lenLaw (↑n1
 : Int))) ++ List.take n1 a) ++ List.take (lenLaw (↑n2 : Int)).length (lenLaw (↑n2 : Int))).length, .leN (addO (addO (addO (lenLaw (↑n1 : Int)).length n1) (lenLaw (↑n2 : Int)).length) n2) 140737488355328, .eqN g2 g2, .leN (0 + n2) b.length, .eqN gO gO, .eqN gO gO, .eqN g3 g3, .p (decide (65536 < (↑n3 : Int)) = false), .eqN g3 g3, .leN (0 + addO (addO (addO (lenLaw (↑n1 : Int)).length n1) (lenLaw
 (↑n2 : Int)).length) n2) (List.take (addO (addO (lenLaw (↑n1 : Int)).length n1) (lenLaw (↑n2 : Int)).length) (List.take (addO (lenLaw (↑n1 : Int)).length n1) (List.take (lenLaw (↑n1 : Int)).length ([] ++ List.take (lenLaw (↑n1 : Int)).length (lenLaw (↑n1 : Int))) ++ List.take n1 a) ++ List.take (lenLaw (↑n2 : Int)).length (lenLaw (↑n2 : Int))) ++ List.take n2 b).length, .leN (addO (addO (addO (addO
 (lenLaw (↑n1 : Int)).length n1) (lenLaw (↑n2 : Int)).length) n2) (lenLaw (↑n3 : Int)).length) 140737488355328, .leN (0 + (lenLaw (↑n3 : Int)).length) (lenLaw (↑n3 : Int)).length, .leN (0 + addO (addO (addO (addO (lenLaw (↑n1 : Int)).length n1) (lenLaw (↑n2 : Int)).length) n2) (lenLaw (↑n3 : Int)).length) (List.take (addO (addO (addO (lenLaw (↑n1 : Int)).length n1) (lenLaw (↑n2 : Int)).length) n2)
 (List.take (addO (addO (lenLaw (↑n1 : Int)).length n1) (lenLaw (↑n2 : Int)).length) (List.take (addO (lenLaw (↑n1 : Int)).length n1) (List.take (lenLaw (↑n1 : Int)).length ([] ++ List.take (lenLaw (↑n1 : Int)).length (lenLaw (↑n1 : Int))) ++ List.take n1 a) ++ List.take (lenLaw (↑n2 : Int)).length (lenLaw (↑n2 : Int))) ++ List.take n2 b) ++ List.take (lenLaw (↑n3 : Int)).length (lenLaw (↑n3 :
 Int))).length, .leN (addO (addO (addO (addO (addO (lenLaw (↑n1 : Int)).length n1) (lenLaw (↑n2 : Int)).length) n2) (lenLaw (↑n3 : Int)).length) n3) 140737488355328, .eqN g3 g3, .leN (0 + n3) c.length]) : OkR (nR71c a b c g1 g2 g3 n1 n2 n3 gO ow ow1 ow2 ow3) := OkR.dem (fl := bitsF 62 3517924314918433836) (by kernel_rfl) (by kernel_rfl) (by kernel_rfl) h
theorem nR71c_val {a b c : List Int} {g1 g2 g3 n1 n2 n3 gO : Nat} {ow ow1 ow2 ow3 : Bool} : (nR71c a b c g1 g2 g3 n1 n2 n3 gO ow ow1 ow2 ow3).val = .tuple [.slice 1 4 5 0 (addO (addO (addO (addO (addO (lenLaw (↑n1 : Int)).length n1) (lenLaw (↑n2 : Int)).length) n2) (lenLaw (↑n3 : Int)).length) n3) none, .int .i64 0] := by kernel_rfl
theorem nR71c_tab {a b c : List Int} {g1 g2 g3 n1 n2 n3 gO : Nat} {ow ow1 ow2 ow3 : Bool} : (nR71c a b c g1 g2 g3 n1 n2 n3 gO ow ow1 ow2 ow3).tab = [some ⟨.agg [.slice 1 1 g1 0 n1 none, .slice 1 2 g2 0 n2 none, .slice 1 3 g3 0 n3 none], gO, ow, 22⟩, some ⟨.ints .u8 a, g1, ow1, 5⟩, some ⟨.ints .u8 b, g2, ow2, 5⟩, some ⟨.ints .u8 c, g3, ow3, 5⟩, some ⟨.ints .u8 (List.take (addO (addO (addO (addO
 (lenLaw (↑n1 : Int)).length n1) (lenLaw (↑n2 : Int)).length) n2) (lenLaw (↑n3 : Int)).length) (List.take (addO (addO (addO (lenLaw (↑n1 : Int)).length n1) (lenLaw (↑n2 : Int)).length) n2) (List.take (addO (addO (lenLaw (↑n1 : Int)).length n1) (lenLaw (↑n2 : Int)).length) (List.take (addO (lenLaw (↑n1 : Int)).length n1) (List.take (lenLaw (↑n1 : Int)).length ([] ++ List.take (lenLaw (↑n1 :
 Int)).length (lenLaw (↑n1 : Int))) ++ List.take n1 a) ++ List.take (lenLaw (↑n2 : Int)).length (lenLaw (↑n2 : Int))) ++ List.take n2 b) ++ List.take (lenLaw (↑n3 : Int)).length (lenLaw (↑n3 : Int))) ++ List.take n3 c), 5, true, 5⟩] := by kernel_rfl
def v1Law (n : Nat) (a : List Int) : List Int := vec1Law (List.take n a)
def jn3Law (a b c : List Int) : List Int := vec1Law a ++ (vec1Law b ++ vec1Law c)
theorem v1_len {n : Nat} {a : List Int} (h : n ≤ a.length) : (v1Law n a).length = (lenLaw (n : Int)).length + n := by
  have hl : (List.take n a).length = n := by rw [List.length_take]; omega
  unfold v1Law vec1Law
  rw [hl, List.length_append, hl]
theorem jn3_len (a b c : List Int) : (jn3Law a b c).length = (lenLaw (a.length : Int)).length + a.length + (lenLaw (b.length : Int)).length + b.length + (lenLaw (c.length : Int)).length + c.length := by
  unfold jn3Law vec1Law
  simp only [List.length_append]
  omega
noncomputable def nsm71ac (args : List AVal) (T : Tab) (a : List Int) (g1 : Nat) (n1 : Nat) (c1 : Option Nat) (gO : Nat) (ow : Bool) (ow1 : Bool) : Res := ⟨[.tab T [some ⟨.agg [.slice 1 1 g1 0 n1 c1], gO, ow, 22⟩, some ⟨.ints .u8 a, g1, ow1, 5⟩], .val (.tuple args) (.tuple [.slice 1 0 gO 0 1 (some 1)]), .leN n1 a.length, .leN n1 65536], .tuple [.slice 1 2 1 0 (v1Law n1 a).length none, .int .i64 0], [some ⟨.agg [.slice 1 1 g1 0 n1 c1], gO, ow, 22⟩, some ⟨.ints .u8 a, g1, ow1, 5⟩, some ⟨.ints .u8 (v1Law n1 a), 1, true, 5⟩]⟩
theorem nsm71ac_ok {args : List AVal} {T : Tab} {a : List Int} {g1 : Nat} {n1 : Nat} {c1 : Option Nat} {gO : Nat} {ow : Bool} {ow1 : Bool} (h : allP (nsm71ac args T a g1 n1 c1 gO ow ow1).cs) : Small prog (fun _ => none) 71 args T (nsm71ac args T a g1 n1 c1 gO ow ow1).val (nsm71ac args T a g1 n1 c1 gO ow ow1).tab := by
  obtain ⟨hT, hv, h1, h2, _⟩ := h
  simp only [Con.h] at hT hv h1 h2
  injection hv with hv
  subst hT hv
  show Small prog (fun _ => none) 71 [.slice 1 0 gO 0 1 (some 1)] [some ⟨.agg [.slice 1 1 g1 0 n1 c1], gO, ow, 22⟩, some ⟨.ints .u8 a, g1, ow1, 5⟩] (.tuple [.slice 1 2 1 0 (v1Law n1 a).length none, .int .i64 0]) [some ⟨.agg [.slice 1 1 g1 0 n1 c1], gO, ow, 22⟩, some ⟨.ints .u8 a, g1, ow1, 5⟩, some ⟨.ints .u8 (v1Law n1 a), 1, true, 5⟩]
  have hl : (List.take n1 a).length = n1 := by rw [List.length_take]; omega
  have hL := lenLaw_len (n1 : Int)
  refine small_ofG (R := nR71a a g1 n1 gO c1 ow ow1) eM2_ok hmN (f := 71) (fn := f71) (by kernel_rfl) (by kernel_rfl) FnOrc.nil rfl (nR71a_ok ?_) ?_ ?_
  · simp (disch := (simp only [List.length_append, List.length_take, addO_eq, List.length_nil]; omega)) only [allP, Con.h, List.take_of_length_le, addO_eq, List.nil_append, Nat.zero_add, List.length_append, List.length_take, Nat.min_self, eq_self, true_and, and_true, decide_eq_true_eq, decide_eq_false_iff_not]
    omega
  · rw [nR71a_val, v1_len h1, addO_eq]
  · rw [nR71a_tab]
    unfold v1Law vec1Law
    rw [hl]
    simp (disch := (simp only [List.length_append, List.length_take, addO_eq, List.length_nil]; omega)) only [List.take_length, List.take_of_length_le, addO_eq, List.nil_append]
noncomputable def nsm71a : Summary := fun args T => nsm71ac args T (xsAt T 1) (gAt T 1) (lenOf ((dAt T 0).get 0)) (capOf ((dAt T 0).get 0)) (gAt T 0) (owAt T 0) (owAt T 1)
theorem nsm71a_ok : SmOk prog (fun _ => none) 71 nsm71a := fun args T h => nsm71ac_ok h
noncomputable def nsm71cc (args : List AVal) (T : Tab) (a : List Int) (b : List Int) (c : List Int) (g1 : Nat) (g2 : Nat) (g3 : Nat) (n1 : Nat) (n2 : Nat) (n3 : Nat) (gO : Nat) (ow : Bool) (ow1 : Bool) (ow2 : Bool) (ow3 : Bool) : Res := ⟨[.tab T [some ⟨.agg [.slice 1 1 g1 0 n1 none, .slice 1 2 g2 0 n2 none, .slice 1 3 g3 0 n3 none], gO, ow, 22⟩, some ⟨.ints .u8 a, g1, ow1, 5⟩, some ⟨.ints .u8 b, g2, ow2, 5⟩, some ⟨.ints .u8 c, g3, ow3, 5⟩], .val (.tuple args) (.tuple [.slice 1 0 gO 0 3 (some 3)]), .eqN n1 a.length, .eqN n2 b.length, .eqN n3 c.length, .leN n1 65536, .leN n2 65536, .leN n3 65536], .tuple [.slice 1 4 5 0 (jn3Law a b c).length none, .int .i64 0], [some ⟨.agg [.slice 1 1 g1 0 n1 none, .slice 1 2 g2 0 n2 none, .slice 1 3 g3 0 n3 none], gO, ow, 22⟩, some ⟨.ints .u8 a, g1, ow1, 5⟩, some ⟨.ints .u8 b, g2, ow2, 5⟩, some ⟨.ints .u8 c, g3, ow3, 5⟩, some ⟨.ints .u8 (jn3Law a b c), 5, true, 5⟩]⟩
theorem nsm71cc_ok {args : List AVal} {T : Tab} {a : List Int} {b : List Int} {c : List Int} {g1 : Nat} {g2 : Nat} {g3 : Nat} {n1 : Nat} {n2 : Nat} {n3 : Nat} {gO : Nat} {ow : Bool} {ow1 : Bool} {ow2 : Bool} {ow3 : Bool} (h : allP (nsm71cc args T a b c g1 g2 g3 n1 n2 n3 gO ow ow1 ow2 ow3).cs) : Small prog (fun _ => none) 71 args T (nsm71cc args T a b c g1 g2 g3 n1 n2 n3 gO ow ow1 ow2 ow3).val (nsm71cc args T a b c g1 g2 g3 n1 n2 n3 gO ow ow1 ow2 ow3).tab := by
  obtain ⟨hT, hv, h1, h2, h3, h4, h5, h6, _⟩ := h
  simp only [Con.h] at hT hv h1 h2 h3 h4 h5 h6
  injection hv with hv
  subst hT hv
  show Small prog (fun _ => none) 71 [.slice 1 0 gO 0 3 (some 3)] [some ⟨.agg [.slice 1 1 g1 0 n1 none, .slice 1 2 g2 0 n2 none, .slice 1 3 g3 0 n3 none], gO, ow, 22⟩, some ⟨.ints .u8 a, g1, ow1, 5⟩, some ⟨.ints .u8 b, g2, ow2, 5⟩, some ⟨.ints .u8 c, g3, ow3, 5⟩] (.tuple [.slice 1 4 5 0 (jn3Law a b c).length none, .int .i64 0]) [some ⟨.agg [.slice 1 1 g1 0 n1 none, .slice 1 2 g2 0 n2 none, .slice 1 3 g3 0 n3 none], gO, ow, 22⟩, some ⟨.ints .u8 a, g1, ow1, 5⟩, some ⟨.ints .u8 b, g2, ow2, 5⟩, some ⟨.ints .u8 c, g3, ow3, 5⟩, some ⟨.ints .u8 (jn3Law a b c), 5, true, 5⟩]
  subst h1 h2 h3
  have hA := lenLaw_len (a.length : Int)
  have hB := lenLaw_len (b.length : Int)
  have hC := lenLaw_len (c.length : Int)
  refine small_ofG (R := nR71c a b c g1 g2 g3 a.length b.length c.length gO ow ow1 ow2 ow3) eM2_ok hmN (f := 71) (fn := f71) (by kernel_rfl) (by kernel_rfl) FnOrc.nil rfl (nR71c_ok ?_) ?_ ?_
  · simp (disch := (simp only [List.length_append, List.length_take, addO_eq, List.length_nil]; omega)) only [allP, Con.h, List.take_of_length_le, addO_eq, List.nil_append, Nat.zero_add, List.length_append, List.length_take, Nat.min_self, eq_self, true_and, and_true, decide_eq_true_eq, decide_eq_false_iff_not]
    omega
  · rw [nR71c_val, jn3_len]
    simp only [addO_eq, Nat.add_assoc]
  · rw [nR71c_tab]
    unfold jn3Law vec1Law
    simp (disch := (simp only [List.length_append, List.length_take, addO_eq, List.length_nil]; omega)) only [List.take_length, List.take_of_length_le, addO_eq, List.nil_append]
    simp only [List.append_assoc]
noncomputable def nsm71c : Summary := fun args T => nsm71cc args T (xsAt T 1) (xsAt T 2) (xsAt T 3) (gAt T 1) (gAt T 2) (gAt T 3) (lenOf ((dAt T 0).get 0)) (lenOf ((dAt T 0).get 1)) (lenOf ((dAt T 0).get 2)) (gAt T 0) (owAt T 0) (owAt T 1) (owAt T 2) (owAt T 3)
theorem nsm71c_ok : SmOk prog (fun _ => none) 71 nsm71c := fun args T h => nsm71cc_ok h
noncomputable def nS71 : Summary := fun args T => match lenOf (vAt args 0) with
  | 1 => callR nsm71a [] args T
  | 3 => callR nsm71c [] args T
  | _ => fail
theorem nS71_ok : SumOk prog (fun _ => none) 71 nS71 := by
  intro args T hc
  unfold nS71 at hc ⊢
  split at hc
  · exact callR_ok nsm71a_ok [] args T hc
  · exact callR_ok nsm71c_ok [] args T hc
  · exact absurd hc nofail
end Go.Abs

set_option linter.unusedVariables false
set_option linter.unusedSimpArgs false
set_option maxRecDepth 100000
set_option maxHeartbeats 4000000
namespace Go.Abs
open Go.Proofs Go.Proofs.Try
/-! ### a writer -/
theorem num_len (n size : Int) : (numLaw n size).length ≤ 8 := by
  unfold numLaw
  split
  · rename_i h
    rcases h.1 with rfl | rfl | rfl | rfl <;> simp [beLaw]
  · simp
noncomputable def eM3 : Env := eN0 [(71, nS71)]
theorem eM3_ok : EnvOk eM3 := envOf_ok tysN_ok (SumsOk.cons (fn := f71) nS71_ok (by kernel_rfl) (by kernel_rfl) (by kernel_rfl) trivial)
noncomputable def eM4 : Env := eN0 [(73, S16)]
theorem eM4_ok : EnvOk eM4 := envOf_ok tysN_ok (SumsOk.cons (fn := f73) S16_ok (by kernel_rfl) (by kernel_rfl) (by kernel_rfl) trivial)
noncomputable def nR38  : Res := runF (eN0 []) f38 [] 400 [] [] []
theorem nR38_ok  (h : allP []) : OkR (nR38 ) := OkR.dem (fl := bitsF 22 4194303) (by kernel_rfl) (by kernel_rfl) (by kernel_rfl) h
theorem nR38_val  : (nR38 ).val = .var 0 0 := by kernel_rfl
theorem nR38_tab  : (nR38 ).tab = [some ⟨.agg [.nilSlice, .func (Fn.func 70) [] [.var 1 0], .func (Fn.func 72) [] [.var 1 0]], 0, true, 81⟩, some ⟨.agg [.var 0 0], 0, true, 75⟩] := by kernel_rfl
noncomputable def nR70a (a : List Int) (g1 : Nat) (n1 : Nat) (c1 : Option Nat) (gO : Nat) (ow : Bool) (ow1 : Bool) (X : List Int) (gC : Nat) (gW : Nat) (gB : Nat) (m : Nat) (owC : Bool) : Res := resG 5 [0, 1, 2, 3, 4] (runF eM3 f70 [] 400 [.slice 1 0 gO 0 1 (some 1), .var 1 gC] [some ⟨.agg [.slice 1 2 g1 0 n1 c1], gO, ow, 22⟩, some ⟨.agg [.var 3 gW], gC, owC, 75⟩, some ⟨.ints .u8 a, g1, ow1, 5⟩, some ⟨.agg [.slice 1 4 gB 0 m none, .func (.func 70) [] [.var 1 gC], .func (.func 72) [] [.var 1 gC]], gW, true, 81⟩, some ⟨.ints .u8 X, gB, true, 5⟩] [])
theorem nR70a_ok {a : List Int} {g1 : Nat} {n1 : Nat} {c1 : Option Nat} {gO : Nat} {ow : Bool} {ow1 : Bool} {X : List Int} {gC : Nat} {gW : Nat} {gB : Nat} {m : Nat} {owC : Bool} (h : allP [.eqN gO gO, .eqN g1 g1, .leN n1 a.length, .leN n1 65536, .eqN gC gC, .eqN gC gC, .eqN gC gC, .eqN gW gW, .eqN gW gW, .eqN gW gW, .eqN gB gB, .leN (0 + m) X.length, .leN (addO m (v1Law n1 a).length)
 140737488355328, .leN (0 + (v1Law n1 a).length) (v1Law n1 a).length, .eqN gW gW, .eqN gW gW, .eqN gW gW]) : OkR (nR70a a g1 n1 c1 gO ow ow1 X gC gW gB m owC) := OkR.dem (fl := bitsF 32 1889674496) (by kernel_rfl) (by kernel_rfl) (by kernel_rfl) h
theorem nR70a_val {a : List Int} {g1 : Nat} {n1 : Nat} {c1 : Option Nat} {gO : Nat} {ow : Bool} {ow1 : Bool} {X : List Int} {gC : Nat} {gW : Nat} {gB : Nat} {m : Nat} {owC : Bool} : (nR70a a g1 n1 c1 gO ow ow1 X gC gW gB m owC).val = .tuple [] := by kernel_rfl
theorem nR70a_tab {a : List Int} {g1 : Nat} {n1 : Nat} {c1 : Option Nat} {gO : Nat} {ow : Bool} {ow1 : Bool} {X : List Int} {gC : Nat} {gW : Nat} {gB : Nat} {m : Nat} {owC : Bool} : (nR70a a g1 n1 c1 gO ow ow1 X gC gW gB m owC).tab = [some ⟨.agg [.slice 1 2 g1 0 n1 c1], gO, ow, 22⟩, some ⟨.agg [.var 3 gW], gC, owC, 75⟩, some ⟨.ints .u8 a, g1, ow1, 5⟩, some ⟨.agg [.slice 1 4 (gB + 1) 0 (addO m
 (v1Law n1 a).length) none, .func (Fn.func 70) [] [.var 1 gC], .func (Fn.func 72) [] [.var 1 gC]], gW, true, 81⟩, some ⟨.ints .u8 (List.take m X ++ List.take (v1Law n1 a).length (v1Law n1 a)), gB + 1, true, 5⟩] := by kernel_rfl
noncomputable def nR70c (a : List Int) (b : List Int) (c : List Int) (g1 : Nat) (g2 : Nat) (g3 : Nat) (n1 : Nat) (n2 : Nat) (n3 : Nat) (gO : Nat) (ow : Bool) (ow1 : Bool) (ow2 : Bool) (ow3 : Bool) (X : List Int) (gC : Nat) (gW : Nat) (gB : Nat) (m : Nat) (owC : Bool) : Res := resG 7 [0, 1, 2, 3, 4, 5, 6] (runF eM3 f70 [] 400 [.slice 1 0 gO 0 3 (some 3), .var 1 gC] [some ⟨.agg [.slice 1 2 g1 0 n1 none, .slice 1 3 g2 0 n2 none, .slice 1 4 g3 0 n3 none], gO, ow, 22⟩, some ⟨.agg [.var 5 gW], gC, owC, 75⟩, some ⟨.ints .u8 a, g1, ow1, 5⟩, some ⟨.ints .u8 b, g2, ow2, 5⟩, some ⟨.ints .u8 c, g3, ow3, 5⟩, some ⟨.agg [.slice 1 6 gB 0 m none, .func (.func 70) [] [.var 1 gC], .func (.func 72) [] [.var 1 gC]], gW, true, 81⟩, some ⟨.ints .u8 X, gB, true, 5⟩] [])
theorem nR70c_ok {a : List Int} {b : List Int} {c : List Int} {g1 : Nat} {g2 : Nat} {g3 : Nat} {n1 : Nat} {n2 : Nat} {n3 : Nat} {gO : Nat} {ow : Bool} {ow1 : Bool} {ow2 : Bool} {ow3 : Bool} {X : List Int} {gC : Nat} {gW : Nat} {gB : Nat} {m : Nat} {owC : Bool} (h : allP [.eqN gO gO, .eqN g1 g1, .eqN g2 g2, .eqN g3 g3, .eqN n1 a.length, .eqN n2 b.length, .eqN n3 c.length, .leN n1 65536, .leN n2
 65536, .leN n3 65536, .eqN gC gC, .eqN gC gC, .eqN gC gC, .eqN gW gW, .eqN gW gW, .eqN gW gW, .eqN gB gB, .leN (0 + m) X.length, .leN (addO m (jn3Law a b c).length) 140737488355328, .leN (0 + (jn3Law a b c).length) (jn3Law a b c).length, .eqN gW gW, .eqN gW gW, .eqN gW gW]) : OkR (nR70c a b c g1 g2 g3 n1 n2 n3 gO ow ow1 ow2 ow3 X gC gW gB m owC) := OkR.dem (fl := bitsF 38 120939167744) (by
 kernel_rfl) (by kernel_rfl) (by kernel_rfl) h
theorem nR70c_val {a : List Int} {b : List Int} {c : List Int} {g1 : Nat} {g2 : Nat} {g3 : Nat} {n1 : Nat} {n2 : Nat} {n3 : Nat} {gO : Nat} {ow : Bool} {ow1 : Bool} {ow2 : Bool} {ow3 : Bool} {X : List Int} {gC : Nat} {gW : Nat} {gB : Nat} {m : Nat} {owC : Bool} : (nR70c a b c g1 g2 g3 n1 n2 n3 gO ow ow1 ow2 ow3 X gC gW gB m owC).val = .tuple [] := by kernel_rfl
theorem nR70c_tab {a : List Int} {b : List Int} {c : List Int} {g1 : Nat} {g2 : Nat} {g3 : Nat} {n1 : Nat} {n2 : Nat} {n3 : Nat} {gO : Nat} {ow : Bool} {ow1 : Bool} {ow2 : Bool} {ow3 : Bool} {X : List Int} {gC : Nat} {gW : Nat} {gB : Nat} {m : Nat} {owC : Bool} : (nR70c a b c g1 g2 g3 n1 n2 n3 gO ow ow1 ow2 ow3 X gC gW gB m owC).tab = [some ⟨.agg [.slice 1 2 g1 0 n1 none, .slice 1 3 g2 0 n2 none,
 .slice 1 4 g3 0 n3 none], gO, ow, 22⟩, some ⟨.agg [.var 5 gW], gC, owC, 75⟩, some ⟨.ints .u8 a, g1, ow1, 5⟩, some ⟨.ints .u8 b, g2, ow2, 5⟩, some ⟨.ints .u8 c, g3, ow3, 5⟩, some ⟨.agg [.slice 1 6 (gB + 1) 0 (addO m (jn3Law a b c).length) none, .func (Fn.func 70) [] [.var 1 gC], .func (Fn.func 72) [] [.var 1 gC]], gW, true, 81⟩, some ⟨.ints .u8 (List.take m X ++ List.take (jn3Law a b c).length
 (jn3Law a b c)), gB + 1, true, 5⟩] := by kernel_rfl
noncomputable def nR72 (n : Int) (size : Int) (X : List Int) (gC : Nat) (gW : Nat) (gB : Nat) (m : Nat) (owC : Bool) : Res := resG 3 [0, 1, 2] (runF eM4 f72 [] 400 [.int .i64 n, .int .i64 size, .var 0 gC] [some ⟨.agg [.var 1 gW], gC, owC, 75⟩, some ⟨.agg [.slice 1 2 gB 0 m none, .func (.func 70) [] [.var 0 gC], .func (.func 72) [] [.var 0 gC]], gW, true, 81⟩, some ⟨.ints .u8 X, gB, true, 5⟩] [])
theorem nR72_ok {n : Int} {size : Int} {X : List Int} {gC : Nat} {gW : Nat} {gB : Nat} {m : Nat} {owC : Bool} (h : allP [.eqN gC gC, .eqN gC gC, .eqN gC gC, .eqN gW gW, .eqN gW gW, .eqN gW gW, .eqN gB gB, .leN (0 + m) X.length, .leN (addO m (numLaw n size).length) 140737488355328, .leN (0 + (numLaw n size).length) (numLaw n size).length, .eqN gW gW, .eqN gW gW, .eqN gW gW]) : OkR (nR72 n size X gC
 gW gB m owC) := OkR.dem (fl := bitsF 26 29526164) (by kernel_rfl) (by kernel_rfl) (by kernel_rfl) h
theorem nR72_val {n : Int} {size : Int} {X : List Int} {gC : Nat} {gW : Nat} {gB : Nat} {m : Nat} {owC : Bool} : (nR72 n size X gC gW gB m owC).val = .tuple [] := by kernel_rfl
theorem nR72_tab {n : Int} {size : Int} {X : List Int} {gC : Nat} {gW : Nat} {gB : Nat} {m : Nat} {owC : Bool} : (nR72 n size X gC gW gB m owC).tab = [some ⟨.agg [.var 1 gW], gC, owC, 75⟩, some ⟨.agg [.slice 1 2 (gB + 1) 0 (addO m (numLaw n size).length) none, .func (Fn.func 70) [] [.var 0 gC], .func (Fn.func 72) [] [.var 0 gC]], gW, true, 81⟩, some ⟨.ints .u8 (List.take m X ++ List.take (numLaw n
 size).length (numLaw n size)), gB + 1, true, 5⟩] := by kernel_rfl
theorem small38 : Small prog (fun _ => none) 38 [] [] (.var 0 0) [some ⟨.agg [.slice 1 2 0 0 0 none, .func (.func 70) [] [.var 1 0], .func (.func 72) [] [.var 1 0]], 0, true, 81⟩, some ⟨.agg [.var 0 0], 0, true, 75⟩, some ⟨.ints .u8 [], 0, true, 5⟩] :=
  Small.conv (ids := [0]) (small_of (R := nR38) eN0_ok hmN (f := 38) (fn := f38) (by kernel_rfl) (by kernel_rfl) FnOrc.nil rfl (nR38_ok trivial) nR38_val nR38_tab) (Conv.nilCell (kk := .u8) (et2 := 5) (sz := 1) (p := 0) (j := 0) rfl rfl rfl) (by intro p hp; simp at hp; subst hp; rfl)
noncomputable def nsm38c (args : List AVal) (T : Tab)  : Res := ⟨[.tab T [], .val (.tuple args) (.tuple [])], .var 0 0, [some ⟨.agg [.slice 1 2 0 0 0 none, .func (.func 70) [] [.var 1 0], .func (.func 72) [] [.var 1 0]], 0, true, 81⟩, some ⟨.agg [.var 0 0], 0, true, 75⟩, some ⟨.ints .u8 [], 0, true, 5⟩]⟩
theorem nsm38c_ok {args : List AVal} {T : Tab}  (h : allP (nsm38c args T ).cs) : Small prog (fun _ => none) 38 args T (nsm38c args T ).val (nsm38c args T ).tab := by
  obtain ⟨hT, hv, _⟩ := h
  simp only [Con.h] at hT hv
  injection hv with hv
  subst hT hv
  show Small prog (fun _ => none) 38 [] [] (.var 0 0) [some ⟨.agg [.slice 1 2 0 0 0 none, .func (.func 70) [] [.var 1 0], .func (.func 72) [] [.var 1 0]], 0, true, 81⟩, some ⟨.agg [.var 0 0], 0, true, 75⟩, some ⟨.ints .u8 [], 0, true, 5⟩]
  exact small38
noncomputable def nsm38 : Summary := fun args T => nsm38c args T 
theorem nsm38_ok : SmOk prog (fun _ => none) 38 nsm38 := fun args T h => nsm38c_ok h
noncomputable def nS38 : Summary := callR nsm38 []
theorem nS38_ok : SumOk prog (fun _ => none) 38 nS38 := callR_ok nsm38_ok []
noncomputable def nsm70ac (args : List AVal) (T : Tab) (a : List Int) (g1 : Nat) (n1 : Nat) (c1 : Option Nat) (gO : Nat) (ow : Bool) (ow1 : Bool) (X : List Int) (gC : Nat) (gW : Nat) (gB : Nat) (m : Nat) (owC : Bool) : Res := ⟨[.tab T [some ⟨.agg [.slice 1 2 g1 0 n1 c1], gO, ow, 22⟩, some ⟨.agg [.var 3 gW], gC, owC, 75⟩, some ⟨.ints .u8 a, g1, ow1, 5⟩, some ⟨.agg [.slice 1 4 gB 0 m none, .func (.func 70) [] [.var 1 gC], .func (.func 72) [] [.var 1 gC]], gW, true, 81⟩, some ⟨.ints .u8 X, gB, true, 5⟩], .val (.tuple args) (.tuple [.slice 1 0 gO 0 1 (some 1), .var 1 gC]), .leN n1 a.length, .leN n1 65536, .eqN m X.length, .leN m 140737488000000], .tuple [], [some ⟨.agg [.slice 1 2 g1 0 n1 c1], gO, ow, 22⟩, some ⟨.agg [.var 3 gW], gC, owC, 75⟩, some ⟨.ints .u8 a, g1, ow1, 5⟩, some ⟨.agg [.slice 1 4 (gB + 1) 0 (X ++ v1Law n1 a).length none, .func (.func 70) [] [.var 1 gC], .func (.func 72) [] [.var 1 gC]], gW, true, 81⟩, some ⟨.ints .u8 (X ++ v1Law n1 a), (gB + 1), true, 5⟩]⟩
theorem nsm70ac_ok {args : List AVal} {T : Tab} {a : List Int} {g1 : Nat} {n1 : Nat} {c1 : Option Nat} {gO : Nat} {ow : Bool} {ow1 : Bool} {X : List Int} {gC : Nat} {gW : Nat} {gB : Nat} {m : Nat} {owC : Bool} (h : allP (nsm70ac args T a g1 n1 c1 gO ow ow1 X gC gW gB m owC).cs) : Small prog (fun _ => none) 70 args T (nsm70ac args T a g1 n1 c1 gO ow ow1 X gC gW gB m owC).val (nsm70ac args T a g1 n1 c1 gO ow ow1 X gC gW gB m owC).tab := by
  obtain ⟨hT, hv, h1, h2, h3, h4, _⟩ := h
  simp only [Con.h] at hT hv h1 h2 h3 h4
  injection hv with hv
  subst hT hv
  show Small prog (fun _ => none) 70 [.slice 1 0 gO 0 1 (some 1), .var 1 gC] [some ⟨.agg [.slice 1 2 g1 0 n1 c1], gO, ow, 22⟩, some ⟨.agg [.var 3 gW], gC, owC, 75⟩, some ⟨.ints .u8 a, g1, ow1, 5⟩, some ⟨.agg [.slice 1 4 gB 0 m none, .func (.func 70) [] [.var 1 gC], .func (.func 72) [] [.var 1 gC]], gW, true, 81⟩, some ⟨.ints .u8 X, gB, true, 5⟩] (.tuple []) [some ⟨.agg [.slice 1 2 g1 0 n1 c1], gO, ow, 22⟩, some ⟨.agg [.var 3 gW], gC, owC, 75⟩, some ⟨.ints .u8 a, g1, ow1, 5⟩, some ⟨.agg [.slice 1 4 (gB + 1) 0 (X ++ v1Law n1 a).length none, .func (.func 70) [] [.var 1 gC], .func (.func 72) [] [.var 1 gC]], gW, true, 81⟩, some ⟨.ints .u8 (X ++ v1Law n1 a), (gB + 1), true, 5⟩]
  have hL := lenLaw_len (n1 : Int)
  have hv := v1_len h1
  subst h3
  refine small_ofG (R := nR70a a g1 n1 c1 gO ow ow1 X gC gW gB X.length owC) eM3_ok hmN (f := 70) (fn := f70) (by kernel_rfl) (by kernel_rfl) FnOrc.nil rfl (nR70a_ok ?_) nR70a_val ?_
  · simp (disch := (simp only [List.length_append, List.length_take, addO_eq, List.length_nil]; omega)) only [allP, Con.h, List.take_length, List.take_of_length_le, addO_eq, List.nil_append, Nat.zero_add, List.length_append, List.length_take, Nat.min_self, eq_self, true_and, and_true, decide_eq_true_eq, decide_eq_false_iff_not]
    omega
  · rw [nR70a_tab, List.length_append]
    simp (disch := (simp only [List.length_append, List.length_take, addO_eq, List.length_nil]; omega)) only [List.take_length, List.take_of_length_le, addO_eq, List.nil_append]
noncomputable def nsm70a : Summary := fun args T => nsm70ac args T (xsAt T 2) (gAt T 2) (lenOf ((dAt T 0).get 0)) (capOf ((dAt T 0).get 0)) (gAt T 0) (owAt T 0) (owAt T 2) (xsAt T 4) (gAt T 1) (gAt T 3) (gAt T 4) (lenOf (cAt T 3 0)) (owAt T 1)
theorem nsm70a_ok : SmOk prog (fun _ => none) 70 nsm70a := fun args T h => nsm70ac_ok h
noncomputable def nsm70cc (args : List AVal) (T : Tab) (a : List Int) (b : List Int) (c : List Int) (g1 : Nat) (g2 : Nat) (g3 : Nat) (n1 : Nat) (n2 : Nat) (n3 : Nat) (gO : Nat) (ow : Bool) (ow1 : Bool) (ow2 : Bool) (ow3 : Bool) (X : List Int) (gC : Nat) (gW : Nat) (gB : Nat) (m : Nat) (owC : Bool) : Res := ⟨[.tab T [some ⟨.agg [.slice 1 2 g1 0 n1 none, .slice 1 3 g2 0 n2 none, .slice 1 4 g3 0 n3 none], gO, ow, 22⟩, some ⟨.agg [.var 5 gW], gC, owC, 75⟩, some ⟨.ints .u8 a, g1, ow1, 5⟩, some ⟨.ints .u8 b, g2, ow2, 5⟩, some ⟨.ints .u8 c, g3, ow3, 5⟩, some ⟨.agg [.slice 1 6 gB 0 m none, .func (.func 70) [] [.var 1 gC], .func (.func 72) [] [.var 1 gC]], gW, true, 81⟩, some ⟨.ints .u8 X, gB, true, 5⟩], .val (.tuple args) (.tuple [.slice 1 0 gO 0 3 (some 3), .var 1 gC]), .eqN n1 a.length, .eqN n2 b.length, .eqN n3 c.length, .leN n1 65536, .leN n2 65536, .leN n3 65536, .eqN m X.length, .leN m 140737488000000], .tuple [], [some ⟨.agg [.slice 1 2 g1 0 n1 none, .slice 1 3 g2 0 n2 none, .slice 1 4 g3 0 n3 none], gO, ow, 22⟩, some ⟨.agg [.var 5 gW], gC, owC, 75⟩, some ⟨.ints .u8 a, g1, ow1, 5⟩, some ⟨.ints .u8 b, g2, ow2, 5⟩, some ⟨.ints .u8 c, g3, ow3, 5⟩, some ⟨.agg [.slice 1 6 (gB + 1) 0 (X ++ jn3Law a b c).length none, .func (.func 70) [] [.var 1 gC], .func (.func 72) [] [.var 1 gC]], gW, true, 81⟩, some ⟨.ints .u8 (X ++ jn3Law a b c), (gB + 1), true, 5⟩]⟩
theorem nsm70cc_ok {args : List AVal} {T : Tab} {a : List Int} {b : List Int} {c : List Int} {g1 : Nat} {g2 : Nat} {g3 : Nat} {n1 : Nat} {n2 : Nat} {n3 : Nat} {gO : Nat} {ow : Bool} {ow1 : Bool} {ow2 : Bool} {ow3 : Bool} {X : List Int} {gC : Nat} {gW : Nat} {gB : Nat} {m : Nat} {owC : Bool} (h : allP (nsm70cc args T a b c g1 g2 g3 n1 n2 n3 gO ow ow1 ow2 ow3 X gC gW gB m owC).cs) : Small prog (fun _ => none) 70 args T (nsm70cc args T a b c g1 g2 g3 n1 n2 n3 gO ow ow1 ow2 ow3 X gC gW gB m owC).val (nsm70cc args T a b c g1 g2 g3 n1 n2 n3 gO ow ow1 ow2 ow3 X gC gW gB m owC).tab := by
  obtain ⟨hT, hv, h1, h2, h3, h4, h5, h6, h7, h8, _⟩ := h
  simp only [Con.h] at hT hv h1 h2 h3 h4 h5 h6 h7 h8
  injection hv with hv
  subst hT hv
  show Small prog (fun _ => none) 70 [.slice 1 0 gO 0 3 (some 3), .var 1 gC] [some ⟨.agg [.slice 1 2 g1 0 n1 none, .slice 1 3 g2 0 n2 none, .slice 1 4 g3 0 n3 none], gO, ow, 22⟩, some ⟨.agg [.var 5 gW], gC, owC, 75⟩, some ⟨.ints .u8 a, g1, ow1, 5⟩, some ⟨.ints .u8 b, g2, ow2, 5⟩, some ⟨.ints .u8 c, g3, ow3, 5⟩, some ⟨.agg [.slice 1 6 gB 0 m none, .func (.func 70) [] [.var 1 gC], .func (.func 72) [] [.var 1 gC]], gW, true, 81⟩, some ⟨.ints .u8 X, gB, true, 5⟩] (.tuple []) [some ⟨.agg [.slice 1 2 g1 0 n1 none, .slice 1 3 g2 0 n2 none, .slice 1 4 g3 0 n3 none], gO, ow, 22⟩, some ⟨.agg [.var 5 gW], gC, owC, 75⟩, some ⟨.ints .u8 a, g1, ow1, 5⟩, some ⟨.ints .u8 b, g2, ow2, 5⟩, some ⟨.ints .u8 c, g3, ow3, 5⟩, some ⟨.agg [.slice 1 6 (gB + 1) 0 (X ++ jn3Law a b c).length none, .func (.func 70) [] [.var 1 gC], .func (.func 72) [] [.var 1 gC]], gW, true, 81⟩, some ⟨.ints .u8 (X ++ jn3Law a b c), (gB + 1), true, 5⟩]
  subst h1 h2 h3 h7
  have hA := lenLaw_len (a.length : Int)
  have hB := lenLaw_len (b.length : Int)
  have hC := lenLaw_len (c.length : Int)
  have hj := jn3_len a b c
  refine small_ofG (R := nR70c a b c g1 g2 g3 a.length b.length c.length gO ow ow1 ow2 ow3 X gC gW gB X.length owC) eM3_ok hmN (f := 70) (fn := f70) (by kernel_rfl) (by kernel_rfl) FnOrc.nil rfl (nR70c_ok ?_) nR70c_val ?_
  · simp (disch := (simp only [List.length_append, List.length_take, addO_eq, List.length_nil]; omega)) only [allP, Con.h, List.take_length, List.take_of_length_le, addO_eq, List.nil_append, Nat.zero_add, List.length_append, List.length_take, Nat.min_self, eq_self, true_and, and_true, decide_eq_true_eq, decide_eq_false_iff_not]
    omega
  · rw [nR70c_tab, List.length_append]
    simp (disch := (simp only [List.length_append, List.length_take, addO_eq, List.length_nil]; omega)) only [List.take_length, List.take_of_length_le, addO_eq, List.nil_append]
noncomputable def nsm70c : Summary := fun args T => nsm70cc args T (xsAt T 2) (xsAt T 3) (xsAt T 4) (gAt T 2) (gAt T 3) (gAt T 4) (lenOf ((dAt T 0).get 0)) (lenOf ((dAt T 0).get 1)) (lenOf ((dAt T 0).get 2)) (gAt T 0) (owAt T 0) (owAt T 2) (owAt T 3) (owAt T 4) (xsAt T 6) (gAt T 1) (gAt T 5) (gAt T 6) (lenOf (cAt T 5 0)) (owAt T 1)
theorem nsm70c_ok : SmOk prog (fun _ => none) 70 nsm70c := fun args T h => nsm70cc_ok h
noncomputable def nsm72c (args : List AVal) (T : Tab) (n : Int) (size : Int) (X : List Int) (gC : Nat) (gW : Nat) (gB : Nat) (m : Nat) (owC : Bool) : Res := ⟨[.tab T [some ⟨.agg [.var 1 gW], gC, owC, 75⟩, some ⟨.agg [.slice 1 2 gB 0 m none, .func (.func 70) [] [.var 0 gC], .func (.func 72) [] [.var 0 gC]], gW, true, 81⟩, some ⟨.ints .u8 X, gB, true, 5⟩], .val (.tuple args) (.tuple [.int .i64 n, .int .i64 size, .var 0 gC]), .eqN m X.length, .leN m 140737488000000], .tuple [], [some ⟨.agg [.var 1 gW], gC, owC, 75⟩, some ⟨.agg [.slice 1 2 (gB + 1) 0 (X ++ numLaw n size).length none, .func (.func 70) [] [.var 0 gC], .func (.func 72) [] [.var 0 gC]], gW, true, 81⟩, some ⟨.ints .u8 (X ++ numLaw n size), (gB + 1), true, 5⟩]⟩
theorem nsm72c_ok {args : List AVal} {T : Tab} {n : Int} {size : Int} {X : List Int} {gC : Nat} {gW : Nat} {gB : Nat} {m : Nat} {owC : Bool} (h : allP (nsm72c args T n size X gC gW gB m owC).cs) : Small prog (fun _ => none) 72 args T (nsm72c args T n size X gC gW gB m owC).val (nsm72c args T n size X gC gW gB m owC).tab := by
  obtain ⟨hT, hv, h1, h2, _⟩ := h
  simp only [Con.h] at hT hv h1 h2
  injection hv with hv
  subst hT hv
  show Small prog (fun _ => none) 72 [.int .i64 n, .int .i64 size, .var 0 gC] [some ⟨.agg [.var 1 gW], gC, owC, 75⟩, some ⟨.agg [.slice 1 2 gB 0 m none, .func (.func 70) [] [.var 0 gC], .func (.func 72) [] [.var 0 gC]], gW, true, 81⟩, some ⟨.ints .u8 X, gB, true, 5⟩] (.tuple []) [some ⟨.agg [.var 1 gW], gC, owC, 75⟩, some ⟨.agg [.slice 1 2 (gB + 1) 0 (X ++ numLaw n size).length none, .func (.func 70) [] [.var 0 gC], .func (.func 72) [] [.var 0 gC]], gW, true, 81⟩, some ⟨.ints .u8 (X ++ numLaw n size), (gB + 1), true, 5⟩]
  subst h1
  have hN := num_len n size
  refine small_ofG (R := nR72 n size X gC gW gB X.length owC) eM4_ok hmN (f := 72) (fn := f72) (by kernel_rfl) (by kernel_rfl) FnOrc.nil rfl (nR72_ok ?_) nR72_val ?_
  · simp (disch := (simp only [List.length_append, List.length_take, addO_eq, List.length_nil]; omega)) only [allP, Con.h, List.take_length, List.take_of_length_le, addO_eq, List.nil_append, Nat.zero_add, List.length_append, List.length_take, Nat.min_self, eq_self, true_and, and_true, decide_eq_true_eq, decide_eq_false_iff_not]
    omega
  · rw [nR72_tab, List.length_append]
    simp (disch := (simp only [List.length_append, List.length_take, addO_eq, List.length_nil]; omega)) only [List.take_length, List.take_of_length_le, addO_eq, List.nil_append]
noncomputable def nsm72 : Summary := fun args T => nsm72c args T (iOf (vAt args 0)) (iOf (vAt args 1)) (xsAt T 2) (gAt T 0) (gAt T 1) (gAt T 2) (lenOf (cAt T 1 0)) (owAt T 0)
theorem nsm72_ok : SmOk prog (fun _ => none) 72 nsm72 := fun args T h => nsm72c_ok h
noncomputable def nS70 : Summary := fun args T => match lenOf (vAt args 0) with
  | 1 => callR nsm70a [false, false, false, true, true] args T
  | 3 => callR nsm70c [false, false, false, false, false, true, true] args T
  | _ => fail
theorem nS70_ok : SumOk prog (fun _ => none) 70 nS70 := by
  intro args T hc
  unfold nS70 at hc ⊢
  split at hc
  · exact callR_ok nsm70a_ok _ args T hc
  · exact callR_ok nsm70c_ok _ args T hc
  · exact absurd hc nofail
noncomputable def nS72 : Summary := callR nsm72 [false, true, true]
theorem nS72_ok : SumOk prog (fun _ => none) 72 nS72 := callR_ok nsm72_ok _
end Go.Abs

set_option linter.unusedVariables false
set_option linter.unusedSimpArgs false
set_option maxRecDepth 100000
set_option maxHeartbeats 4000000
namespace Go.Abs
open Go.Proofs Go.Proofs.Try
/-! ### a leaf, written -/
def bareGLaw (s : Int) : Nat := if s = 3 then 3 else 2
def bareLaw (a b c : List Int) (s : Int) (d : List Int) : List Int := jn3Law a b c ++ (numLaw s 1 ++ if s = 3 then vec1Law d else [])
theorem bare3 (a b c d : List Int) {s : Int} (h : s = 3) : bareLaw a b c s d = jn3Law a b c ++ (numLaw s 1 ++ vec1Law d) ∧ bareGLaw s = 3 := by unfold bareLaw bareGLaw; rw [if_pos h, if_pos h]; exact ⟨rfl, rfl⟩
theorem bareN (a b c d : List Int) {s : Int} (h : s ≠ 3) : bareLaw a b c s d = jn3Law a b c ++ numLaw s 1 ∧ bareGLaw s = 2 := by unfold bareLaw bareGLaw; rw [if_neg h, if_neg h, List.append_nil]; exact ⟨rfl, rfl⟩
noncomputable def eM5 : Env := eN0 [(70, nS70), (72, nS72)]
theorem eM5_ok : EnvOk eM5 := envOf_ok tysN_ok (SumsOk.cons (fn := f70) nS70_ok (by kernel_rfl) (by kernel_rfl) (by kernel_rfl) (SumsOk.cons (fn := f72) nS72_ok (by kernel_rfl) (by kernel_rfl) (by kernel_rfl) trivial))
noncomputable def nR39y (a : List Int) (b : List Int) (c : List Int) (d : List Int) (z : List Int) (g1 : Nat) (g2 : Nat) (g3 : Nat) (g4 : Nat) (g5 : Nat) (n1 : Nat) (n2 : Nat) (n3 : Nat) (n4 : Nat) (n5 : Nat) (s : Int) (X : List Int) (gC : Nat) (gW : Nat) (gB : Nat) (m : Nat) (owC : Bool) : Res := resG 8 [0, 1, 2, 3, 4, 5, 6, 7] (runF eM5 f39 [] 400 [.var 0 gW, .agg [.slice 1 1 g1 0 n1 none, .slice 1 2 g2 0 n2 none, .slice 1 3 g3 0 n3 none, .int .i64 s, .slice 1 4 g4 0 n4 none, .slice 1 5 g5 0 n5 none]] [some ⟨.agg [.slice 1 6 gB 0 m none, .func (.func 70) [] [.var 7 gC], .func (.func 72) [] [.var 7 gC]], gW, true, 81⟩, some ⟨.ints .u8 a, g1, false, 5⟩, some ⟨.ints .u8 b, g2, false, 5⟩, some ⟨.ints .u8 c, g3, false, 5⟩, some ⟨.ints .u8 d, g4, false, 5⟩, some ⟨.ints .u8 z, g5, false, 5⟩, some ⟨.ints .u8 X, gB, true, 5⟩, some ⟨.agg [.var 0 gW], gC, owC, 75⟩] [some true])
theorem nR39y_ok {a : List Int} {b : List Int} {c : List Int} {d : List Int} {z : List Int} {g1 : Nat} {g2 : Nat} {g3 : Nat} {g4 : Nat} {g5 : Nat} {n1 : Nat} {n2 : Nat} {n3 : Nat} {n4 : Nat} {n5 : Nat} {s : Int} {X : List Int} {gC : Nat} {gW : Nat} {gB : Nat} {m : Nat} {owC : Bool} (h : allP [.eqN gW gW, .eqN gW gW, .eqN gW gW, .eqN gC gC, .eqN g1 g1, .eqN g2 g2, .eqN g3 g3, .eqN n1 a.length, .eqN
 n2 b.length, .eqN n3 c.length, .leN n1 65536, .leN n2 65536, .leN n3 65536, .eqN m X.length, .leN m 140737488000000, .eqN gW gW, .eqN gW gW, .eqN gW gW, .eqN gC gC, .eqN (X ++ jn3Law a b c).length (X ++ jn3Law a b c).length, .leN (X ++ jn3Law a b c).length 140737488000000, .p ((s == 3) = true), .eqN gW gW, .eqN gW gW, .eqN gW gW, .eqN gC gC, .eqN g4 g4, .leN n4 d.length, .leN n4 65536, .eqN (X ++
 jn3Law a b c ++ numLaw s 1).length (X ++ jn3Law a b c ++ numLaw s 1).length, .leN (X ++ jn3Law a b c ++ numLaw s 1).length 140737488000000]) : OkR (nR39y a b c d z g1 g2 g3 g4 g5 n1 n2 n3 n4 n5 s X gC gW gB m owC) := OkR.dem (fl := bitsF 78 441600527432517943280) (by kernel_rfl) (by kernel_rfl) (by kernel_rfl) h
theorem nR39y_val {a : List Int} {b : List Int} {c : List Int} {d : List Int} {z : List Int} {g1 : Nat} {g2 : Nat} {g3 : Nat} {g4 : Nat} {g5 : Nat} {n1 : Nat} {n2 : Nat} {n3 : Nat} {n4 : Nat} {n5 : Nat} {s : Int} {X : List Int} {gC : Nat} {gW : Nat} {gB : Nat} {m : Nat} {owC : Bool} : (nR39y a b c d z g1 g2 g3 g4 g5 n1 n2 n3 n4 n5 s X gC gW gB m owC).val = .tuple [] := by kernel_rfl
theorem nR39y_tab {a : List Int} {b : List Int} {c : List Int} {d : List Int} {z : List Int} {g1 : Nat} {g2 : Nat} {g3 : Nat} {g4 : Nat} {g5 : Nat} {n1 : Nat} {n2 : Nat} {n3 : Nat} {n4 : Nat} {n5 : Nat} {s : Int} {X : List Int} {gC : Nat} {gW : Nat} {gB : Nat} {m : Nat} {owC : Bool} : (nR39y a b c d z g1 g2 g3 g4 g5 n1 n2 n3 n4 n5 s X gC gW gB m owC).tab = [some ⟨.agg [.slice 1 6 (gB + 1 + 1 + 1) 0
 (X ++ jn3Law a b c ++ numLaw s 1 ++ v1Law n4 d).length none, .func (Fn.func 70) [] [.var 7 gC], .func (Fn.func 72) [] [.var 7 gC]], gW, true, 81⟩, some ⟨.ints .u8 a, g1, false, 5⟩, some ⟨.ints .u8 b, g2, false, 5⟩, some ⟨.ints .u8 c, g3, false, 5⟩, some ⟨.ints .u8 d, g4, false, 5⟩, some ⟨.ints .u8 z, g5, false, 5⟩, some ⟨.ints .u8 (X ++ jn3Law a b c ++ numLaw s 1 ++ v1Law n4 d), gB + 1 + 1 + 1,
 true, 5⟩, some ⟨.agg [.var 0 gW], gC, owC, 75⟩] := by kernel_rfl
noncomputable def nR39n (a : List Int) (b : List Int) (c : List Int) (d : List Int) (z : List Int) (g1 : Nat) (g2 : Nat) (g3 : Nat) (g4 : Nat) (g5 : Nat) (n1 : Nat) (n2 : Nat) (n3 : Nat) (n4 : Nat) (n5 : Nat) (s : Int) (X : List Int) (gC : Nat) (gW : Nat) (gB : Nat) (m : Nat) (owC : Bool) : Res := resG 8 [0, 1, 2, 3, 4, 5, 6, 7] (runF eM5 f39 [] 400 [.var 0 gW, .agg [.slice 1 1 g1 0 n1 none, .slice 1 2 g2 0 n2 none, .slice 1 3 g3 0 n3 none, .int .i64 s, .slice 1 4 g4 0 n4 none, .slice 1 5 g5 0 n5 none]] [some ⟨.agg [.slice 1 6 gB 0 m none, .func (.func 70) [] [.var 7 gC], .func (.func 72) [] [.var 7 gC]], gW, true, 81⟩, some ⟨.ints .u8 a, g1, false, 5⟩, some ⟨.ints .u8 b, g2, false, 5⟩, some ⟨.ints .u8 c, g3, false, 5⟩, some ⟨.ints .u8 d, g4, false, 5⟩, some ⟨.ints .u8 z, g5, false, 5⟩, some ⟨.ints .u8 X, gB, true, 5⟩, some ⟨.agg [.var 0 gW], gC, owC, 75⟩] [some false])
theorem nR39n_ok {a : List Int} {b : List Int} {c : List Int} {d : List Int} {z : List Int} {g1 : Nat} {g2 : Nat} {g3 : Nat} {g4 : Nat} {g5 : Nat} {n1 : Nat} {n2 : Nat} {n3 : Nat} {n4 : Nat} {n5 : Nat} {s : Int} {X : List Int} {gC : Nat} {gW : Nat} {gB : Nat} {m : Nat} {owC : Bool} (h : allP [.eqN gW gW, .eqN gW gW, .eqN gW gW, .eqN gC gC, .eqN g1 g1, .eqN g2 g2, .eqN g3 g3, .eqN n1 a.length, .eqN
 n2 b.length, .eqN n3 c.length, .leN n1 65536, .leN n2 65536, .leN n3 65536, .eqN m X.length, .leN m 140737488000000, .eqN gW gW, .eqN gW gW, .eqN gW gW, .eqN gC gC, .eqN (X ++ jn3Law a b c).length (X ++ jn3Law a b c).length, .leN (X ++ jn3Law a b c).length 140737488000000, .p ((s == 3) = false)]) : OkR (nR39n a b c d z g1 g2 g3 g4 g5 n1 n2 n3 n4 n5 s X gC gW gB m owC) := OkR.dem (fl := bitsF 56
 31591168095551472) (by kernel_rfl) (by kernel_rfl) (by kernel_rfl) h
theorem nR39n_val {a : List Int} {b : List Int} {c : List Int} {d : List Int} {z : List Int} {g1 : Nat} {g2 : Nat} {g3 : Nat} {g4 : Nat} {g5 : Nat} {n1 : Nat} {n2 : Nat} {n3 : Nat} {n4 : Nat} {n5 : Nat} {s : Int} {X : List Int} {gC : Nat} {gW : Nat} {gB : Nat} {m : Nat} {owC : Bool} : (nR39n a b c d z g1 g2 g3 g4 g5 n1 n2 n3 n4 n5 s X gC gW gB m owC).val = .tuple [] := by kernel_rfl
theorem nR39n_tab {a : List Int} {b : List Int} {c : List Int} {d : List Int} {z : List Int} {g1 : Nat} {g2 : Nat} {g3 : Nat} {g4 : Nat} {g5 : Nat} {n1 : Nat} {n2 : Nat} {n3 : Nat} {n4 : Nat} {n5 : Nat} {s : Int} {X : List Int} {gC : Nat} {gW : Nat} {gB : Nat} {m : Nat} {owC : Bool} : (nR39n a b c d z g1 g2 g3 g4 g5 n1 n2 n3 n4 n5 s X gC gW gB m owC).tab = [some ⟨.agg [.slice 1 6 (gB + 1 + 1) 0 (X
 ++ jn3Law a b c ++ numLaw s 1).length none, .func (Fn.func 70) [] [.var 7 gC], .func (Fn.func 72) [] [.var 7 gC]], gW, true, 81⟩, some ⟨.ints .u8 a, g1, false, 5⟩, some ⟨.ints .u8 b, g2, false, 5⟩, some ⟨.ints .u8 c, g3, false, 5⟩, some ⟨.ints .u8 d, g4, false, 5⟩, some ⟨.ints .u8 z, g5, false, 5⟩, some ⟨.ints .u8 (X ++ jn3Law a b c ++ numLaw s 1), gB + 1 + 1, true, 5⟩, some ⟨.agg [.var 0 gW], gC,
 owC, 75⟩] := by kernel_rfl
noncomputable def nsm39c (args : List AVal) (T : Tab) (a : List Int) (b : List Int) (c : List Int) (d : List Int) (z : List Int) (g1 : Nat) (g2 : Nat) (g3 : Nat) (g4 : Nat) (g5 : Nat) (n1 : Nat) (n2 : Nat) (n3 : Nat) (n4 : Nat) (n5 : Nat) (s : Int) (X : List Int) (gC : Nat) (gW : Nat) (gB : Nat) (m : Nat) (owC : Bool) : Res := ⟨[.tab T [some ⟨.agg [.slice 1 6 gB 0 m none, .func (.func 70) [] [.var 7 gC], .func (.func 72) [] [.var 7 gC]], gW, true, 81⟩, some ⟨.ints .u8 a, g1, false, 5⟩, some ⟨.ints .u8 b, g2, false, 5⟩, some ⟨.ints .u8 c, g3, false, 5⟩, some ⟨.ints .u8 d, g4, false, 5⟩, some ⟨.ints .u8 z, g5, false, 5⟩, some ⟨.ints .u8 X, gB, true, 5⟩, some ⟨.agg [.var 0 gW], gC, owC, 75⟩], .val (.tuple args) (.tuple [.var 0 gW, .agg [.slice 1 1 g1 0 n1 none, .slice 1 2 g2 0 n2 none, .slice 1 3 g3 0 n3 none, .int .i64 s, .slice 1 4 g4 0 n4 none, .slice 1 5 g5 0 n5 none]]), .eqN n1 a.length, .eqN n2 b.length, .eqN n3 c.length, .eqN n4 d.length, .leN n1 65536, .leN n2 65536, .leN n3 65536, .leN n4 65536, .eqN m X.length, .leN m 140737480000000], .tuple [], [some ⟨.agg [.slice 1 6 (gB + bareGLaw s) 0 (X ++ bareLaw a b c s d).length none, .func (.func 70) [] [.var 7 gC], .func (.func 72) [] [.var 7 gC]], gW, true, 81⟩, some ⟨.ints .u8 a, g1, false, 5⟩, some ⟨.ints .u8 b, g2, false, 5⟩, some ⟨.ints .u8 c, g3, false, 5⟩, some ⟨.ints .u8 d, g4, false, 5⟩, some ⟨.ints .u8 z, g5, false, 5⟩, some ⟨.ints .u8 (X ++ bareLaw a b c s d), (gB + bareGLaw s), true, 5⟩, some ⟨.agg [.var 0 gW], gC, owC, 75⟩]⟩
theorem nsm39c_ok {args : List AVal} {T : Tab} {a : List Int} {b : List Int} {c : List Int} {d : List Int} {z : List Int} {g1 : Nat} {g2 : Nat} {g3 : Nat} {g4 : Nat} {g5 : Nat} {n1 : Nat} {n2 : Nat} {n3 : Nat} {n4 : Nat} {n5 : Nat} {s : Int} {X : List Int} {gC : Nat} {gW : Nat} {gB : Nat} {m : Nat} {owC : Bool} (h : allP (nsm39c args T a b c d z g1 g2 g3 g4 g5 n1 n2 n3 n4 n5 s X gC gW gB m owC).cs) : Small prog (fun _ => none) 39 args T (nsm39c args T a b c d z g1 g2 g3 g4 g5 n1 n2 n3 n4 n5 s X gC gW gB m owC).val (nsm39c args T a b c d z g1 g2 g3 g4 g5 n1 n2 n3 n4 n5 s X gC gW gB m owC).tab := by
  obtain ⟨hT, hv, h1, h2, h3, h4, h5, h6, h7, h8, h9, h10, _⟩ := h
  simp only [Con.h] at hT hv h1 h2 h3 h4 h5 h6 h7 h8 h9 h10
  injection hv with hv
  subst hT hv
  show Small prog (fun _ => none) 39 [.var 0 gW, .agg [.slice 1 1 g1 0 n1 none, .slice 1 2 g2 0 n2 none, .slice 1 3 g3 0 n3 none, .int .i64 s, .slice 1 4 g4 0 n4 none, .slice 1 5 g5 0 n5 none]] [some ⟨.agg [.slice 1 6 gB 0 m none, .func (.func 70) [] [.var 7 gC], .func (.func 72) [] [.var 7 gC]], gW, true, 81⟩, some ⟨.ints .u8 a, g1, false, 5⟩, some ⟨.ints .u8 b, g2, false, 5⟩, some ⟨.ints .u8 c, g3, false, 5⟩, some ⟨.ints .u8 d, g4, false, 5⟩, some ⟨.ints .u8 z, g5, false, 5⟩, some ⟨.ints .u8 X, gB, true, 5⟩, some ⟨.agg [.var 0 gW], gC, owC, 75⟩] (.tuple []) [some ⟨.agg [.slice 1 6 (gB + bareGLaw s) 0 (X ++ bareLaw a b c s d).length none, .func (.func 70) [] [.var 7 gC], .func (.func 72) [] [.var 7 gC]], gW, true, 81⟩, some ⟨.ints .u8 a, g1, false, 5⟩, some ⟨.ints .u8 b, g2, false, 5⟩, some ⟨.ints .u8 c, g3, false, 5⟩, some ⟨.ints .u8 d, g4, false, 5⟩, some ⟨.ints .u8 z, g5, false, 5⟩, some ⟨.ints .u8 (X ++ bareLaw a b c s d), (gB + bareGLaw s), true, 5⟩, some ⟨.agg [.var 0 gW], gC, owC, 75⟩]
  subst h1 h2 h3 h4 h9
  have hA := lenLaw_len (a.length : Int)
  have hB := lenLaw_len (b.length : Int)
  have hC := lenLaw_len (c.length : Int)
  have hj := jn3_len a b c
  have hN := num_len s 1
  by_cases hs : s = 3
  · rw [(bare3 a b c d hs).1, (bare3 a b c d hs).2]
    refine small_ofG (R := nR39y a b c d z g1 g2 g3 g4 g5 a.length b.length c.length d.length n5 s X gC gW gB X.length owC) eM5_ok hmN (f := 39) (fn := f39) (by kernel_rfl) (by kernel_rfl) FnOrc.nil rfl (nR39y_ok ?_) nR39y_val ?_
    · simp only [allP, Con.h, eq_self, true_and, and_true, beq_iff_eq, beq_eq_false_iff_ne, ne_eq, decide_eq_true_eq, decide_eq_false_iff_not, List.length_append]
      omega
    · rw [nR39y_tab]
      simp only [v1Law, List.take_length, List.append_assoc]
  · rw [(bareN a b c d hs).1, (bareN a b c d hs).2]
    refine small_ofG (R := nR39n a b c d z g1 g2 g3 g4 g5 a.length b.length c.length d.length n5 s X gC gW gB X.length owC) eM5_ok hmN (f := 39) (fn := f39) (by kernel_rfl) (by kernel_rfl) FnOrc.nil rfl (nR39n_ok ?_) nR39n_val ?_
    · simp only [allP, Con.h, eq_self, true_and, and_true, beq_iff_eq, beq_eq_false_iff_ne, ne_eq, decide_eq_true_eq, decide_eq_false_iff_not, List.length_append]
      omega
    · rw [nR39n_tab]
      simp only [List.append_assoc]
noncomputable def nsm39 : Summary := fun args T => nsm39c args T (xsAt T 1) (xsAt T 2) (xsAt T 3) (xsAt T 4) (xsAt T 5) (gAt T 1) (gAt T 2) (gAt T 3) (gAt T 4) (gAt T 5) (lenOf ((vAt args 1).get 0)) (lenOf ((vAt args 1).get 1)) (lenOf ((vAt args 1).get 2)) (lenOf ((vAt args 1).get 4)) (lenOf ((vAt args 1).get 5)) (iOf ((vAt args 1).get 3)) (xsAt T 6) (gAt T 7) (gAt T 0) (gAt T 6) (lenOf (cAt T 0 0)) (owAt T 7)
theorem nsm39_ok : SmOk prog (fun _ => none) 39 nsm39 := fun args T h => nsm39c_ok h
noncomputable def nS39 : Summary := callR nsm39 [true, false, false, false, false, false, true, false]
theorem nS39_ok : SumOk prog (fun _ => none) 39 nS39 := callR_ok nsm39_ok _
noncomputable def eM6 : Env := eN0 [(37, nS37), (38, nS38), (39, nS39), (70, nS70), (72, nS72)]
theorem eM6_ok : EnvOk eM6 := envOf_ok tysN_ok (SumsOk.cons (fn := f37) nS37_ok (by kernel_rfl) (by kernel_rfl) (by kernel_rfl) (SumsOk.cons (fn := f38) nS38_ok (by kernel_rfl) (by kernel_rfl) (by kernel_rfl) (SumsOk.cons (fn := f39) nS39_ok (by kernel_rfl) (by kernel_rfl) (by kernel_rfl) (SumsOk.cons (fn := f70) nS70_ok (by kernel_rfl) (by kernel_rfl) (by kernel_rfl) (SumsOk.cons (fn := f72) nS72_ok (by kernel_rfl) (by kernel_rfl) (by kernel_rfl) trivial)))))
noncomputable def psN2 : List (Nat × Summary) := [(37, nP37)]
theorem psN2_ok : PsOk prog (fun _ => none) psN2 := (PsOk.cons (fn := f37) nP37_ok (by kernel_rfl) (by kernel_rfl) (by kernel_rfl) PsOk.nil)
noncomputable def nR11g (a b c d z : List Int) (g1 g2 g3 g4 g5 n1 n2 n3 n4 n5 : Nat) (s : Int) : Res := resG 5 [0, 1, 2, 3, 4, 8] (fnRunD eM6 psN2 f11 [] 400 none 36 28 [.agg [.slice 1 0 g1 0 n1 none, .slice 1 1 g2 0 n2 none, .slice 1 2 g3 0 n3 none, .int .i64 s, .slice 1 3 g4 0 n4 none, .slice 1 4 g5 0 n5 none]] [some ⟨.ints .u8 a, g1, false, 5⟩, some ⟨.ints .u8 b, g2, false, 5⟩, some ⟨.ints .u8 c, g3, false, 5⟩, some ⟨.ints .u8 d, g4, false, 5⟩, some ⟨.ints .u8 z, g5, false, 5⟩] [])
theorem nR11g_ok {a b c d z : List Int} {g1 g2 g3 g4 g5 n1 n2 n3 n4 n5 : Nat} {s : Int} (h : allP [.eqN g1 g1, .eqN g2 g2, .eqN g3 g3, .eqN g4 g4, .eqN g5 g5, .p (n1 = 32 ∧ n2 = 32 ∧ n5 = 64 ∧ 1 ≤ n3 ∧ n3 ≤ 64 ∧ 1 ≤ s ∧ s ≤ 3 ∧ (n4 = 0 ∨ n4 = 32 ∧ s = 3)), .eqN g1 g1, .eqN g2 g2, .eqN g3 g3, .eqN g4 g4, .eqN g5 g5, .eqN n1 a.length, .eqN n2 b.length, .eqN n3 c.length, .eqN n4 d.length, .leN n1
 65536, .leN n2 65536, .leN n3 65536, .leN n4 65536, .eqN g5 g5, .leN n5 z.length, .leN n5 65536, .eqN ([] ++ bareLaw a b c s d).length ([] ++ bareLaw a b c s d).length, .leN ([] ++ bareLaw a b c s d).length 140737488000000]) : OkR (nR11g a b c d z g1 g2 g3 g4 g5 n1 n2 n3 n4 n5 s) := OkR.dem (fl := bitsF 64 18428791242483052547) (by kernel_rfl) (by kernel_rfl) (by kernel_rfl) h
theorem nR11g_val {a b c d z : List Int} {g1 g2 g3 g4 g5 n1 n2 n3 n4 n5 : Nat} {s : Int} : (nR11g a b c d z g1 g2 g3 g4 g5 n1 n2 n3 n4 n5 s).val = .tuple [.slice 1 5 (0 + bareGLaw s + 1) 0 ([] ++ bareLaw a b c s d ++ v1Law n5 z).length none, .int .i64 0] := by kernel_rfl
theorem nR11g_tab {a b c d z : List Int} {g1 g2 g3 g4 g5 n1 n2 n3 n4 n5 : Nat} {s : Int} : (nR11g a b c d z g1 g2 g3 g4 g5 n1 n2 n3 n4 n5 s).tab = [some ⟨.ints .u8 a, g1, false, 5⟩, some ⟨.ints .u8 b, g2, false, 5⟩, some ⟨.ints .u8 c, g3, false, 5⟩, some ⟨.ints .u8 d, g4, false, 5⟩, some ⟨.ints .u8 z, g5, false, 5⟩, some ⟨.ints .u8 ([] ++ bareLaw a b c s d ++ v1Law n5 z), 0 + bareGLaw s + 1, true,
 5⟩] := by kernel_rfl
noncomputable def nR11b (a b c d z : List Int) (g1 g2 g3 g4 g5 n1 n2 n3 n4 n5 : Nat) (s : Int) : Res := resG 5 [0, 1, 2, 3, 4] (fnRunD eM6 psN2 f11 [] 400 (some 0) 36 28 [.agg [.slice 1 0 g1 0 n1 none, .slice 1 1 g2 0 n2 none, .slice 1 2 g3 0 n3 none, .int .i64 s, .slice 1 3 g4 0 n4 none, .slice 1 4 g5 0 n5 none]] [some ⟨.ints .u8 a, g1, false, 5⟩, some ⟨.ints .u8 b, g2, false, 5⟩, some ⟨.ints .u8 c, g3, false, 5⟩, some ⟨.ints .u8 d, g4, false, 5⟩, some ⟨.ints .u8 z, g5, false, 5⟩] [])
theorem nR11b_ok {a b c d z : List Int} {g1 g2 g3 g4 g5 n1 n2 n3 n4 n5 : Nat} {s : Int} (h : allP [.eqN g1 g1, .eqN g2 g2, .eqN g3 g3, .eqN g4 g4, .eqN g5 g5, .p ¬(n1 = 32 ∧ n2 = 32 ∧ n5 = 64 ∧ 1 ≤ n3 ∧ n3 ≤ 64 ∧ 1 ≤ s ∧ s ≤ 3 ∧ (n4 = 0 ∨ n4 = 32 ∧ s = 3))]) : OkR (nR11b a b c d z g1 g2 g3 g4 g5 n1 n2 n3 n4 n5 s) := OkR.dem (fl := bitsF 16 64515) (by kernel_rfl) (by kernel_rfl) (by kernel_rfl) h
theorem nR11b_val {a b c d z : List Int} {g1 g2 g3 g4 g5 n1 n2 n3 n4 n5 : Nat} {s : Int} : (nR11b a b c d z g1 g2 g3 g4 g5 n1 n2 n3 n4 n5 s).val = .tuple [.nilSlice, .int .i64 1] := by kernel_rfl
theorem nR11b_tab {a b c d z : List Int} {g1 g2 g3 g4 g5 n1 n2 n3 n4 n5 : Nat} {s : Int} : (nR11b a b c d z g1 g2 g3 g4 g5 n1 n2 n3 n4 n5 s).tab = [some ⟨.ints .u8 a, g1, false, 5⟩, some ⟨.ints .u8 b, g2, false, 5⟩, some ⟨.ints .u8 c, g3, false, 5⟩, some ⟨.ints .u8 d, g4, false, 5⟩, some ⟨.ints .u8 z, g5, false, 5⟩] := by kernel_rfl
def RightL (a b c : List Int) (s : Int) (d z : List Int) : Prop := RightN a.length b.length c.length s d.length z.length
instance (a b c : List Int) (s : Int) (d z : List Int) : Decidable (RightL a b c s d z) := by unfold RightL; exact inferInstance
def leafBLaw (a b c : List Int) (s : Int) (d z : List Int) : List Int := if RightL a b c s d z then bareLaw a b c s d ++ vec1Law z else []
def leafELaw (a b c : List Int) (s : Int) (d z : List Int) : Int := if RightL a b c s d z then 0 else 1
def leafGLaw (a b c : List Int) (s : Int) (d z : List Int) : Nat := if RightL a b c s d z then bareGLaw s + 1 else 0
theorem leaf_in {a b c : List Int} {s : Int} {d z : List Int} (h : RightL a b c s d z) : leafBLaw a b c s d z = bareLaw a b c s d ++ vec1Law z ∧ leafELaw a b c s d z = 0 ∧ leafGLaw a b c s d z = bareGLaw s + 1 := by unfold leafBLaw leafELaw leafGLaw; rw [if_pos h, if_pos h, if_pos h]; exact ⟨rfl, rfl, rfl⟩
theorem leaf_out {a b c : List Int} {s : Int} {d z : List Int} (h : ¬ RightL a b c s d z) : leafBLaw a b c s d z = [] ∧ leafELaw a b c s d z = 1 ∧ leafGLaw a b c s d z = 0 := by unfold leafBLaw leafELaw leafGLaw; rw [if_neg h, if_neg h, if_neg h]; exact ⟨rfl, rfl, rfl⟩
theorem bare_len (a b c : List Int) (s : Int) (d : List Int) : (bareLaw a b c s d).length ≤ a.length + b.length + c.length + d.length + 24 := by
  have hA := lenLaw_len (a.length : Int)
  have hB := lenLaw_len (b.length : Int)
  have hC := lenLaw_len (c.length : Int)
  have hD := lenLaw_len (d.length : Int)
  have hN := num_len s 1
  have hj := jn3_len a b c
  unfold bareLaw
  split
  · unfold vec1Law
    simp only [List.length_append]
    omega
  · simp only [List.length_append, List.length_nil]
    omega
noncomputable def nsm11c (args : List AVal) (T : Tab) (a : List Int) (b : List Int) (c : List Int) (d : List Int) (z : List Int) (g1 : Nat) (g2 : Nat) (g3 : Nat) (g4 : Nat) (g5 : Nat) (n1 : Nat) (n2 : Nat) (n3 : Nat) (n4 : Nat) (n5 : Nat) (s : Int) : Res := ⟨[.tab T [some ⟨.ints .u8 a, g1, false, 5⟩, some ⟨.ints .u8 b, g2, false, 5⟩, some ⟨.ints .u8 c, g3, false, 5⟩, some ⟨.ints .u8 d, g4, false, 5⟩, some ⟨.ints .u8 z, g5, false, 5⟩], .val (.tuple args) (.tuple [.agg [.slice 1 0 g1 0 n1 none, .slice 1 1 g2 0 n2 none, .slice 1 2 g3 0 n3 none, .int .i64 s, .slice 1 3 g4 0 n4 none, .slice 1 4 g5 0 n5 none]]), .eqN n1 a.length, .eqN n2 b.length, .eqN n3 c.length, .eqN n4 d.length, .eqN n5 z.length], .tuple [.slice 1 5 (leafGLaw a b c s d z) 0 (leafBLaw a b c s d z).length none, .int .i64 (leafELaw a b c s d z)], [some ⟨.ints .u8 a, g1, false, 5⟩, some ⟨.ints .u8 b, g2, false, 5⟩, some ⟨.ints .u8 c, g3, false, 5⟩, some ⟨.ints .u8 d, g4, false, 5⟩, some ⟨.ints .u8 z, g5, false, 5⟩, some ⟨.ints .u8 (leafBLaw a b c s d z), (leafGLaw a b c s d z), true, 5⟩]⟩
theorem nsm11c_ok {args : List AVal} {T : Tab} {a : List Int} {b : List Int} {c : List Int} {d : List Int} {z : List Int} {g1 : Nat} {g2 : Nat} {g3 : Nat} {g4 : Nat} {g5 : Nat} {n1 : Nat} {n2 : Nat} {n3 : Nat} {n4 : Nat} {n5 : Nat} {s : Int} (h : allP (nsm11c args T a b c d z g1 g2 g3 g4 g5 n1 n2 n3 n4 n5 s).cs) : Small prog (fun _ => none) 11 args T (nsm11c args T a b c d z g1 g2 g3 g4 g5 n1 n2 n3 n4 n5 s).val (nsm11c args T a b c d z g1 g2 g3 g4 g5 n1 n2 n3 n4 n5 s).tab := by
  obtain ⟨hT, hv, h1, h2, h3, h4, h5, _⟩ := h
  simp only [Con.h] at hT hv h1 h2 h3 h4 h5
  injection hv with hv
  subst hT hv
  show Small prog (fun _ => none) 11 [.agg [.slice 1 0 g1 0 n1 none, .slice 1 1 g2 0 n2 none, .slice 1 2 g3 0 n3 none, .int .i64 s, .slice 1 3 g4 0 n4 none, .slice 1 4 g5 0 n5 none]] [some ⟨.ints .u8 a, g1, false, 5⟩, some ⟨.ints .u8 b, g2, false, 5⟩, some ⟨.ints .u8 c, g3, false, 5⟩, some ⟨.ints .u8 d, g4, false, 5⟩, some ⟨.ints .u8 z, g5, false, 5⟩] (.tuple [.slice 1 5 (leafGLaw a b c s d z) 0 (leafBLaw a b c s d z).length none, .int .i64 (leafELaw a b c s d z)]) [some ⟨.ints .u8 a, g1, false, 5⟩, some ⟨.ints .u8 b, g2, false, 5⟩, some ⟨.ints .u8 c, g3, false, 5⟩, some ⟨.ints .u8 d, g4, false, 5⟩, some ⟨.ints .u8 z, g5, false, 5⟩, some ⟨.ints .u8 (leafBLaw a b c s d z), (leafGLaw a b c s d z), true, 5⟩]
  subst h1 h2 h3 h4 h5
  by_cases hR : RightL a b c s d z
  · rw [(leaf_in hR).1, (leaf_in hR).2.1, (leaf_in hR).2.2]
    have hR' := hR
    obtain ⟨q1, q2, q3, q4, q5, q6, q7, q8⟩ := hR'
    have hb := bare_len a b c s d
    have e : 0 + bareGLaw s + 1 = bareGLaw s + 1 := by omega
    refine small_ofDG (R := nR11g a b c d z g1 g2 g3 g4 g5 a.length b.length c.length d.length z.length s) eM6_ok hmN psN2_ok (f := 11) (fn := f11) (by kernel_rfl) (by kernel_rfl) FnOrc.nil (gfn := f36) (by kernel_rfl) (by kernel_rfl) (by kernel_rfl) caughtN rfl (nR11g_ok ?_) ?_ ?_
    · simp only [allP, Con.h, eq_self, true_and, and_true, beq_iff_eq, beq_eq_false_iff_ne, ne_eq, decide_eq_true_eq, decide_eq_false_iff_not, List.nil_append]
      omega
    · rw [nR11g_val, e]
      simp only [v1Law, List.take_length, List.nil_append]
    · rw [nR11g_tab, e]
      simp only [v1Law, List.take_length, List.nil_append]
  · rw [(leaf_out hR).1, (leaf_out hR).2.1, (leaf_out hR).2.2]
    exact small_nil2 .u8 5 (.inr rfl) (small_ofDG (R := nR11b a b c d z g1 g2 g3 g4 g5 a.length b.length c.length d.length z.length s) eM6_ok hmN psN2_ok (f := 11) (fn := f11) (by kernel_rfl) (by kernel_rfl) FnOrc.nil (gfn := f36) (by kernel_rfl) (by kernel_rfl) (by kernel_rfl) caughtN rfl (nR11b_ok (by
      simp only [allP, Con.h, eq_self, true_and, and_true, beq_iff_eq, beq_eq_false_iff_ne, ne_eq, decide_eq_true_eq, decide_eq_false_iff_not]
      exact hR)) nR11b_val nR11b_tab) (by simp)
noncomputable def nsm11 : Summary := fun args T => nsm11c args T (xsAt T 0) (xsAt T 1) (xsAt T 2) (xsAt T 3) (xsAt T 4) (gAt T 0) (gAt T 1) (gAt T 2) (gAt T 3) (gAt T 4) (lenOf ((vAt args 0).get 0)) (lenOf ((vAt args 0).get 1)) (lenOf ((vAt args 0).get 2)) (lenOf ((vAt args 0).get 4)) (lenOf ((vAt args 0).get 5)) (iOf ((vAt args 0).get 3))
theorem nsm11_ok : SmOk prog (fun _ => none) 11 nsm11 := fun args T h => nsm11c_ok h
noncomputable def nS11 : Summary := callR nsm11 []
theorem nS11_ok : SumOk prog (fun _ => none) 11 nS11 := callR_ok nsm11_ok _
end Go.Abs

set_option linter.unusedVariables false
set_option linter.unusedSimpArgs false
set_option maxRecDepth 100000
set_option maxHeartbeats 4000000
namespace Go.Abs
open Go.Proofs Go.Proofs.Try
theorem num1 {s : Int} (h : 0 ≤ s) (h2 : s < 256) : numLaw s 1 = [s % 256] := by
  rw [(num_in (n := s) (size := 1) (by decide) ⟨h, h2⟩).1]
  have e : beLaw s (Int.toNat 1) = [s / 1 % 256] := by kernel_rfl
  rw [e, Int.ediv_one]
end Go.Abs

set_option linter.unusedVariables false
set_option linter.unusedSimpArgs false
set_option maxRecDepth 100000
set_option maxHeartbeats 4000000
namespace Go.Abs
open Go.Proofs Go.Proofs.Try
end Go.Abs

set_option linter.unusedVariables false
set_option linter.unusedSimpArgs false
set_option maxRecDepth 100000
set_option maxHeartbeats 4000000
namespace Go.Abs
open Go.Proofs Go.Proofs.Try
end Go.Abs

set_option linter.unusedVariables false
set_option linter.unusedSimpArgs false
set_option maxRecDepth 100000
set_option maxHeartbeats 4000000
namespace Go.Abs
open Go.Proofs Go.Proofs.Try
end Go.Abs

set_option linter.unusedVariables false
set_option linter.unusedSimpArgs false
set_option maxRecDepth 100000
set_option maxHeartbeats 4000000
namespace Go.Abs
open Go.Proofs Go.Proofs.Try
end Go.Abs

set_option linter.unusedVariables false
set_option linter.unusedSimpArgs false
set_option maxRecDepth 100000
set_option maxHeartbeats 4000000
namespace Go.Abs
open Go.Proofs Go.Proofs.Try
end Go.Abs

set_option linter.unusedVariables false
set_option linter.unusedSimpArgs false
set_option maxRecDepth 100000
set_option maxHeartbeats 4000000
namespace Go.Abs
open Go.Proofs Go.Proofs.Try
theorem lenLaw_by (n : Int) : ∀ c ∈ lenLaw n, 0 ≤ c ∧ c < 256 := by
  intro c hc
  unfold lenLaw at hc
  split at hc
  · cases hc
  split at hc
  · simp at hc; omega
  split at hc
  · simp at hc; omega
  · simp at hc; omega
theorem by_mem {C : List Int} (h : ∀ c ∈ C, 0 ≤ c ∧ c < 256) : ByLaw C := fun i => by
  rw [List.getD_eq_getElem?_getD]
  rcases Nat.lt_or_ge i C.length with hi | hi
  · rw [List.getElem?_eq_getElem hi]; exact h _ (List.getElem_mem hi)
  · rw [List.getElem?_eq_none hi]; exact ⟨Int.le_refl 0, by decide⟩
end Go.Abs

set_option linter.unusedVariables false
set_option linter.unusedSimpArgs false
set_option maxRecDepth 100000
set_option maxHeartbeats 4000000
namespace Go.Abs
open Go.Proofs Go.Proofs.Try
/-! ### a leaf, read -/
def s1O (B : List Int) (off : Nat) (e : Int) : Nat := rvOLaw B off e
def s1E (B : List Int) (off : Nat) (e : Int) : Int := rvELaw B off e
def s2O (B : List Int) (off : Nat) (e : Int) : Nat := rvOLaw B (s1O B off e) (s1E B off e)
def s2E (B : List Int) (off : Nat) (e : Int) : Int := rvELaw B (s1O B off e) (s1E B off e)
def s3O (B : List Int) (off : Nat) (e : Int) : Nat := rvOLaw B (s2O B off e) (s2E B off e)
def s3E (B : List Int) (off : Nat) (e : Int) : Int := rvELaw B (s2O B off e) (s2E B off e)
def s4O (B : List Int) (off : Nat) (e : Int) : Nat := rnOLaw B (s3O B off e) (s3E B off e) 1
def s4E (B : List Int) (off : Nat) (e : Int) : Int := rnELaw B (s3O B off e) (s3E B off e) 1
def lfALaw (B : List Int) (off : Nat) (e : Int) : List Int := rvVLaw B off e
def lfBLaw (B : List Int) (off : Nat) (e : Int) : List Int := rvVLaw B (s1O B off e) (s1E B off e)
def lfCLaw (B : List Int) (off : Nat) (e : Int) : List Int := rvVLaw B (s2O B off e) (s2E B off e)
def lfSLaw (B : List Int) (off : Nat) (e : Int) : Int := rnVLaw B (s3O B off e) (s3E B off e) 1
def lfDLaw (B : List Int) (off : Nat) (e : Int) : List Int := if lfSLaw B off e = 3 then rvVLaw B (s4O B off e) (s4E B off e) else []
def s5O (B : List Int) (off : Nat) (e : Int) : Nat := if lfSLaw B off e = 3 then rvOLaw B (s4O B off e) (s4E B off e) else s4O B off e
def s5E (B : List Int) (off : Nat) (e : Int) : Int := if lfSLaw B off e = 3 then rvELaw B (s4O B off e) (s4E B off e) else s4E B off e
def lfZLaw (B : List Int) (off : Nat) (e : Int) : List Int := rvVLaw B (s5O B off e) (s5E B off e)
def lfOLaw (B : List Int) (off : Nat) (e : Int) : Nat := rvOLaw B (s5O B off e) (s5E B off e)
def lfELaw (B : List Int) (off : Nat) (e : Int) : Int := rvELaw B (s5O B off e) (s5E B off e)
theorem lf_off {B : List Int} {off : Nat} (h : off ≤ B.length) (e : Int) : lfOLaw B off e ≤ B.length := by
  have k1 : s1O B off e ≤ B.length := (rv_off h e).2
  have k2 : s2O B off e ≤ B.length := (rv_off k1 _).2
  have k3 : s3O B off e ≤ B.length := (rv_off k2 _).2
  have k4 : s4O B off e ≤ B.length := (rn_off k3 _ 1).2
  have k5 : s5O B off e ≤ B.length := by
    unfold s5O
    split
    · exact (rv_off k4 _).2
    · exact k4
  exact (rv_off k5 _).2
/-- nothing, within a value, told as a slice of an empty object -/
theorem small_nilA {P : Program} {gl : Nat → Option AVal} {f : FuncId} {args : List AVal} {T0 T1 : Tab} {vs : List AVal} (j : Nat) (gg : Nat) (h : Small P gl f args T0 (.agg vs) T1) (hj : vs[j]? = some .nilSlice) :
    Small P gl f args T0 (.agg (vs.set j (.slice 1 T1.length gg 0 0 none))) (T1 ++ [some ⟨.ints .u8 [], gg, true, 5⟩]) := by
  intro ν w xs hr hvs
  refine (h ν w xs hr hvs).mono ?_
  rintro e w' ⟨x, ν', rfl, h1, h2, h3, h4⟩
  obtain ⟨l0, g1, g2, g3, g4, g5⟩ := h2.pushEmptyG .u8 5 gg
  refine ⟨x, upd ν' T1.length l0, rfl, ?_, g3, h3.trans (g4.b _), h4.sub g5⟩
  have h1' := h1.mono g4
  cases h1' with
  | agg e1 e2 =>
    have hd : vs.getD j un = .nilSlice := by simp [List.getD, hj]
    have hv := VRs.set1 (v := .slice 1 T1.length gg 0 0 none) (j := j) (⟨by rw [Array.length_toList]; exact e1, fun i hi => by simpa using e2 i hi⟩ : VRs (upd ν' T1.length l0) vs _) (fun y hy => by
      rw [hd] at hy
      cases hy
      exact .sliceZ none (upd_same _ _ _) g1.symm (.inr ⟨rfl, by rw [g2]; exact Nat.le_refl _⟩))
    exact .agg (by simpa using hv.1) (fun i hi => by simpa using hv.2 i hi)
noncomputable def eL1 : Env := eN0 [(52, S29r), (54, S25r)]
theorem eL1_ok : EnvOk eL1 := envOf_ok tysN_ok (SumsOk.cons (fn := f52) S29r_ok (by kernel_rfl) (by kernel_rfl) (by kernel_rfl) (SumsOk.cons (fn := f54) S25r_ok (by kernel_rfl) (by kernel_rfl) (by kernel_rfl) trivial))
noncomputable def nR44y (B : List Int) (g : Nat) (gR : Nat) (off : Nat) (n : Nat) (e : Int) : Res := resG 2 [0, 1, 4, 5, 6, 8, 7] (runF eL1 f44 [] 400 [.var 0 gR] [some ⟨.agg [.slice 1 1 g off n none, .int .i64 e, .bool true], gR, true, 115⟩, some ⟨.ints .u8 B, g, false, 5⟩] [some true])
theorem nR44y_ok {B : List Int} {g : Nat} {gR : Nat} {off : Nat} {n : Nat} {e : Int} (h : allP [.eqN g g, .eqN n (B.length - off), .leN off B.length, .p (ByLaw B), .leN B.length 140737488355000, .eqN g g, .eqN (B.length - rvOLaw B off e) (B.length - rvOLaw B off e), .leN (rvOLaw B off e) B.length, .p (ByLaw B), .leN B.length 140737488355000, .eqN g g, .eqN (B.length - rvOLaw B (rvOLaw B off e)
 (rvELaw B off e)) (B.length - rvOLaw B (rvOLaw B off e) (rvELaw B off e)), .leN (rvOLaw B (rvOLaw B off e) (rvELaw B off e)) B.length, .p (ByLaw B), .leN B.length 140737488355000, .eqN g g, .eqN (B.length - rvOLaw B (rvOLaw B (rvOLaw B off e) (rvELaw B off e)) (rvELaw B (rvOLaw B off e) (rvELaw B off e))) (B.length - rvOLaw B (rvOLaw B (rvOLaw B off e) (rvELaw B off e)) (rvELaw B (rvOLaw B off e)
 (rvELaw B off e))), .leN (rvOLaw B (rvOLaw B (rvOLaw B off e) (rvELaw B off e)) (rvELaw B (rvOLaw B off e) (rvELaw B off e))) B.length, .p (ByLaw B), .p ((rnVLaw B (rvOLaw B (rvOLaw B (rvOLaw B off e) (rvELaw B off e)) (rvELaw B (rvOLaw B off e) (rvELaw B off e))) (rvELaw B (rvOLaw B (rvOLaw B off e) (rvELaw B off e)) (rvELaw B (rvOLaw B off e) (rvELaw B off e))) 1 == 3) = true), .eqN g g, .eqN
 (B.length - rnOLaw B (rvOLaw B (rvOLaw B (rvOLaw B off e) (rvELaw B off e)) (rvELaw B (rvOLaw B off e) (rvELaw B off e))) (rvELaw B (rvOLaw B (rvOLaw B off e) (rvELaw B off e)) (rvELaw B (rvOLaw B off e) (rvELaw B off e))) 1) (B.length - rnOLaw B (rvOLaw B (rvOLaw B (rvOLaw B off e) (rvELaw B off e)) (rvELaw B (rvOLaw B off e) (rvELaw B off e))) (rvELaw B (rvOLaw B (rvOLaw B off e) (rvELaw B off
 e)) (rvELaw B (rvOLaw B off e) (rvELaw B off e))) 1), .leN (rnOLaw B (rvOLaw B (rvOLaw B (rvOLaw B off e) (rvELaw B off e)) (rvELaw B (rvOLaw B off e) (rvELaw B off e))) (rvELaw B (rvOLaw B (rvOLaw B off e) (rvELaw B off e)) (rvELaw B (rvOLaw B off e) (rvELaw B off e))) 1) B.length, .p (ByLaw B), .leN B.length 140737488355000, .eqN g g, .eqN (B.length - rvOLaw B (rnOLaw B (rvOLaw B (rvOLaw B
 (rvOLaw B off e) (rvELaw B off e)) (rvELaw B (rvOLaw B off e) (rvELaw B off e))) (rvELaw B (rvOLaw B (rvOLaw B off e) (rvELaw B off e)) (rvELaw B (rvOLaw B off e) (rvELaw B off e))) 1) (rnELaw B (rvOLaw B (rvOLaw B (rvOLaw B off e) (rvELaw B off e)) (rvELaw B (rvOLaw B off e) (rvELaw B off e))) (rvELaw B (rvOLaw B (rvOLaw B off e) (rvELaw B off e)) (rvELaw B (rvOLaw B off e) (rvELaw B off e))) 1))
 (B.length - rvOLaw B (rnOLaw B (rvOLaw B (rvOLaw B (rvOLaw B off e) (rvELaw B off e)) (rvELaw B (rvOLaw B off e) (rvELaw B off e))) (rvELaw B (rvOLaw B (rvOLaw B off e) (rvELaw B off e)) (rvELaw B (rvOLaw B off e) (rvELaw B off e))) 1) (rnELaw B (rvOLaw B (rvOLaw B (rvOLaw B off e) (rvELaw B off e)) (rvELaw B (rvOLaw B off e) (rvELaw B off e))) (rvELaw B (rvOLaw B (rvOLaw B off e) (rvELaw B off e))
 (rvELaw B (rvOLaw B off e) (rvELaw B off e))) 1)), .leN (rvOLaw B (rnOLaw B (rvOLaw B (rvOLaw B (rvOLaw B off e) (rvELaw B off e)) (rvELaw B (rvOLaw B off e) (rvELaw B off e))) (rvELaw B (rvOLaw B (rvOLaw B off e) (rvELaw B off e)) (rvELaw B (rvOLaw B off e) (rvELaw B off e))) 1) (rnELaw B (rvOLaw B (rvOLaw B (rvOLaw B off e) (rvELaw B off e)) (rvELaw B (rvOLaw B off e) (rvELaw B off e))) (rvELaw B
 (rvOLaw B (rvOLaw B off e) (rvELaw B off e)) (rvELaw B (rvOLaw B off e) (rvELaw B off e))) 1)) B.length, .p (ByLaw B), .leN B.length 140737488355000]) : OkR (nR44y B g gR off n e) := OkR.dem (fl := bitsF 75 37774355084233758736384) (by kernel_rfl) (by kernel_rfl) (by kernel_rfl) h
theorem nR44y_val {B : List Int} {g : Nat} {gR : Nat} {off : Nat} {n : Nat} {e : Int} : (nR44y B g gR off n e).val = .agg [.slice 1 2 1 0 (rvVLaw B off e).length none, .slice 1 3 1 0 (rvVLaw B (rvOLaw B off e) (rvELaw B off e)).length none, .slice 1 4 1 0 (rvVLaw B (rvOLaw B (rvOLaw B off e) (rvELaw B off e)) (rvELaw B (rvOLaw B off e) (rvELaw B off e))).length none, .int .i64 (rnVLaw B (rvOLaw B
 (rvOLaw B (rvOLaw B off e) (rvELaw B off e)) (rvELaw B (rvOLaw B off e) (rvELaw B off e))) (rvELaw B (rvOLaw B (rvOLaw B off e) (rvELaw B off e)) (rvELaw B (rvOLaw B off e) (rvELaw B off e))) 1), .slice 1 6 1 0 (rvVLaw B (rnOLaw B (rvOLaw B (rvOLaw B (rvOLaw B off e) (rvELaw B off e)) (rvELaw B (rvOLaw B off e) (rvELaw B off e))) (rvELaw B (rvOLaw B (rvOLaw B off e) (rvELaw B off e)) (rvELaw B
 (rvOLaw B off e) (rvELaw B off e))) 1) (rnELaw B (rvOLaw B (rvOLaw B (rvOLaw B off e) (rvELaw B off e)) (rvELaw B (rvOLaw B off e) (rvELaw B off e))) (rvELaw B (rvOLaw B (rvOLaw B off e) (rvELaw B off e)) (rvELaw B (rvOLaw B off e) (rvELaw B off e))) 1)).length none, .slice 1 5 1 0 (rvVLaw B (rvOLaw B (rnOLaw B (rvOLaw B (rvOLaw B (rvOLaw B off e) (rvELaw B off e)) (rvELaw B (rvOLaw B off e)
 (rvELaw B off e))) (rvELaw B (rvOLaw B (rvOLaw B off e) (rvELaw B off e)) (rvELaw B (rvOLaw B off e) (rvELaw B off e))) 1) (rnELaw B (rvOLaw B (rvOLaw B (rvOLaw B off e) (rvELaw B off e)) (rvELaw B (rvOLaw B off e) (rvELaw B off e))) (rvELaw B (rvOLaw B (rvOLaw B off e) (rvELaw B off e)) (rvELaw B (rvOLaw B off e) (rvELaw B off e))) 1)) (rvELaw B (rnOLaw B (rvOLaw B (rvOLaw B (rvOLaw B off e)
 (rvELaw B off e)) (rvELaw B (rvOLaw B off e) (rvELaw B off e))) (rvELaw B (rvOLaw B (rvOLaw B off e) (rvELaw B off e)) (rvELaw B (rvOLaw B off e) (rvELaw B off e))) 1) (rnELaw B (rvOLaw B (rvOLaw B (rvOLaw B off e) (rvELaw B off e)) (rvELaw B (rvOLaw B off e) (rvELaw B off e))) (rvELaw B (rvOLaw B (rvOLaw B off e) (rvELaw B off e)) (rvELaw B (rvOLaw B off e) (rvELaw B off e))) 1))).length none] :=
 by kernel_rfl
theorem nR44y_tab {B : List Int} {g : Nat} {gR : Nat} {off : Nat} {n : Nat} {e : Int} : (nR44y B g gR off n e).tab = [some ⟨.agg [.slice 1 1 g (rvOLaw B (rvOLaw B (rnOLaw B (rvOLaw B (rvOLaw B (rvOLaw B off e) (rvELaw B off e)) (rvELaw B (rvOLaw B off e) (rvELaw B off e))) (rvELaw B (rvOLaw B (rvOLaw B off e) (rvELaw B off e)) (rvELaw B (rvOLaw B off e) (rvELaw B off e))) 1) (rnELaw B (rvOLaw B
 (rvOLaw B (rvOLaw B off e) (rvELaw B off e)) (rvELaw B (rvOLaw B off e) (rvELaw B off e))) (rvELaw B (rvOLaw B (rvOLaw B off e) (rvELaw B off e)) (rvELaw B (rvOLaw B off e) (rvELaw B off e))) 1)) (rvELaw B (rnOLaw B (rvOLaw B (rvOLaw B (rvOLaw B off e) (rvELaw B off e)) (rvELaw B (rvOLaw B off e) (rvELaw B off e))) (rvELaw B (rvOLaw B (rvOLaw B off e) (rvELaw B off e)) (rvELaw B (rvOLaw B off e)
 (rvELaw B off e))) 1) (rnELaw B (rvOLaw B (rvOLaw B (rvOLaw B off e) (rvELaw B off e)) (rvELaw B (rvOLaw B off e) (rvELaw B off e))) (rvELaw B (rvOLaw B (rvOLaw B off e) (rvELaw B off e)) (rvELaw B (rvOLaw B off e) (rvELaw B off e))) 1))) (B.length - rvOLaw B (rvOLaw B (rnOLaw B (rvOLaw B (rvOLaw B (rvOLaw B off e) (rvELaw B off e)) (rvELaw B (rvOLaw B off e) (rvELaw B off e))) (rvELaw B (rvOLaw B
 (rvOLaw B off e) (rvELaw B off e)) (rvELaw B (rvOLaw B off e) (rvELaw B off e))) 1) (rnELaw B (rvOLaw B (rvOLaw B (rvOLaw B off e) (rvELaw B off e)) (rvELaw B (rvOLaw B off e) (rvELaw B off e))) (rvELaw B (rvOLaw B (rvOLaw B off e) (rvELaw B off e)) (rvELaw B (rvOLaw B off e) (rvELaw B off e))) 1)) (rvELaw B (rnOLaw B (rvOLaw B (rvOLaw B (rvOLaw B off e) (rvELaw B off e)) (rvELaw B (rvOLaw B off e)
 (rvELaw B off e))) (rvELaw B (rvOLaw B (rvOLaw B off e) (rvELaw B off e)) (rvELaw B (rvOLaw B off e) (rvELaw B off e))) 1) (rnELaw B (rvOLaw B (rvOLaw B (rvOLaw B off e) (rvELaw B off e)) (rvELaw B (rvOLaw B off e) (rvELaw B off e))) (rvELaw B (rvOLaw B (rvOLaw B off e) (rvELaw B off e)) (rvELaw B (rvOLaw B off e) (rvELaw B off e))) 1))) none, .int .i64 (rvELaw B (rvOLaw B (rnOLaw B (rvOLaw B
 (rvOLaw B (rvOLaw B off e) (rvELaw B off e)) (rvELaw B (rvOLaw B off e) (rvELaw B off e))) (rvELaw B (rvOLaw B (rvOLaw B off e) (rvELaw B off e)) (rvELaw B (rvOLaw B off e) (rvELaw B off e))) 1) (rnELaw B (rvOLaw B (rvOLaw B (rvOLaw B off e) (rvELaw B off e)) (rvELaw B (rvOLaw B off e) (rvELaw B off e))) (rvELaw B (rvOLaw B (rvOLaw B off e) (rvELaw B off e)) (rvELaw B (rvOLaw B off e) (rvELaw B off
 e))) 1)) (rvELaw B (rnOLaw B (rvOLaw B (rvOLaw B (rvOLaw B off e) (rvELaw B off e)) (rvELaw B (rvOLaw B off e) (rvELaw B off e))) (rvELaw B (rvOLaw B (rvOLaw B off e) (rvELaw B off e)) (rvELaw B (rvOLaw B off e) (rvELaw B off e))) 1) (rnELaw B (rvOLaw B (rvOLaw B (rvOLaw B off e) (rvELaw B off e)) (rvELaw B (rvOLaw B off e) (rvELaw B off e))) (rvELaw B (rvOLaw B (rvOLaw B off e) (rvELaw B off e))
 (rvELaw B (rvOLaw B off e) (rvELaw B off e))) 1))), .bool true], gR, true, 115⟩, some ⟨.ints .u8 B, g, false, 5⟩, some ⟨.ints .u8 (rvVLaw B off e), 1, true, 5⟩, some ⟨.ints .u8 (rvVLaw B (rvOLaw B off e) (rvELaw B off e)), 1, true, 5⟩, some ⟨.ints .u8 (rvVLaw B (rvOLaw B (rvOLaw B off e) (rvELaw B off e)) (rvELaw B (rvOLaw B off e) (rvELaw B off e))), 1, true, 5⟩, some ⟨.ints .u8 (rvVLaw B (rvOLaw
 B (rnOLaw B (rvOLaw B (rvOLaw B (rvOLaw B off e) (rvELaw B off e)) (rvELaw B (rvOLaw B off e) (rvELaw B off e))) (rvELaw B (rvOLaw B (rvOLaw B off e) (rvELaw B off e)) (rvELaw B (rvOLaw B off e) (rvELaw B off e))) 1) (rnELaw B (rvOLaw B (rvOLaw B (rvOLaw B off e) (rvELaw B off e)) (rvELaw B (rvOLaw B off e) (rvELaw B off e))) (rvELaw B (rvOLaw B (rvOLaw B off e) (rvELaw B off e)) (rvELaw B (rvOLaw
 B off e) (rvELaw B off e))) 1)) (rvELaw B (rnOLaw B (rvOLaw B (rvOLaw B (rvOLaw B off e) (rvELaw B off e)) (rvELaw B (rvOLaw B off e) (rvELaw B off e))) (rvELaw B (rvOLaw B (rvOLaw B off e) (rvELaw B off e)) (rvELaw B (rvOLaw B off e) (rvELaw B off e))) 1) (rnELaw B (rvOLaw B (rvOLaw B (rvOLaw B off e) (rvELaw B off e)) (rvELaw B (rvOLaw B off e) (rvELaw B off e))) (rvELaw B (rvOLaw B (rvOLaw B off
 e) (rvELaw B off e)) (rvELaw B (rvOLaw B off e) (rvELaw B off e))) 1))), 1, true, 5⟩, some ⟨.ints .u8 (rvVLaw B (rnOLaw B (rvOLaw B (rvOLaw B (rvOLaw B off e) (rvELaw B off e)) (rvELaw B (rvOLaw B off e) (rvELaw B off e))) (rvELaw B (rvOLaw B (rvOLaw B off e) (rvELaw B off e)) (rvELaw B (rvOLaw B off e) (rvELaw B off e))) 1) (rnELaw B (rvOLaw B (rvOLaw B (rvOLaw B off e) (rvELaw B off e)) (rvELaw B
 (rvOLaw B off e) (rvELaw B off e))) (rvELaw B (rvOLaw B (rvOLaw B off e) (rvELaw B off e)) (rvELaw B (rvOLaw B off e) (rvELaw B off e))) 1)), 1, true, 5⟩] := by kernel_rfl
noncomputable def nR44n (B : List Int) (g : Nat) (gR : Nat) (off : Nat) (n : Nat) (e : Int) : Res := resG 2 [0, 1, 4, 5, 6, 7] (runF eL1 f44 [] 400 [.var 0 gR] [some ⟨.agg [.slice 1 1 g off n none, .int .i64 e, .bool true], gR, true, 115⟩, some ⟨.ints .u8 B, g, false, 5⟩] [some false])
theorem nR44n_ok {B : List Int} {g : Nat} {gR : Nat} {off : Nat} {n : Nat} {e : Int} (h : allP [.eqN g g, .eqN n (B.length - off), .leN off B.length, .p (ByLaw B), .leN B.length 140737488355000, .eqN g g, .eqN (B.length - rvOLaw B off e) (B.length - rvOLaw B off e), .leN (rvOLaw B off e) B.length, .p (ByLaw B), .leN B.length 140737488355000, .eqN g g, .eqN (B.length - rvOLaw B (rvOLaw B off e)
 (rvELaw B off e)) (B.length - rvOLaw B (rvOLaw B off e) (rvELaw B off e)), .leN (rvOLaw B (rvOLaw B off e) (rvELaw B off e)) B.length, .p (ByLaw B), .leN B.length 140737488355000, .eqN g g, .eqN (B.length - rvOLaw B (rvOLaw B (rvOLaw B off e) (rvELaw B off e)) (rvELaw B (rvOLaw B off e) (rvELaw B off e))) (B.length - rvOLaw B (rvOLaw B (rvOLaw B off e) (rvELaw B off e)) (rvELaw B (rvOLaw B off e)
 (rvELaw B off e))), .leN (rvOLaw B (rvOLaw B (rvOLaw B off e) (rvELaw B off e)) (rvELaw B (rvOLaw B off e) (rvELaw B off e))) B.length, .p (ByLaw B), .p ((rnVLaw B (rvOLaw B (rvOLaw B (rvOLaw B off e) (rvELaw B off e)) (rvELaw B (rvOLaw B off e) (rvELaw B off e))) (rvELaw B (rvOLaw B (rvOLaw B off e) (rvELaw B off e)) (rvELaw B (rvOLaw B off e) (rvELaw B off e))) 1 == 3) = false), .eqN g g, .eqN
 (B.length - rnOLaw B (rvOLaw B (rvOLaw B (rvOLaw B off e) (rvELaw B off e)) (rvELaw B (rvOLaw B off e) (rvELaw B off e))) (rvELaw B (rvOLaw B (rvOLaw B off e) (rvELaw B off e)) (rvELaw B (rvOLaw B off e) (rvELaw B off e))) 1) (B.length - rnOLaw B (rvOLaw B (rvOLaw B (rvOLaw B off e) (rvELaw B off e)) (rvELaw B (rvOLaw B off e) (rvELaw B off e))) (rvELaw B (rvOLaw B (rvOLaw B off e) (rvELaw B off
 e)) (rvELaw B (rvOLaw B off e) (rvELaw B off e))) 1), .leN (rnOLaw B (rvOLaw B (rvOLaw B (rvOLaw B off e) (rvELaw B off e)) (rvELaw B (rvOLaw B off e) (rvELaw B off e))) (rvELaw B (rvOLaw B (rvOLaw B off e) (rvELaw B off e)) (rvELaw B (rvOLaw B off e) (rvELaw B off e))) 1) B.length, .p (ByLaw B), .leN B.length 140737488355000]) : OkR (nR44n B g gR off n e) := OkR.dem (fl := bitsF 63
 9222250534860226560) (by kernel_rfl) (by kernel_rfl) (by kernel_rfl) h
theorem nR44n_val {B : List Int} {g : Nat} {gR : Nat} {off : Nat} {n : Nat} {e : Int} : (nR44n B g gR off n e).val = .agg [.slice 1 2 1 0 (rvVLaw B off e).length none, .slice 1 3 1 0 (rvVLaw B (rvOLaw B off e) (rvELaw B off e)).length none, .slice 1 4 1 0 (rvVLaw B (rvOLaw B (rvOLaw B off e) (rvELaw B off e)) (rvELaw B (rvOLaw B off e) (rvELaw B off e))).length none, .int .i64 (rnVLaw B (rvOLaw B
 (rvOLaw B (rvOLaw B off e) (rvELaw B off e)) (rvELaw B (rvOLaw B off e) (rvELaw B off e))) (rvELaw B (rvOLaw B (rvOLaw B off e) (rvELaw B off e)) (rvELaw B (rvOLaw B off e) (rvELaw B off e))) 1), .nilSlice, .slice 1 5 1 0 (rvVLaw B (rnOLaw B (rvOLaw B (rvOLaw B (rvOLaw B off e) (rvELaw B off e)) (rvELaw B (rvOLaw B off e) (rvELaw B off e))) (rvELaw B (rvOLaw B (rvOLaw B off e) (rvELaw B off e))
 (rvELaw B (rvOLaw B off e) (rvELaw B off e))) 1) (rnELaw B (rvOLaw B (rvOLaw B (rvOLaw B off e) (rvELaw B off e)) (rvELaw B (rvOLaw B off e) (rvELaw B off e))) (rvELaw B (rvOLaw B (rvOLaw B off e) (rvELaw B off e)) (rvELaw B (rvOLaw B off e) (rvELaw B off e))) 1)).length none] := by kernel_rfl
theorem nR44n_tab {B : List Int} {g : Nat} {gR : Nat} {off : Nat} {n : Nat} {e : Int} : (nR44n B g gR off n e).tab = [some ⟨.agg [.slice 1 1 g (rvOLaw B (rnOLaw B (rvOLaw B (rvOLaw B (rvOLaw B off e) (rvELaw B off e)) (rvELaw B (rvOLaw B off e) (rvELaw B off e))) (rvELaw B (rvOLaw B (rvOLaw B off e) (rvELaw B off e)) (rvELaw B (rvOLaw B off e) (rvELaw B off e))) 1) (rnELaw B (rvOLaw B (rvOLaw B
 (rvOLaw B off e) (rvELaw B off e)) (rvELaw B (rvOLaw B off e) (rvELaw B off e))) (rvELaw B (rvOLaw B (rvOLaw B off e) (rvELaw B off e)) (rvELaw B (rvOLaw B off e) (rvELaw B off e))) 1)) (B.length - rvOLaw B (rnOLaw B (rvOLaw B (rvOLaw B (rvOLaw B off e) (rvELaw B off e)) (rvELaw B (rvOLaw B off e) (rvELaw B off e))) (rvELaw B (rvOLaw B (rvOLaw B off e) (rvELaw B off e)) (rvELaw B (rvOLaw B off e)
 (rvELaw B off e))) 1) (rnELaw B (rvOLaw B (rvOLaw B (rvOLaw B off e) (rvELaw B off e)) (rvELaw B (rvOLaw B off e) (rvELaw B off e))) (rvELaw B (rvOLaw B (rvOLaw B off e) (rvELaw B off e)) (rvELaw B (rvOLaw B off e) (rvELaw B off e))) 1)) none, .int .i64 (rvELaw B (rnOLaw B (rvOLaw B (rvOLaw B (rvOLaw B off e) (rvELaw B off e)) (rvELaw B (rvOLaw B off e) (rvELaw B off e))) (rvELaw B (rvOLaw B
 (rvOLaw B off e) (rvELaw B off e)) (rvELaw B (rvOLaw B off e) (rvELaw B off e))) 1) (rnELaw B (rvOLaw B (rvOLaw B (rvOLaw B off e) (rvELaw B off e)) (rvELaw B (rvOLaw B off e) (rvELaw B off e))) (rvELaw B (rvOLaw B (rvOLaw B off e) (rvELaw B off e)) (rvELaw B (rvOLaw B off e) (rvELaw B off e))) 1)), .bool true], gR, true, 115⟩, some ⟨.ints .u8 B, g, false, 5⟩, some ⟨.ints .u8 (rvVLaw B off e), 1,
 true, 5⟩, some ⟨.ints .u8 (rvVLaw B (rvOLaw B off e) (rvELaw B off e)), 1, true, 5⟩, some ⟨.ints .u8 (rvVLaw B (rvOLaw B (rvOLaw B off e) (rvELaw B off e)) (rvELaw B (rvOLaw B off e) (rvELaw B off e))), 1, true, 5⟩, some ⟨.ints .u8 (rvVLaw B (rnOLaw B (rvOLaw B (rvOLaw B (rvOLaw B off e) (rvELaw B off e)) (rvELaw B (rvOLaw B off e) (rvELaw B off e))) (rvELaw B (rvOLaw B (rvOLaw B off e) (rvELaw B
 off e)) (rvELaw B (rvOLaw B off e) (rvELaw B off e))) 1) (rnELaw B (rvOLaw B (rvOLaw B (rvOLaw B off e) (rvELaw B off e)) (rvELaw B (rvOLaw B off e) (rvELaw B off e))) (rvELaw B (rvOLaw B (rvOLaw B off e) (rvELaw B off e)) (rvELaw B (rvOLaw B off e) (rvELaw B off e))) 1)), 1, true, 5⟩] := by kernel_rfl
noncomputable def nsm44c (args : List AVal) (T : Tab) (B : List Int) (g : Nat) (gR : Nat) (off : Nat) (n : Nat) (e : Int) : Res := ⟨[.tab T [some ⟨.agg [.slice 1 1 g off n none, .int .i64 e, .bool true], gR, true, 115⟩, some ⟨.ints .u8 B, g, false, 5⟩], .val (.tuple args) (.tuple [.var 0 gR]), .eqN n (B.length - off), .leN off B.length, .p (ByLaw B), .leN B.length 140737488355000], .agg [.slice 1 2 1 0 (lfALaw B off e).length none, .slice 1 3 1 0 (lfBLaw B off e).length none, .slice 1 4 1 0 (lfCLaw B off e).length none, .int .i64 (lfSLaw B off e), .slice 1 6 1 0 (lfDLaw B off e).length none, .slice 1 5 1 0 (lfZLaw B off e).length none], [some ⟨.agg [.slice 1 1 g (lfOLaw B off e) (B.length - lfOLaw B off e) none, .int .i64 (lfELaw B off e), .bool true], gR, true, 115⟩, some ⟨.ints .u8 B, g, false, 5⟩, some ⟨.ints .u8 (lfALaw B off e), 1, true, 5⟩, some ⟨.ints .u8 (lfBLaw B off e), 1, true, 5⟩, some ⟨.ints .u8 (lfCLaw B off e), 1, true, 5⟩, some ⟨.ints .u8 (lfZLaw B off e), 1, true, 5⟩, some ⟨.ints .u8 (lfDLaw B off e), 1, true, 5⟩]⟩
theorem nsm44c_ok {args : List AVal} {T : Tab} {B : List Int} {g : Nat} {gR : Nat} {off : Nat} {n : Nat} {e : Int} (h : allP (nsm44c args T B g gR off n e).cs) : Small prog (fun _ => none) 44 args T (nsm44c args T B g gR off n e).val (nsm44c args T B g gR off n e).tab := by
  obtain ⟨hT, hv, h1, h2, h3, h4, _⟩ := h
  simp only [Con.h] at hT hv h1 h2 h3 h4
  injection hv with hv
  subst hT hv
  show Small prog (fun _ => none) 44 [.var 0 gR] [some ⟨.agg [.slice 1 1 g off n none, .int .i64 e, .bool true], gR, true, 115⟩, some ⟨.ints .u8 B, g, false, 5⟩] (.agg [.slice 1 2 1 0 (lfALaw B off e).length none, .slice 1 3 1 0 (lfBLaw B off e).length none, .slice 1 4 1 0 (lfCLaw B off e).length none, .int .i64 (lfSLaw B off e), .slice 1 6 1 0 (lfDLaw B off e).length none, .slice 1 5 1 0 (lfZLaw B off e).length none]) [some ⟨.agg [.slice 1 1 g (lfOLaw B off e) (B.length - lfOLaw B off e) none, .int .i64 (lfELaw B off e), .bool true], gR, true, 115⟩, some ⟨.ints .u8 B, g, false, 5⟩, some ⟨.ints .u8 (lfALaw B off e), 1, true, 5⟩, some ⟨.ints .u8 (lfBLaw B off e), 1, true, 5⟩, some ⟨.ints .u8 (lfCLaw B off e), 1, true, 5⟩, some ⟨.ints .u8 (lfZLaw B off e), 1, true, 5⟩, some ⟨.ints .u8 (lfDLaw B off e), 1, true, 5⟩]
  subst h1
  have hoL := h2
  have hbL := h3
  have hlL := h4
  have hb : ByLaw B := hbL
  have k1 : rvOLaw B off e ≤ B.length := (rv_off hoL e).2
  have k2 := (rv_off k1 (rvELaw B off e)).2
  have k3 := (rv_off k2 (rvELaw B (rvOLaw B off e) (rvELaw B off e))).2
  have k4 := (rn_off k3 (rvELaw B (rvOLaw B (rvOLaw B off e) (rvELaw B off e)) (rvELaw B (rvOLaw B off e) (rvELaw B off e))) 1).2
  by_cases hs : lfSLaw B off e = 3
  · have hD : lfDLaw B off e = rvVLaw B (s4O B off e) (s4E B off e) := if_pos hs
    have hO5 : s5O B off e = rvOLaw B (s4O B off e) (s4E B off e) := if_pos hs
    have hE5 : s5E B off e = rvELaw B (s4O B off e) (s4E B off e) := if_pos hs
    have k5 := (rv_off k4 (s4E B off e)).2
    unfold lfZLaw lfOLaw lfELaw
    rw [hD, hO5, hE5]
    refine small_ofG (R := nR44y B g gR off (B.length - off) e) eL1_ok hmN (f := 44) (fn := f44) (by kernel_rfl) (by kernel_rfl) FnOrc.nil rfl (nR44y_ok ?_) nR44y_val nR44y_tab
    simp only [allP, Con.h, eq_self, true_and, and_true, beq_iff_eq, beq_eq_false_iff_ne, ne_eq, decide_eq_true_eq, decide_eq_false_iff_not, hb, hoL, hlL, k1, k2, k3, k4]
    exact ⟨hs, k5⟩
  · have hD : lfDLaw B off e = [] := if_neg hs
    have hO5 : s5O B off e = s4O B off e := if_neg hs
    have hE5 : s5E B off e = s4E B off e := if_neg hs
    unfold lfZLaw lfOLaw lfELaw
    rw [hD, hO5, hE5]
    refine small_nilA 4 1 (small_ofG (R := nR44n B g gR off (B.length - off) e) eL1_ok hmN (f := 44) (fn := f44) (by kernel_rfl) (by kernel_rfl) FnOrc.nil rfl (nR44n_ok ?_) nR44n_val nR44n_tab) rfl
    simp only [allP, Con.h, eq_self, true_and, and_true, beq_iff_eq, beq_eq_false_iff_ne, ne_eq, decide_eq_true_eq, decide_eq_false_iff_not, hb, hoL, hlL, k1, k2, k3, k4]
    exact hs
noncomputable def nsm44 : Summary := fun args T => nsm44c args T (xsAt T 1) (gAt T 1) (gAt T 0) (offOf (cAt T 0 0)) (lenOf (cAt T 0 0)) (iOf (cAt T 0 1))
theorem nsm44_ok : SmOk prog (fun _ => none) 44 nsm44 := fun args T h => nsm44c_ok h
noncomputable def nS44 : Summary := callR nsm44 [true]
theorem nS44_ok : SumOk prog (fun _ => none) 44 nS44 := callR_ok nsm44_ok _
end Go.Abs

set_option linter.unusedVariables false
set_option linter.unusedSimpArgs false
set_option maxRecDepth 100000
set_option maxHeartbeats 4000000
namespace Go.Abs
open Go.Proofs Go.Proofs.Try
/-! ### what is read is written the same -/
theorem rvE_zero {B : List Int} {off : Nat} {e : Int} (h : rvELaw B off e = 0) : e = 0 := by
  by_cases he : e = 0
  · exact he
  · unfold rvELaw at h
    rw [rv_e he] at h
    exact h
theorem rnE_zero {B : List Int} {off : Nat} {e size : Int} (h : rnELaw B off e size = 0) : e = 0 := by
  by_cases he : e = 0
  · exact he
  · unfold rnELaw at h
    rw [rn_e size he] at h
    exact h
theorem rn_canon1 {B : List Int} {off : Nat} (hb : ByLaw B) (h : rnELaw B off 0 1 = 0) : rnOLaw B off 0 1 = off + 1 ∧ off < B.length ∧ B.drop off = numLaw (rnVLaw B off 0 1) 1 ++ B.drop (off + 1) := by
  have hz : sizedLaw 1 := .inl rfl
  by_cases hl : ((B.length - off : Nat) : Int) < 1
  · unfold rnELaw rnP at h
    rw [if_neg (by decide), if_neg (not_not_intro hz), if_pos hl] at h
    cases h
  have e : rnP B off 0 1 = (numAtLaw 1 B off, off + 1, 0) := by
    unfold rnP
    rw [if_neg (by decide), if_neg (not_not_intro hz), if_neg hl, if_neg (by omega)]
    rfl
  have hv : rnVLaw B off 0 1 = B.getD off 0 := by
    unfold rnVLaw
    rw [e]
    show beN 1 B off = _
    unfold beN beN
    simp
  have hlt : off < B.length := by omega
  have hB := hb off
  refine ⟨by unfold rnOLaw; rw [e], hlt, ?_⟩
  rw [hv, num1 hB.1 hB.2, drop_get hlt, Int.emod_eq_of_lt hB.1 hB.2]
  rfl
def glOK (B : List Int) : Prop := reLaw B (lfOLaw B 0 0) (lfELaw B 0 0) = 0 ∧ RightL (lfALaw B 0 0) (lfBLaw B 0 0) (lfCLaw B 0 0) (lfSLaw B 0 0) (lfDLaw B 0 0) (lfZLaw B 0 0)
instance (B : List Int) : Decidable (glOK B) := by unfold glOK; exact inferInstance
theorem re_zero {B : List Int} {off : Nat} {e : Int} (h : reLaw B off e = 0) : e = 0 ∧ B.length ≤ off := by
  unfold reLaw at h
  by_cases he : e = 0
  · refine ⟨he, ?_⟩
    rw [if_neg (not_not_intro he)] at h
    split at h
    · cases h
    · omega
  · rw [if_pos he] at h
    exact absurd h he
/-- a leaf's bytes, as they were read, and what comes behind -/
theorem leaf_canon {B : List Int} {off : Nat} (hb : ByLaw B) (h : lfELaw B off 0 = 0) :
    B.drop off = bareLaw (lfALaw B off 0) (lfBLaw B off 0) (lfCLaw B off 0) (lfSLaw B off 0) (lfDLaw B off 0) ++ (vec1Law (lfZLaw B off 0) ++ B.drop (lfOLaw B off 0)) ∧ lfOLaw B off 0 ≤ B.length := by
  have e5 : s5E B off 0 = 0 := rvE_zero h
  have c5 := rv_canon (off := s5O B off 0) hb (by have k := h; unfold lfELaw at k; rwa [e5] at k)
  have hz : lfZLaw B off 0 = rvVLaw B (s5O B off 0) 0 := by unfold lfZLaw; rw [e5]
  have hO : lfOLaw B off 0 = rvOLaw B (s5O B off 0) 0 := by unfold lfOLaw; rw [e5]
  have key : s4E B off 0 = 0 ∧ B.drop (s4O B off 0) = (if lfSLaw B off 0 = 3 then vec1Law (lfDLaw B off 0) else []) ++ B.drop (s5O B off 0) := by
    unfold s5E at e5
    unfold s5O lfDLaw
    by_cases hs : lfSLaw B off 0 = 3
    · rw [if_pos hs] at e5
      have e4 := rvE_zero e5
      rw [e4] at e5
      have c4 := rv_canon (off := s4O B off 0) hb e5
      rw [if_pos hs, if_pos hs, if_pos hs, e4]
      exact ⟨rfl, c4.2.2.2⟩
    · rw [if_neg hs] at e5
      rw [if_neg hs, if_neg hs]
      exact ⟨e5, rfl⟩
  obtain ⟨e4, c4⟩ := key
  have e3 : s3E B off 0 = 0 := rnE_zero e4
  have c3 := rn_canon1 (off := s3O B off 0) hb (by have k := e4; unfold s4E at k; rwa [e3] at k)
  have hS : lfSLaw B off 0 = rnVLaw B (s3O B off 0) 0 1 := by unfold lfSLaw; rw [e3]
  have h4 : s4O B off 0 = s3O B off 0 + 1 := by unfold s4O; rw [e3]; exact c3.1
  have e2 : s2E B off 0 = 0 := rvE_zero e3
  have c2 := rv_canon (off := s2O B off 0) hb (by have k := e3; unfold s3E at k; rwa [e2] at k)
  have hC : lfCLaw B off 0 = rvVLaw B (s2O B off 0) 0 := by unfold lfCLaw; rw [e2]
  have h3 : s3O B off 0 = rvOLaw B (s2O B off 0) 0 := by unfold s3O; rw [e2]
  have e1 : s1E B off 0 = 0 := rvE_zero e2
  have c1 := rv_canon (off := s1O B off 0) hb (by have k := e2; unfold s2E at k; rwa [e1] at k)
  have hB : lfBLaw B off 0 = rvVLaw B (s1O B off 0) 0 := by unfold lfBLaw; rw [e1]
  have h2 : s2O B off 0 = rvOLaw B (s1O B off 0) 0 := by unfold s2O; rw [e1]
  have c0 := rv_canon (off := off) hb e1
  refine ⟨?_, by rw [hO]; exact c5.2.2.1⟩
  rw [c0.2.2.2, show rvOLaw B off 0 = s1O B off 0 from rfl, c1.2.2.2, ← h2, c2.2.2.2, ← h3, c3.2.2, ← h4, c4, c5.2.2.2, ← hS, ← hC, ← hB, ← hz, ← hO]
  unfold bareLaw jn3Law lfALaw
  simp only [List.append_assoc]
theorem canon_leaf {B : List Int} (hb : ByLaw B) (h : glOK B) : leafBLaw (lfALaw B 0 0) (lfBLaw B 0 0) (lfCLaw B 0 0) (lfSLaw B 0 0) (lfDLaw B 0 0) (lfZLaw B 0 0) = B := by
  obtain ⟨h1, h2⟩ := h
  obtain ⟨h3, h4⟩ := re_zero h1
  obtain ⟨c1, c2⟩ := leaf_canon (off := 0) hb h3
  rw [(leaf_in h2).1]
  rw [List.drop_of_length_le h4, List.append_nil, List.drop_zero] at c1
  exact c1.symm
end Go.Abs

set_option linter.unusedVariables false
set_option linter.unusedSimpArgs false
set_option maxRecDepth 100000
set_option maxHeartbeats 4000000
namespace Go.Abs
open Go.Proofs Go.Proofs.Try
/-! ### any bytes, as a leaf -/
theorem small_nilU {P : Program} {gl : Nat → Option AVal} {f : FuncId} {args : List AVal} {T0 T1 : Tab} {vs : List AVal} {u : AVal} (j : Nat) (gg : Nat) (h : Small P gl f args T0 (.tuple [.agg vs, u]) T1) (hj : vs[j]? = some .nilSlice) :
    Small P gl f args T0 (.tuple [.agg (vs.set j (.slice 1 T1.length gg 0 0 none)), u]) (T1 ++ [some ⟨.ints .u8 [], gg, true, 5⟩]) := by
  intro ν w xs hr hvs
  refine (h ν w xs hr hvs).mono ?_
  rintro e w' ⟨x, ν', rfl, h1, h2, h3, h4⟩
  obtain ⟨l0, g1, g2, g3, g4, g5⟩ := h2.pushEmptyG .u8 5 gg
  refine ⟨x, upd ν' T1.length l0, rfl, ?_, g3, h3.trans (g4.b _), h4.sub g5⟩
  have h1' := h1.mono g4
  cases h1' with
  | tuple e1 e2 =>
    rename_i ys
    refine .tuple e1 fun i hi => ?_
    have hi2 := e2 i hi
    match i, hi, hi2 with
    | 0, _, hi2 =>
      have hi3 : VR (upd ν' T1.length l0) (.agg vs) (ys.getD 0 undef) := hi2
      show VR _ (.agg _) (ys.getD 0 undef)
      generalize ys.getD 0 undef = y0 at hi3 ⊢
      cases hi3 with
      | agg e1 e2 =>
        have hd : vs.getD j un = .nilSlice := by simp [List.getD, hj]
        have hv := VRs.set1 (v := .slice 1 T1.length gg 0 0 none) (j := j) (⟨by rw [Array.length_toList]; exact e1, fun i hi => by simpa using e2 i hi⟩ : VRs (upd ν' T1.length l0) vs _) (fun y hy => by
          rw [hd] at hy
          cases hy
          exact .sliceZ none (upd_same _ _ _) g1.symm (.inr ⟨rfl, by rw [g2]; exact Nat.le_refl _⟩))
        exact .agg (by simpa using hv.1) (fun i hi => by simpa using hv.2 i hi)
    | 1, _, hi2 => exact hi2
def glALaw (B : List Int) : List Int := if glOK B then lfALaw B 0 0 else []
def glBLaw (B : List Int) : List Int := if glOK B then lfBLaw B 0 0 else []
def glCLaw (B : List Int) : List Int := if glOK B then lfCLaw B 0 0 else []
def glDLaw (B : List Int) : List Int := if glOK B then lfDLaw B 0 0 else []
def glZLaw (B : List Int) : List Int := if glOK B then lfZLaw B 0 0 else []
def glSLaw (B : List Int) : Int := if glOK B then lfSLaw B 0 0 else 0
def glELaw (B : List Int) : Int := if glOK B then 0 else 21
noncomputable def nS76 : Summary := sumI modeO (eN0 []) f76 [] 100 [none] []
theorem nS76_ok : SumOk prog (fun _ => none) 76 nS76 := sumI_ok eN0_ok hmN (fn := f76) (by kernel_rfl) (by kernel_rfl) [] FnOrc.nil 100 [none] []
noncomputable def eG1 : Env := eN0 [(11, nS11), (75, S36r), (76, nS76)]
theorem eG1_ok : EnvOk eG1 := envOf_ok tysN_ok (SumsOk.cons (fn := f11) nS11_ok (by kernel_rfl) (by kernel_rfl) (by kernel_rfl) (SumsOk.cons (fn := f75) S36r_ok (by kernel_rfl) (by kernel_rfl) (by kernel_rfl) (SumsOk.cons (fn := f76) nS76_ok (by kernel_rfl) (by kernel_rfl) (by kernel_rfl) trivial)))
noncomputable def nS43a : Summary := sumI modeO eG1 f43 [] 400 [some true] [false, false, false, false, false, true]
theorem nS43a_ok : SumOk prog (fun _ => none) 43 nS43a := sumI_ok eG1_ok hmN (fn := f43) (by kernel_rfl) (by kernel_rfl) [] FnOrc.nil 400 [some true] [false, false, false, false, false, true]
noncomputable def eG2a : Env := eN0 [(42, S23r), (43, nS43a), (44, nS44), (11, nS11)]
theorem eG2a_ok : EnvOk eG2a := envOf_ok tysN_ok (SumsOk.cons (fn := f42) S23r_ok (by kernel_rfl) (by kernel_rfl) (by kernel_rfl) (SumsOk.cons (fn := f43) nS43a_ok (by kernel_rfl) (by kernel_rfl) (by kernel_rfl) (SumsOk.cons (fn := f44) nS44_ok (by kernel_rfl) (by kernel_rfl) (by kernel_rfl) (SumsOk.cons (fn := f11) nS11_ok (by kernel_rfl) (by kernel_rfl) (by kernel_rfl) trivial))))
noncomputable def nR13a (zs : List Int) (g : Nat) (off : Nat) (n : Nat) (cp : Option Nat) (ow : Bool) : Res := resG 1 [0] (runF eG2a f13 [] 400 [.slice 1 0 g off n cp] [some ⟨.ints .u8 zs, g, ow, 5⟩] [])
theorem nR13a_ok {zs : List Int} {g : Nat} {off : Nat} {n : Nat} {cp : Option Nat} {ow : Bool} (h : allP [.eqN g g, .leN (off + n) zs.length, .leN n 140737488355000, .eqN n ((subLaw zs off n).length - 0), .leN 0 (subLaw zs off n).length, .p (ByLaw (subLaw zs off n)), .leN (subLaw zs off n).length 140737488355000, .eqN g g, .eqN (lfALaw (subLaw zs off n) 0 0).length (lfALaw (subLaw zs off n) 0
 0).length, .eqN (lfBLaw (subLaw zs off n) 0 0).length (lfBLaw (subLaw zs off n) 0 0).length, .eqN (lfCLaw (subLaw zs off n) 0 0).length (lfCLaw (subLaw zs off n) 0 0).length, .eqN (lfDLaw (subLaw zs off n) 0 0).length (lfDLaw (subLaw zs off n) 0 0).length, .eqN (lfZLaw (subLaw zs off n) 0 0).length (lfZLaw (subLaw zs off n) 0 0).length, .eqN ((subLaw zs off n).length - lfOLaw (subLaw zs off n) 0 0)
 ((subLaw zs off n).length - lfOLaw (subLaw zs off n) 0 0), .p ((reLaw (subLaw zs off n) (lfOLaw (subLaw zs off n) 0 0) (lfELaw (subLaw zs off n) 0 0) != 0) = true)]) : OkR (nR13a zs g off n cp ow) := OkR.dem (fl := bitsF 52 4503333406371872) (by kernel_rfl) (by kernel_rfl) (by kernel_rfl) h
theorem nR13a_val {zs : List Int} {g : Nat} {off : Nat} {n : Nat} {cp : Option Nat} {ow : Bool} : (nR13a zs g off n cp ow).val = .tuple [.agg [.nilSlice, .nilSlice, .nilSlice, .int .i64 0, .nilSlice, .nilSlice], .int .i64 21] := by kernel_rfl
theorem nR13a_tab {zs : List Int} {g : Nat} {off : Nat} {n : Nat} {cp : Option Nat} {ow : Bool} : (nR13a zs g off n cp ow).tab = [some ⟨.ints .u8 zs, g, ow, 5⟩] := by kernel_rfl
noncomputable def nS43b : Summary := sumI modeO eG1 f43 [] 400 [some false, some true] [false, false, false, false, false, true]
theorem nS43b_ok : SumOk prog (fun _ => none) 43 nS43b := sumI_ok eG1_ok hmN (fn := f43) (by kernel_rfl) (by kernel_rfl) [] FnOrc.nil 400 [some false, some true] [false, false, false, false, false, true]
noncomputable def eG2b : Env := eN0 [(42, S23r), (43, nS43b), (44, nS44), (11, nS11)]
theorem eG2b_ok : EnvOk eG2b := envOf_ok tysN_ok (SumsOk.cons (fn := f42) S23r_ok (by kernel_rfl) (by kernel_rfl) (by kernel_rfl) (SumsOk.cons (fn := f43) nS43b_ok (by kernel_rfl) (by kernel_rfl) (by kernel_rfl) (SumsOk.cons (fn := f44) nS44_ok (by kernel_rfl) (by kernel_rfl) (by kernel_rfl) (SumsOk.cons (fn := f11) nS11_ok (by kernel_rfl) (by kernel_rfl) (by kernel_rfl) trivial))))
noncomputable def nR13b (zs : List Int) (g : Nat) (off : Nat) (n : Nat) (cp : Option Nat) (ow : Bool) : Res := resG 1 [0] (runF eG2b f13 [] 400 [.slice 1 0 g off n cp] [some ⟨.ints .u8 zs, g, ow, 5⟩] [])
theorem nR13b_ok {zs : List Int} {g : Nat} {off : Nat} {n : Nat} {cp : Option Nat} {ow : Bool} (h : allP [.eqN g g, .leN (off + n) zs.length, .leN n 140737488355000, .eqN n ((subLaw zs off n).length - 0), .leN 0 (subLaw zs off n).length, .p (ByLaw (subLaw zs off n)), .leN (subLaw zs off n).length 140737488355000, .eqN g g, .eqN (lfALaw (subLaw zs off n) 0 0).length (lfALaw (subLaw zs off n) 0
 0).length, .eqN (lfBLaw (subLaw zs off n) 0 0).length (lfBLaw (subLaw zs off n) 0 0).length, .eqN (lfCLaw (subLaw zs off n) 0 0).length (lfCLaw (subLaw zs off n) 0 0).length, .eqN (lfDLaw (subLaw zs off n) 0 0).length (lfDLaw (subLaw zs off n) 0 0).length, .eqN (lfZLaw (subLaw zs off n) 0 0).length (lfZLaw (subLaw zs off n) 0 0).length, .eqN ((subLaw zs off n).length - lfOLaw (subLaw zs off n) 0 0)
 ((subLaw zs off n).length - lfOLaw (subLaw zs off n) 0 0), .p ((reLaw (subLaw zs off n) (lfOLaw (subLaw zs off n) 0 0) (lfELaw (subLaw zs off n) 0 0) != 0) = false), .p ((leafELaw (lfALaw (subLaw zs off n) 0 0) (lfBLaw (subLaw zs off n) 0 0) (lfCLaw (subLaw zs off n) 0 0) (lfSLaw (subLaw zs off n) 0 0) (lfDLaw (subLaw zs off n) 0 0) (lfZLaw (subLaw zs off n) 0 0) != 0) = true)]) : OkR (nR13b zs g
 off n cp ow) := OkR.dem (fl := bitsF 53 9006658155835424) (by kernel_rfl) (by kernel_rfl) (by kernel_rfl) h
theorem nR13b_val {zs : List Int} {g : Nat} {off : Nat} {n : Nat} {cp : Option Nat} {ow : Bool} : (nR13b zs g off n cp ow).val = .tuple [.agg [.nilSlice, .nilSlice, .nilSlice, .int .i64 0, .nilSlice, .nilSlice], .int .i64 21] := by kernel_rfl
theorem nR13b_tab {zs : List Int} {g : Nat} {off : Nat} {n : Nat} {cp : Option Nat} {ow : Bool} : (nR13b zs g off n cp ow).tab = [some ⟨.ints .u8 zs, g, ow, 5⟩] := by kernel_rfl
noncomputable def nS43c : Summary := sumI modeO eG1 f43 [] 400 [some false, some false, some true] [false, false, false, false, false, true]
theorem nS43c_ok : SumOk prog (fun _ => none) 43 nS43c := sumI_ok eG1_ok hmN (fn := f43) (by kernel_rfl) (by kernel_rfl) [] FnOrc.nil 400 [some false, some false, some true] [false, false, false, false, false, true]
noncomputable def eG2c : Env := eN0 [(42, S23r), (43, nS43c), (44, nS44), (11, nS11)]
theorem eG2c_ok : EnvOk eG2c := envOf_ok tysN_ok (SumsOk.cons (fn := f42) S23r_ok (by kernel_rfl) (by kernel_rfl) (by kernel_rfl) (SumsOk.cons (fn := f43) nS43c_ok (by kernel_rfl) (by kernel_rfl) (by kernel_rfl) (SumsOk.cons (fn := f44) nS44_ok (by kernel_rfl) (by kernel_rfl) (by kernel_rfl) (SumsOk.cons (fn := f11) nS11_ok (by kernel_rfl) (by kernel_rfl) (by kernel_rfl) trivial))))
noncomputable def nR13c (zs : List Int) (g : Nat) (off : Nat) (n : Nat) (cp : Option Nat) (ow : Bool) : Res := resG 1 [0, 4, 5, 6, 7, 8] (runF eG2c f13 [] 400 [.slice 1 0 g off n cp] [some ⟨.ints .u8 zs, g, ow, 5⟩] [])
theorem nR13c_ok {zs : List Int} {g : Nat} {off : Nat} {n : Nat} {cp : Option Nat} {ow : Bool} (h : allP [.eqN g g, .leN (off + n) zs.length, .leN n 140737488355000, .eqN n ((subLaw zs off n).length - 0), .leN 0 (subLaw zs off n).length, .p (ByLaw (subLaw zs off n)), .leN (subLaw zs off n).length 140737488355000, .eqN g g, .eqN (lfALaw (subLaw zs off n) 0 0).length (lfALaw (subLaw zs off n) 0
 0).length, .eqN (lfBLaw (subLaw zs off n) 0 0).length (lfBLaw (subLaw zs off n) 0 0).length, .eqN (lfCLaw (subLaw zs off n) 0 0).length (lfCLaw (subLaw zs off n) 0 0).length, .eqN (lfDLaw (subLaw zs off n) 0 0).length (lfDLaw (subLaw zs off n) 0 0).length, .eqN (lfZLaw (subLaw zs off n) 0 0).length (lfZLaw (subLaw zs off n) 0 0).length, .eqN ((subLaw zs off n).length - lfOLaw (subLaw zs off n) 0 0)
 ((subLaw zs off n).length - lfOLaw (subLaw zs off n) 0 0), .p ((reLaw (subLaw zs off n) (lfOLaw (subLaw zs off n) 0 0) (lfELaw (subLaw zs off n) 0 0) != 0) = false), .p ((leafELaw (lfALaw (subLaw zs off n) 0 0) (lfBLaw (subLaw zs off n) 0 0) (lfCLaw (subLaw zs off n) 0 0) (lfSLaw (subLaw zs off n) 0 0) (lfDLaw (subLaw zs off n) 0 0) (lfZLaw (subLaw zs off n) 0 0) != 0) = false), .eqN (leafGLaw
 (lfALaw (subLaw zs off n) 0 0) (lfBLaw (subLaw zs off n) 0 0) (lfCLaw (subLaw zs off n) 0 0) (lfSLaw (subLaw zs off n) 0 0) (lfDLaw (subLaw zs off n) 0 0) (lfZLaw (subLaw zs off n) 0 0)) (leafGLaw (lfALaw (subLaw zs off n) 0 0) (lfBLaw (subLaw zs off n) 0 0) (lfCLaw (subLaw zs off n) 0 0) (lfSLaw (subLaw zs off n) 0 0) (lfDLaw (subLaw zs off n) 0 0) (lfZLaw (subLaw zs off n) 0 0)), .eqN g g, .eqN
 (leafGLaw (lfALaw (subLaw zs off n) 0 0) (lfBLaw (subLaw zs off n) 0 0) (lfCLaw (subLaw zs off n) 0 0) (lfSLaw (subLaw zs off n) 0 0) (lfDLaw (subLaw zs off n) 0 0) (lfZLaw (subLaw zs off n) 0 0)) (leafGLaw (lfALaw (subLaw zs off n) 0 0) (lfBLaw (subLaw zs off n) 0 0) (lfCLaw (subLaw zs off n) 0 0) (lfSLaw (subLaw zs off n) 0 0) (lfDLaw (subLaw zs off n) 0 0) (lfZLaw (subLaw zs off n) 0 0)), .leN
 (0 + (leafBLaw (lfALaw (subLaw zs off n) 0 0) (lfBLaw (subLaw zs off n) 0 0) (lfCLaw (subLaw zs off n) 0 0) (lfSLaw (subLaw zs off n) 0 0) (lfDLaw (subLaw zs off n) 0 0) (lfZLaw (subLaw zs off n) 0 0)).length) (leafBLaw (lfALaw (subLaw zs off n) 0 0) (lfBLaw (subLaw zs off n) 0 0) (lfCLaw (subLaw zs off n) 0 0) (lfSLaw (subLaw zs off n) 0 0) (lfDLaw (subLaw zs off n) 0 0) (lfZLaw (subLaw zs off n)
 0 0)).length, .eqN g g, .leN (off + n) zs.length, .p ((List.map byteOf (List.take (leafBLaw (lfALaw (subLaw zs off n) 0 0) (lfBLaw (subLaw zs off n) 0 0) (lfCLaw (subLaw zs off n) 0 0) (lfSLaw (subLaw zs off n) 0 0) (lfDLaw (subLaw zs off n) 0 0) (lfZLaw (subLaw zs off n) 0 0)).length (leafBLaw (lfALaw (subLaw zs off n) 0 0) (lfBLaw (subLaw zs off n) 0 0) (lfCLaw (subLaw zs off n) 0 0) (lfSLaw
 (subLaw zs off n) 0 0) (lfDLaw (subLaw zs off n) 0 0) (lfZLaw (subLaw zs off n) 0 0))) == List.map byteOf (List.take n (dropO off zs))) = true)]) : OkR (nR13c zs g off n cp ow) := OkR.dem (fl := bitsF 60 1152851144519577632) (by kernel_rfl) (by kernel_rfl) (by kernel_rfl) h
theorem nR13c_val {zs : List Int} {g : Nat} {off : Nat} {n : Nat} {cp : Option Nat} {ow : Bool} : (nR13c zs g off n cp ow).val = .tuple [.agg [.slice 1 1 1 0 (lfALaw (subLaw zs off n) 0 0).length none, .slice 1 2 1 0 (lfBLaw (subLaw zs off n) 0 0).length none, .slice 1 3 1 0 (lfCLaw (subLaw zs off n) 0 0).length none, .int .i64 (lfSLaw (subLaw zs off n) 0 0), .slice 1 4 1 0 (lfDLaw (subLaw zs off
 n) 0 0).length none, .slice 1 5 1 0 (lfZLaw (subLaw zs off n) 0 0).length none], .int .i64 0] := by kernel_rfl
theorem nR13c_tab {zs : List Int} {g : Nat} {off : Nat} {n : Nat} {cp : Option Nat} {ow : Bool} : (nR13c zs g off n cp ow).tab = [some ⟨.ints .u8 zs, g, ow, 5⟩, some ⟨.ints .u8 (lfALaw (subLaw zs off n) 0 0), 1, true, 5⟩, some ⟨.ints .u8 (lfBLaw (subLaw zs off n) 0 0), 1, true, 5⟩, some ⟨.ints .u8 (lfCLaw (subLaw zs off n) 0 0), 1, true, 5⟩, some ⟨.ints .u8 (lfDLaw (subLaw zs off n) 0 0), 1, true,
 5⟩, some ⟨.ints .u8 (lfZLaw (subLaw zs off n) 0 0), 1, true, 5⟩] := by kernel_rfl
noncomputable def nsm13c (args : List AVal) (T : Tab) (zs : List Int) (g : Nat) (off : Nat) (n : Nat) (cp : Option Nat) (ow : Bool) : Res := ⟨[.tab T [some ⟨.ints .u8 zs, g, ow, 5⟩], .val (.tuple args) (.tuple [.slice 1 0 g off n cp]), .leN (off + n) zs.length, .p (ByLaw (subLaw zs off n)), .leN n 140737488355000], .tuple [.agg [.slice 1 1 1 0 (glALaw (subLaw zs off n)).length none, .slice 1 2 1 0 (glBLaw (subLaw zs off n)).length none, .slice 1 3 1 0 (glCLaw (subLaw zs off n)).length none, .int .i64 (glSLaw (subLaw zs off n)), .slice 1 4 1 0 (glDLaw (subLaw zs off n)).length none, .slice 1 5 1 0 (glZLaw (subLaw zs off n)).length none], .int .i64 (glELaw (subLaw zs off n))], [some ⟨.ints .u8 zs, g, ow, 5⟩, some ⟨.ints .u8 (glALaw (subLaw zs off n)), 1, true, 5⟩, some ⟨.ints .u8 (glBLaw (subLaw zs off n)), 1, true, 5⟩, some ⟨.ints .u8 (glCLaw (subLaw zs off n)), 1, true, 5⟩, some ⟨.ints .u8 (glDLaw (subLaw zs off n)), 1, true, 5⟩, some ⟨.ints .u8 (glZLaw (subLaw zs off n)), 1, true, 5⟩]⟩
theorem nsm13c_ok {args : List AVal} {T : Tab} {zs : List Int} {g : Nat} {off : Nat} {n : Nat} {cp : Option Nat} {ow : Bool} (h : allP (nsm13c args T zs g off n cp ow).cs) : Small prog (fun _ => none) 13 args T (nsm13c args T zs g off n cp ow).val (nsm13c args T zs g off n cp ow).tab := by
  obtain ⟨hT, hv, h1, h2, h3, _⟩ := h
  simp only [Con.h] at hT hv h1 h2 h3
  injection hv with hv
  subst hT hv
  show Small prog (fun _ => none) 13 [.slice 1 0 g off n cp] [some ⟨.ints .u8 zs, g, ow, 5⟩] (.tuple [.agg [.slice 1 1 1 0 (glALaw (subLaw zs off n)).length none, .slice 1 2 1 0 (glBLaw (subLaw zs off n)).length none, .slice 1 3 1 0 (glCLaw (subLaw zs off n)).length none, .int .i64 (glSLaw (subLaw zs off n)), .slice 1 4 1 0 (glDLaw (subLaw zs off n)).length none, .slice 1 5 1 0 (glZLaw (subLaw zs off n)).length none], .int .i64 (glELaw (subLaw zs off n))]) [some ⟨.ints .u8 zs, g, ow, 5⟩, some ⟨.ints .u8 (glALaw (subLaw zs off n)), 1, true, 5⟩, some ⟨.ints .u8 (glBLaw (subLaw zs off n)), 1, true, 5⟩, some ⟨.ints .u8 (glCLaw (subLaw zs off n)), 1, true, 5⟩, some ⟨.ints .u8 (glDLaw (subLaw zs off n)), 1, true, 5⟩, some ⟨.ints .u8 (glZLaw (subLaw zs off n)), 1, true, 5⟩]
  have hb : ByLaw (subLaw zs off n) := h2
  have hl := subLaw_len h1
  have hof : lfOLaw (subLaw zs off n) 0 0 ≤ n := by
    have k := lf_off (B := (subLaw zs off n)) (off := 0) (Nat.zero_le _) 0
    rwa [hl] at k
  by_cases hG : glOK (subLaw zs off n)
  · have hA : ∀ x : List Int, (if glOK (subLaw zs off n) then x else []) = x := fun x => if_pos hG
    unfold glALaw glBLaw glCLaw glDLaw glZLaw glSLaw glELaw
    simp only [if_pos hG]
    obtain ⟨hr, hR⟩ := hG
    have hc := canon_leaf hb ⟨hr, hR⟩
    have hq := leaf_in hR
    refine small_ofG (R := nR13c zs g off n cp ow) eG2c_ok hmN (f := 13) (fn := f13) (by kernel_rfl) (by kernel_rfl) FnOrc.nil rfl (nR13c_ok ?_) nR13c_val nR13c_tab
    simp only [allP, Con.h, eq_self, true_and, and_true, beq_iff_eq, beq_eq_false_iff_ne, ne_eq, decide_eq_true_eq, decide_eq_false_iff_not, hl, hb, hr, h1, h3, hof, Nat.le_refl, Nat.sub_zero, Nat.zero_le, bne_iff_ne, bne_eq_false_iff_eq, Nat.zero_add, not_false_eq_true, not_true_eq_false, hq.2.1, hc, List.take_length, dropO_eq]
    first | exact hR | omega | exact hR | exact h1 | exact h3 | (simp only [subLaw, List.take_take, Nat.min_self])
  · unfold glALaw glBLaw glCLaw glDLaw glZLaw glSLaw glELaw
    simp only [if_neg hG]
    by_cases hr : reLaw (subLaw zs off n) (lfOLaw (subLaw zs off n) 0 0) (lfELaw (subLaw zs off n) 0 0) = 0
    · have hR : ¬ RightL (lfALaw (subLaw zs off n) 0 0) (lfBLaw (subLaw zs off n) 0 0) (lfCLaw (subLaw zs off n) 0 0) (lfSLaw (subLaw zs off n) 0 0) (lfDLaw (subLaw zs off n) 0 0) (lfZLaw (subLaw zs off n) 0 0) := fun h => hG ⟨hr, h⟩
      have hq := leaf_out hR
      exact small_nilU 5 1 (small_nilU 4 1 (small_nilU 2 1 (small_nilU 1 1 (small_nilU 0 1 (small_ofG (R := nR13b zs g off n cp ow) eG2b_ok hmN (f := 13) (fn := f13) (by kernel_rfl) (by kernel_rfl) FnOrc.nil rfl (nR13b_ok (by simp only [allP, Con.h, eq_self, true_and, and_true, beq_iff_eq, beq_eq_false_iff_ne, ne_eq, decide_eq_true_eq, decide_eq_false_iff_not, hl, hb, hr, h1, h3, hof, Nat.le_refl, Nat.sub_zero, Nat.zero_le, bne_iff_ne, bne_eq_false_iff_eq, Nat.zero_add, not_false_eq_true, not_true_eq_false, hq.2.1]; first | exact hR | omega | exact hR | exact h1 | exact h3 | (simp only [subLaw, List.take_take, Nat.min_self])))  nR13b_val nR13b_tab) rfl) rfl) rfl) rfl) rfl
    · exact small_nilU 5 1 (small_nilU 4 1 (small_nilU 2 1 (small_nilU 1 1 (small_nilU 0 1 (small_ofG (R := nR13a zs g off n cp ow) eG2a_ok hmN (f := 13) (fn := f13) (by kernel_rfl) (by kernel_rfl) FnOrc.nil rfl (nR13a_ok (by simp only [allP, Con.h, eq_self, true_and, and_true, beq_iff_eq, beq_eq_false_iff_ne, ne_eq, decide_eq_true_eq, decide_eq_false_iff_not, hl, hb, hr, h1, h3, hof, Nat.le_refl, Nat.sub_zero, Nat.zero_le, bne_iff_ne, bne_eq_false_iff_eq, Nat.zero_add, not_false_eq_true, not_true_eq_false])) nR13a_val nR13a_tab) rfl) rfl) rfl) rfl) rfl
noncomputable def nsm13 : Summary := fun args T => nsm13c args T (xsAt T 0) (gAt T 0) (offOf (vAt args 0)) (lenOf (vAt args 0)) (capOf (vAt args 0)) (owAt T 0)
theorem nsm13_ok : SmOk prog (fun _ => none) 13 nsm13 := fun args T h => nsm13c_ok h
noncomputable def nS13 : Summary := callR nsm13 []
theorem nS13_ok : SumOk prog (fun _ => none) 13 nS13 := callR_ok nsm13_ok _
end Go.Abs

set_option linter.unusedVariables false
set_option linter.unusedSimpArgs false
set_option maxRecDepth 100000
set_option maxHeartbeats 4000000
namespace Go.Abs
open Go.Proofs Go.Proofs.Try
/-! ### knows: closed -/
noncomputable def sumD (m : Mode) (E : Env) (PS : List (Nat × Summary)) (fn : Func) (fu : Nat) (j : Option Nat) (g t : Nat) (ds : List (Option Bool)) (wr : List Bool) : Summary := callR (fun args T0 => settled m (fnRunD E PS fn [] fu j g t args T0 ds)) wr
theorem sumD_ok {m : Mode} {E : Env} (hE : EnvOk E) (hm : E.P.follows .mixedOrders = true) {PS : List (Nat × Summary)} (hP : PsOk E.P E.gl PS) {f : FuncId} {fn : Func} (hf : E.P.funcs[f]? = some fn) (hb : fn.body.isSome = true)
    {g : FuncId} {gfn : Func} (hgf : E.P.funcs[g]? = some gfn) (hgn : (gfn.name == "runtime.NumGoroutine") = false) (hgb : gfn.body.isNone = false) {t : TypeId} (hC : CaughtOk E.P g t .i64) (fu : Nat) (j : Option Nat) (ds : List (Option Bool)) (wr : List Bool) : SumOk E.P E.gl f (sumD m E PS fn fu j g t ds wr) := by
  refine callR_ok (fun args T0 hc => ?_) wr
  obtain ⟨h1, h2, h3⟩ := settled_ok hc
  rw [h2, h3]
  exact fnRunD_small hE hm hP hf hb FnOrc.nil hgf hgn hgb hC h1
noncomputable def nK69 : Summary := sumI modeO eM0 f69 [] 100 [] []
theorem nK69_ok : SumOk prog (fun _ => none) 69 nK69 := sumI_ok eM0_ok hmN (fn := f69) (by kernel_rfl) (by kernel_rfl) [] FnOrc.nil 100 [] []
noncomputable def eK1 : Env := eN0 [(48, nS48), (69, nK69)]
theorem eK1_ok : EnvOk eK1 := envOf_ok tysN_ok (SumsOk.cons (fn := f48) nS48_ok (by kernel_rfl) (by kernel_rfl) (by kernel_rfl) (SumsOk.cons (fn := f69) nK69_ok (by kernel_rfl) (by kernel_rfl) (by kernel_rfl) trivial))
noncomputable def nK49 : Summary := sumI modeO eK1 f49 [] 400 [] []
theorem nK49_ok : SumOk prog (fun _ => none) 49 nK49 := sumI_ok eK1_ok hmN (fn := f49) (by kernel_rfl) (by kernel_rfl) [] FnOrc.nil 400 [] []
noncomputable def nK38 : Summary := sumI modeO (eN0 []) f38 [] 100 [] []
theorem nK38_ok : SumOk prog (fun _ => none) 38 nK38 := sumI_ok eN0_ok hmN (fn := f38) (by kernel_rfl) (by kernel_rfl) [] FnOrc.nil 100 [] []
noncomputable def nK89 : Summary := sumI modeO eC1 f89 [] 400 [] []
theorem nK89_ok : SumOk prog (fun _ => none) 89 nK89 := sumI_ok eC1_ok hmN (fn := f89) (by kernel_rfl) (by kernel_rfl) [] FnOrc.nil 400 [] []
noncomputable def nK73 : Summary := sumI modeO eC1 f73 [] 400 [] []
theorem nK73_ok : SumOk prog (fun _ => none) 73 nK73 := sumI_ok eC1_ok hmN (fn := f73) (by kernel_rfl) (by kernel_rfl) [] FnOrc.nil 400 [] []
noncomputable def eK2 : Env := eN0 [(89, nK89)]
theorem eK2_ok : EnvOk eK2 := envOf_ok tysN_ok (SumsOk.cons (fn := f89) nK89_ok (by kernel_rfl) (by kernel_rfl) (by kernel_rfl) trivial)
noncomputable def nK71 : Summary := sumI modeO eK2 f71 [] 400 [] []
theorem nK71_ok : SumOk prog (fun _ => none) 71 nK71 := sumI_ok eK2_ok hmN (fn := f71) (by kernel_rfl) (by kernel_rfl) [] FnOrc.nil 400 [] []
noncomputable def eK3 : Env := eN0 [(71, nK71), (73, nK73)]
theorem eK3_ok : EnvOk eK3 := envOf_ok tysN_ok (SumsOk.cons (fn := f71) nK71_ok (by kernel_rfl) (by kernel_rfl) (by kernel_rfl) (SumsOk.cons (fn := f73) nK73_ok (by kernel_rfl) (by kernel_rfl) (by kernel_rfl) trivial))
noncomputable def nK70 : Summary := sumI modeO eK3 f70 [] 400 [] [true, true, true, true, true, true, true, true]
theorem nK70_ok : SumOk prog (fun _ => none) 70 nK70 := sumI_ok eK3_ok hmN (fn := f70) (by kernel_rfl) (by kernel_rfl) [] FnOrc.nil 400 [] [true, true, true, true, true, true, true, true]
noncomputable def nK72 : Summary := sumI modeO eK3 f72 [] 400 [] [true, true, true, true, true, true, true, true]
theorem nK72_ok : SumOk prog (fun _ => none) 72 nK72 := sumI_ok eK3_ok hmN (fn := f72) (by kernel_rfl) (by kernel_rfl) [] FnOrc.nil 400 [] [true, true, true, true, true, true, true, true]
noncomputable def eK4 : Env := eN0 [(38, nK38), (49, nK49), (70, nK70), (72, nK72)]
theorem eK4_ok : EnvOk eK4 := envOf_ok tysN_ok (SumsOk.cons (fn := f38) nK38_ok (by kernel_rfl) (by kernel_rfl) (by kernel_rfl) (SumsOk.cons (fn := f49) nK49_ok (by kernel_rfl) (by kernel_rfl) (by kernel_rfl) (SumsOk.cons (fn := f70) nK70_ok (by kernel_rfl) (by kernel_rfl) (by kernel_rfl) (SumsOk.cons (fn := f72) nK72_ok (by kernel_rfl) (by kernel_rfl) (by kernel_rfl) trivial))))
noncomputable def nK21 : Summary := sumD modeO eK4 [] f21 400 none 36 28 [] []
theorem nK21_ok : SumOk prog (fun _ => none) 21 nK21 := sumD_ok eK4_ok hmN PsOk.nil (fn := f21) (by kernel_rfl) (by kernel_rfl) (gfn := f36) (by kernel_rfl) (by kernel_rfl) (by kernel_rfl) caughtN 400 none [] []
noncomputable def nKP37 : Summary := sumP modeO eM1 psN1 f37 400 1 [] []
theorem nKP37_ok : SumOkP prog (fun _ => none) 37 nKP37 := sumP_ok eM1_ok hmN psN1_ok (fn := f37) (by kernel_rfl) 400 1 [] []
noncomputable def psK : List (Nat × Summary) := [(37, nKP37)]
theorem psK_ok : PsOk prog (fun _ => none) psK := (PsOk.cons (fn := f37) nKP37_ok (by kernel_rfl) (by kernel_rfl) (by kernel_rfl) PsOk.nil)
noncomputable def nK11 : Summary := sumD modeO (eN0 []) psK f11 400 (some 0) 36 28 [] []
theorem nK11_ok : SumOk prog (fun _ => none) 11 nK11 := sumD_ok eN0_ok hmN psK_ok (fn := f11) (by kernel_rfl) (by kernel_rfl) (gfn := f36) (by kernel_rfl) (by kernel_rfl) (by kernel_rfl) caughtN 400 (some 0) [] []
noncomputable def nK54 : Summary := sumI modeO eC1 f54 [] 400 [] [true, true]
theorem nK54_ok : SumOk prog (fun _ => none) 54 nK54 := sumI_ok eC1_ok hmN (fn := f54) (by kernel_rfl) (by kernel_rfl) [] FnOrc.nil 400 [] [true, true]
noncomputable def nK79 : Summary := sumI modeO eC1 f79 [] 400 [] [true, true]
theorem nK79_ok : SumOk prog (fun _ => none) 79 nK79 := sumI_ok eC1_ok hmN (fn := f79) (by kernel_rfl) (by kernel_rfl) [] FnOrc.nil 400 [] [true, true]
noncomputable def nK80 : Summary := sumI modeO eC1 f80 [] 400 [] [true, true]
theorem nK80_ok : SumOk prog (fun _ => none) 80 nK80 := sumI_ok eC1_ok hmN (fn := f80) (by kernel_rfl) (by kernel_rfl) [] FnOrc.nil 400 [] [true, true]
noncomputable def eK5 : Env := eN0 [(78, S35), (79, nK79), (80, nK80)]
theorem eK5_ok : EnvOk eK5 := envOf_ok tysN_ok (SumsOk.cons (fn := f78) S35_ok (by kernel_rfl) (by kernel_rfl) (by kernel_rfl) (SumsOk.cons (fn := f79) nK79_ok (by kernel_rfl) (by kernel_rfl) (by kernel_rfl) (SumsOk.cons (fn := f80) nK80_ok (by kernel_rfl) (by kernel_rfl) (by kernel_rfl) trivial)))
noncomputable def nK52 : Summary := sumI modeO eK5 f52 [] 400 [] [true, true]
theorem nK52_ok : SumOk prog (fun _ => none) 52 nK52 := sumI_ok eK5_ok hmN (fn := f52) (by kernel_rfl) (by kernel_rfl) [] FnOrc.nil 400 [] [true, true]
noncomputable def nK42 : Summary := sumI modeO eC1 f42 [] 400 [] []
theorem nK42_ok : SumOk prog (fun _ => none) 42 nK42 := sumI_ok eC1_ok hmN (fn := f42) (by kernel_rfl) (by kernel_rfl) [] FnOrc.nil 400 [] []
noncomputable def nK75 : Summary := sumI modeO eC1 f75 [] 400 [] []
theorem nK75_ok : SumOk prog (fun _ => none) 75 nK75 := sumI_ok eC1_ok hmN (fn := f75) (by kernel_rfl) (by kernel_rfl) [] FnOrc.nil 400 [] []
noncomputable def eK6 : Env := eN0 [(52, nK52), (54, nK54)]
theorem eK6_ok : EnvOk eK6 := envOf_ok tysN_ok (SumsOk.cons (fn := f52) nK52_ok (by kernel_rfl) (by kernel_rfl) (by kernel_rfl) (SumsOk.cons (fn := f54) nK54_ok (by kernel_rfl) (by kernel_rfl) (by kernel_rfl) trivial))
noncomputable def nK44 : Summary := sumI modeO eK6 f44 [] 400 [] [true, true]
theorem nK44_ok : SumOk prog (fun _ => none) 44 nK44 := sumI_ok eK6_ok hmN (fn := f44) (by kernel_rfl) (by kernel_rfl) [] FnOrc.nil 400 [] [true, true]
noncomputable def eK7 : Env := eN0 [(11, nK11), (75, nK75), (76, nS76)]
theorem eK7_ok : EnvOk eK7 := envOf_ok tysN_ok (SumsOk.cons (fn := f11) nK11_ok (by kernel_rfl) (by kernel_rfl) (by kernel_rfl) (SumsOk.cons (fn := f75) nK75_ok (by kernel_rfl) (by kernel_rfl) (by kernel_rfl) (SumsOk.cons (fn := f76) nS76_ok (by kernel_rfl) (by kernel_rfl) (by kernel_rfl) trivial)))
noncomputable def nK43 : Summary := sumI modeO eK7 f43 [] 400 [] [true, true]
theorem nK43_ok : SumOk prog (fun _ => none) 43 nK43 := sumI_ok eK7_ok hmN (fn := f43) (by kernel_rfl) (by kernel_rfl) [] FnOrc.nil 400 [] [true, true]
noncomputable def eK8 : Env := eN0 [(11, nK11), (42, nK42), (43, nK43), (44, nK44)]
theorem eK8_ok : EnvOk eK8 := envOf_ok tysN_ok (SumsOk.cons (fn := f11) nK11_ok (by kernel_rfl) (by kernel_rfl) (by kernel_rfl) (SumsOk.cons (fn := f42) nK42_ok (by kernel_rfl) (by kernel_rfl) (by kernel_rfl) (SumsOk.cons (fn := f43) nK43_ok (by kernel_rfl) (by kernel_rfl) (by kernel_rfl) (SumsOk.cons (fn := f44) nK44_ok (by kernel_rfl) (by kernel_rfl) (by kernel_rfl) trivial))))
noncomputable def nK13 : Summary := sumI modeO eK8 f13 [] 400 [] []
theorem nK13_ok : SumOk prog (fun _ => none) 13 nK13 := sumI_ok eK8_ok hmN (fn := f13) (by kernel_rfl) (by kernel_rfl) [] FnOrc.nil 400 [] []
noncomputable def nS15 : Summary := sumI modeO (eN0 []) f15 [] 100 [] []
theorem nS15_ok : SumOk prog (fun _ => none) 15 nS15 := sumI_ok eN0_ok hmN (fn := f15) (by kernel_rfl) (by kernel_rfl) [] FnOrc.nil 100 [] []
noncomputable def eK9 : Env := eN0 [(13, nK13), (15, nS15), (21, nK21)]
theorem eK9_ok : EnvOk eK9 := envOf_ok tysN_ok (SumsOk.cons (fn := f13) nK13_ok (by kernel_rfl) (by kernel_rfl) (by kernel_rfl) (SumsOk.cons (fn := f15) nS15_ok (by kernel_rfl) (by kernel_rfl) (by kernel_rfl) (SumsOk.cons (fn := f21) nK21_ok (by kernel_rfl) (by kernel_rfl) (by kernel_rfl) trivial)))
noncomputable def nR18  : Res := runF eK9 f18 [] 400 [] [] []
theorem nR18_ok  (h : allP [.p (false = false)]) : OkR (nR18 ) := OkR.dem (fl := bitsF 551 7371020360977896977605543466355265924447336027859925290944262381934006966883000275170270827045359166853507920627165347590711107782339653775546887874486502804798046207) (by kernel_rfl) (by kernel_rfl) (by kernel_rfl) h
theorem nR18_val  : (nR18 ).val = .bool true := by kernel_rfl
noncomputable def nsm18c (args : List AVal) (T : Tab)  : Res := ⟨[.tab T [], .val (.tuple args) (.tuple [])], .bool true, []⟩
theorem nsm18c_ok {args : List AVal} {T : Tab}  (h : allP (nsm18c args T ).cs) : Small prog (fun _ => none) 18 args T (nsm18c args T ).val (nsm18c args T ).tab := by
  obtain ⟨hT, hv, _⟩ := h
  simp only [Con.h] at hT hv
  injection hv with hv
  subst hT hv
  show Small prog (fun _ => none) 18 [] [] (.bool true) []
  have h := small_of (R := nR18) eK9_ok hmN (f := 18) (fn := f18) (by kernel_rfl) (by kernel_rfl) FnOrc.nil rfl (nR18_ok (by simp [allP, Con.h])) nR18_val rfl
  exact small_drop h
noncomputable def nsm18 : Summary := fun args T => nsm18c args T 
theorem nsm18_ok : SmOk prog (fun _ => none) 18 nsm18 := fun args T h => nsm18c_ok h
noncomputable def nS18 : Summary := callR nsm18 []
theorem nS18_ok : SumOk prog (fun _ => none) 18 nS18 := callR_ok nsm18_ok _
end Go.Abs

set_option linter.unusedVariables false
set_option linter.unusedSimpArgs false
set_option maxRecDepth 100000
set_option maxHeartbeats 4000000
namespace Go.Abs
open Go.Proofs Go.Proofs.Try
/-! ### copies, and whether they are the same -/
noncomputable def nS35 : Summary := sumI modeO (eN0 []) f35 [] 100 [] []
theorem nS35_ok : SumOk prog (fun _ => none) 35 nS35 := sumI_ok eN0_ok hmN (fn := f35) (by kernel_rfl) (by kernel_rfl) [] FnOrc.nil 100 [] []
noncomputable def eL10 : Env := eN0 [(35, nS35)]
theorem eL10_ok : EnvOk eL10 := envOf_ok tysN_ok (SumsOk.cons (fn := f35) nS35_ok (by kernel_rfl) (by kernel_rfl) (by kernel_rfl) trivial)
noncomputable def nR10 (a : List Int) (b : List Int) (c : List Int) (d : List Int) (z : List Int) (g1 : Nat) (g2 : Nat) (g3 : Nat) (g4 : Nat) (g5 : Nat) (n1 : Nat) (n2 : Nat) (n3 : Nat) (n4 : Nat) (n5 : Nat) (c1 : Option Nat) (c2 : Option Nat) (c3 : Option Nat) (c4 : Option Nat) (c5 : Option Nat) (o1 : Bool) (o2 : Bool) (o3 : Bool) (o4 : Bool) (o5 : Bool) (s : Int) : Res := resG 5 [0, 1, 2, 3, 4, 7, 8, 9, 10, 11] (runF eL10 f10 [] 400 [.agg [.slice 1 0 g1 0 n1 c1, .slice 1 1 g2 0 n2 c2, .slice 1 2 g3 0 n3 c3, .int .i64 s, .slice 1 3 g4 0 n4 c4, .slice 1 4 g5 0 n5 c5]] [some ⟨.ints .u8 a, g1, o1, 5⟩, some ⟨.ints .u8 b, g2, o2, 5⟩, some ⟨.ints .u8 c, g3, o3, 5⟩, some ⟨.ints .u8 d, g4, o4, 5⟩, some ⟨.ints .u8 z, g5, o5, 5⟩] [])
theorem nR10_ok {a : List Int} {b : List Int} {c : List Int} {d : List Int} {z : List Int} {g1 : Nat} {g2 : Nat} {g3 : Nat} {g4 : Nat} {g5 : Nat} {n1 : Nat} {n2 : Nat} {n3 : Nat} {n4 : Nat} {n5 : Nat} {c1 : Option Nat} {c2 : Option Nat} {c3 : Option Nat} {c4 : Option Nat} {c5 : Option Nat} {o1 : Bool} {o2 : Bool} {o3 : Bool} {o4 : Bool} {o5 : Bool} {s : Int} (h : allP [.eqN g1 g1, .leN n1
 140737488355328, .eqN g1 g1, .leN (0 + n1) a.length, .eqN g2 g2, .leN n2 140737488355328, .eqN g2 g2, .leN (0 + n2) b.length, .eqN g3 g3, .leN n3 140737488355328, .eqN g3 g3, .leN (0 + n3) c.length, .eqN g4 g4, .leN n4 140737488355328, .eqN g4 g4, .leN (0 + n4) d.length, .eqN g5 g5, .leN n5 140737488355328, .eqN g5 g5, .leN (0 + n5) z.length]) : OkR (nR10 a b c d z g1 g2 g3 g4 g5 n1 n2 n3 n4 n5 c1
 c2 c3 c4 c5 o1 o2 o3 o4 o5 s) := OkR.dem (fl := bitsF 158 319702980131707775241976909664992404520137877742) (by kernel_rfl) (by kernel_rfl) (by kernel_rfl) h
theorem nR10_val {a : List Int} {b : List Int} {c : List Int} {d : List Int} {z : List Int} {g1 : Nat} {g2 : Nat} {g3 : Nat} {g4 : Nat} {g5 : Nat} {n1 : Nat} {n2 : Nat} {n3 : Nat} {n4 : Nat} {n5 : Nat} {c1 : Option Nat} {c2 : Option Nat} {c3 : Option Nat} {c4 : Option Nat} {c5 : Option Nat} {o1 : Bool} {o2 : Bool} {o3 : Bool} {o4 : Bool} {o5 : Bool} {s : Int} : (nR10 a b c d z g1 g2 g3 g4 g5 n1 n2
 n3 n4 n5 c1 c2 c3 c4 c5 o1 o2 o3 o4 o5 s).val = .agg [.slice 1 5 1 0 n1 none, .slice 1 6 1 0 n2 none, .slice 1 7 1 0 n3 none, .int .i64 s, .slice 1 8 1 0 n4 none, .slice 1 9 1 0 n5 none] := by kernel_rfl
theorem nR10_tab {a : List Int} {b : List Int} {c : List Int} {d : List Int} {z : List Int} {g1 : Nat} {g2 : Nat} {g3 : Nat} {g4 : Nat} {g5 : Nat} {n1 : Nat} {n2 : Nat} {n3 : Nat} {n4 : Nat} {n5 : Nat} {c1 : Option Nat} {c2 : Option Nat} {c3 : Option Nat} {c4 : Option Nat} {c5 : Option Nat} {o1 : Bool} {o2 : Bool} {o3 : Bool} {o4 : Bool} {o5 : Bool} {s : Int} : (nR10 a b c d z g1 g2 g3 g4 g5 n1 n2
 n3 n4 n5 c1 c2 c3 c4 c5 o1 o2 o3 o4 o5 s).tab = [some ⟨.ints .u8 a, g1, o1, 5⟩, some ⟨.ints .u8 b, g2, o2, 5⟩, some ⟨.ints .u8 c, g3, o3, 5⟩, some ⟨.ints .u8 d, g4, o4, 5⟩, some ⟨.ints .u8 z, g5, o5, 5⟩, some ⟨.ints .u8 ([] ++ List.take n1 a), 1, true, 5⟩, some ⟨.ints .u8 ([] ++ List.take n2 b), 1, true, 5⟩, some ⟨.ints .u8 ([] ++ List.take n3 c), 1, true, 5⟩, some ⟨.ints .u8 ([] ++ List.take n4
 d), 1, true, 5⟩, some ⟨.ints .u8 ([] ++ List.take n5 z), 1, true, 5⟩] := by kernel_rfl
noncomputable def nsm10c (args : List AVal) (T : Tab) (a : List Int) (b : List Int) (c : List Int) (d : List Int) (z : List Int) (g1 : Nat) (g2 : Nat) (g3 : Nat) (g4 : Nat) (g5 : Nat) (n1 : Nat) (n2 : Nat) (n3 : Nat) (n4 : Nat) (n5 : Nat) (c1 : Option Nat) (c2 : Option Nat) (c3 : Option Nat) (c4 : Option Nat) (c5 : Option Nat) (o1 : Bool) (o2 : Bool) (o3 : Bool) (o4 : Bool) (o5 : Bool) (s : Int) : Res := ⟨[.tab T [some ⟨.ints .u8 a, g1, o1, 5⟩, some ⟨.ints .u8 b, g2, o2, 5⟩, some ⟨.ints .u8 c, g3, o3, 5⟩, some ⟨.ints .u8 d, g4, o4, 5⟩, some ⟨.ints .u8 z, g5, o5, 5⟩], .val (.tuple args) (.tuple [.agg [.slice 1 0 g1 0 n1 c1, .slice 1 1 g2 0 n2 c2, .slice 1 2 g3 0 n3 c3, .int .i64 s, .slice 1 3 g4 0 n4 c4, .slice 1 4 g5 0 n5 c5]]), .leN n1 a.length, .leN n2 b.length, .leN n3 c.length, .leN n4 d.length, .leN n5 z.length, .leN n1 140737488355000, .leN n2 140737488355000, .leN n3 140737488355000, .leN n4 140737488355000, .leN n5 140737488355000], .agg [.slice 1 5 1 0 n1 none, .slice 1 6 1 0 n2 none, .slice 1 7 1 0 n3 none, .int .i64 s, .slice 1 8 1 0 n4 none, .slice 1 9 1 0 n5 none], [some ⟨.ints .u8 a, g1, o1, 5⟩, some ⟨.ints .u8 b, g2, o2, 5⟩, some ⟨.ints .u8 c, g3, o3, 5⟩, some ⟨.ints .u8 d, g4, o4, 5⟩, some ⟨.ints .u8 z, g5, o5, 5⟩, some ⟨.ints .u8 (List.take n1 a), 1, true, 5⟩, some ⟨.ints .u8 (List.take n2 b), 1, true, 5⟩, some ⟨.ints .u8 (List.take n3 c), 1, true, 5⟩, some ⟨.ints .u8 (List.take n4 d), 1, true, 5⟩, some ⟨.ints .u8 (List.take n5 z), 1, true, 5⟩]⟩
theorem nsm10c_ok {args : List AVal} {T : Tab} {a : List Int} {b : List Int} {c : List Int} {d : List Int} {z : List Int} {g1 : Nat} {g2 : Nat} {g3 : Nat} {g4 : Nat} {g5 : Nat} {n1 : Nat} {n2 : Nat} {n3 : Nat} {n4 : Nat} {n5 : Nat} {c1 : Option Nat} {c2 : Option Nat} {c3 : Option Nat} {c4 : Option Nat} {c5 : Option Nat} {o1 : Bool} {o2 : Bool} {o3 : Bool} {o4 : Bool} {o5 : Bool} {s : Int} (h : allP (nsm10c args T a b c d z g1 g2 g3 g4 g5 n1 n2 n3 n4 n5 c1 c2 c3 c4 c5 o1 o2 o3 o4 o5 s).cs) : Small prog (fun _ => none) 10 args T (nsm10c args T a b c d z g1 g2 g3 g4 g5 n1 n2 n3 n4 n5 c1 c2 c3 c4 c5 o1 o2 o3 o4 o5 s).val (nsm10c args T a b c d z g1 g2 g3 g4 g5 n1 n2 n3 n4 n5 c1 c2 c3 c4 c5 o1 o2 o3 o4 o5 s).tab := by
  obtain ⟨hT, hv, h1, h2, h3, h4, h5, h6, h7, h8, h9, h10, _⟩ := h
  simp only [Con.h] at hT hv h1 h2 h3 h4 h5 h6 h7 h8 h9 h10
  injection hv with hv
  subst hT hv
  show Small prog (fun _ => none) 10 [.agg [.slice 1 0 g1 0 n1 c1, .slice 1 1 g2 0 n2 c2, .slice 1 2 g3 0 n3 c3, .int .i64 s, .slice 1 3 g4 0 n4 c4, .slice 1 4 g5 0 n5 c5]] [some ⟨.ints .u8 a, g1, o1, 5⟩, some ⟨.ints .u8 b, g2, o2, 5⟩, some ⟨.ints .u8 c, g3, o3, 5⟩, some ⟨.ints .u8 d, g4, o4, 5⟩, some ⟨.ints .u8 z, g5, o5, 5⟩] (.agg [.slice 1 5 1 0 n1 none, .slice 1 6 1 0 n2 none, .slice 1 7 1 0 n3 none, .int .i64 s, .slice 1 8 1 0 n4 none, .slice 1 9 1 0 n5 none]) [some ⟨.ints .u8 a, g1, o1, 5⟩, some ⟨.ints .u8 b, g2, o2, 5⟩, some ⟨.ints .u8 c, g3, o3, 5⟩, some ⟨.ints .u8 d, g4, o4, 5⟩, some ⟨.ints .u8 z, g5, o5, 5⟩, some ⟨.ints .u8 (List.take n1 a), 1, true, 5⟩, some ⟨.ints .u8 (List.take n2 b), 1, true, 5⟩, some ⟨.ints .u8 (List.take n3 c), 1, true, 5⟩, some ⟨.ints .u8 (List.take n4 d), 1, true, 5⟩, some ⟨.ints .u8 (List.take n5 z), 1, true, 5⟩]
  refine small_ofG (R := nR10 a b c d z g1 g2 g3 g4 g5 n1 n2 n3 n4 n5 c1 c2 c3 c4 c5 o1 o2 o3 o4 o5 s) eL10_ok hmN (f := 10) (fn := f10) (by kernel_rfl) (by kernel_rfl) FnOrc.nil rfl (nR10_ok ?_) nR10_val ?_
  · simp only [allP, Con.h, eq_self, true_and, and_true, beq_iff_eq, beq_eq_false_iff_ne, ne_eq, decide_eq_true_eq, decide_eq_false_iff_not, Nat.zero_add]
    omega
  · rw [nR10_tab]
    simp only [List.nil_append]
noncomputable def nsm10 : Summary := fun args T => nsm10c args T (xsAt T 0) (xsAt T 1) (xsAt T 2) (xsAt T 3) (xsAt T 4) (gAt T 0) (gAt T 1) (gAt T 2) (gAt T 3) (gAt T 4) (lenOf ((vAt args 0).get 0)) (lenOf ((vAt args 0).get 1)) (lenOf ((vAt args 0).get 2)) (lenOf ((vAt args 0).get 4)) (lenOf ((vAt args 0).get 5)) (capOf ((vAt args 0).get 0)) (capOf ((vAt args 0).get 1)) (capOf ((vAt args 0).get 2)) (capOf ((vAt args 0).get 4)) (capOf ((vAt args 0).get 5)) (owAt T 0) (owAt T 1) (owAt T 2) (owAt T 3) (owAt T 4) (iOf ((vAt args 0).get 3))
theorem nsm10_ok : SmOk prog (fun _ => none) 10 nsm10 := fun args T h => nsm10c_ok h
noncomputable def nS10 : Summary := callR nsm10 []
theorem nS10_ok : SumOk prog (fun _ => none) 10 nS10 := callR_ok nsm10_ok _
noncomputable def nS16 : Summary := sumI modeO (eN0 []) f16 [] 400 [some true, some true, some true, some true, some true, some true] []
theorem nS16_ok : SumOk prog (fun _ => none) 16 nS16 := sumI_ok eN0_ok hmN (fn := f16) (by kernel_rfl) (by kernel_rfl) [] FnOrc.nil 400 [some true, some true, some true, some true, some true, some true] []
end Go.Abs

set_option linter.unusedVariables false
set_option linter.unusedSimpArgs false
set_option maxRecDepth 100000
set_option maxHeartbeats 4000000
namespace Go.Abs
open Go.Proofs Go.Proofs.Try
/-! ### may a package be? -/
def RightK (n1 n2 n3 n4 : Nat) (s : Int) (n5 n6 n7 : Nat) : Prop := n1 = 32 ∧ RightN n2 n3 n4 s n5 n6 ∧ s = 1 ∧ n7 = 64
instance (n1 n2 n3 n4 : Nat) (s : Int) (n5 n6 n7 : Nat) : Decidable (RightK n1 n2 n3 n4 s n5 n6 n7) := by unfold RightK; exact inferInstance
noncomputable def eM1b : Env := eN0 [(37, nS37), (48, nS48), (69, nS69)]
theorem eM1b_ok : EnvOk eM1b := envOf_ok tysN_ok (SumsOk.cons (fn := f37) nS37_ok (by kernel_rfl) (by kernel_rfl) (by kernel_rfl) (SumsOk.cons (fn := f48) nS48_ok (by kernel_rfl) (by kernel_rfl) (by kernel_rfl) (SumsOk.cons (fn := f69) nS69_ok (by kernel_rfl) (by kernel_rfl) (by kernel_rfl) trivial)))
noncomputable def psN1b : List (Nat × Summary) := [(37, nP37), (48, nP48), (69, nP69)]
theorem psN1b_ok : PsOk prog (fun _ => none) psN1b := (PsOk.cons (fn := f37) nP37_ok (by kernel_rfl) (by kernel_rfl) (by kernel_rfl) (PsOk.cons (fn := f48) nP48_ok (by kernel_rfl) (by kernel_rfl) (by kernel_rfl) (PsOk.cons (fn := f69) nP69_ok (by kernel_rfl) (by kernel_rfl) (by kernel_rfl) PsOk.nil)))
noncomputable def nR58 (x : List Int) (a : List Int) (b : List Int) (c : List Int) (d : List Int) (z : List Int) (y : List Int) (g1 : Nat) (g2 : Nat) (g3 : Nat) (g4 : Nat) (g5 : Nat) (g6 : Nat) (g7 : Nat) (n1 : Nat) (n2 : Nat) (n3 : Nat) (n4 : Nat) (n5 : Nat) (n6 : Nat) (n7 : Nat) (s : Int) : Res := runF eM1b f58 [] 400 [.agg [.slice 1 0 g1 0 n1 none, .slice 1 1 g2 0 n2 none, .slice 1 2 g3 0 n3 none, .slice 1 3 g4 0 n4 none, .int .i64 s, .slice 1 4 g5 0 n5 none, .slice 1 5 g6 0 n6 none, .slice 1 6 g7 0 n7 none]] [some ⟨.ints .u8 x, g1, false, 5⟩, some ⟨.ints .u8 a, g2, false, 5⟩, some ⟨.ints .u8 b, g3, false, 5⟩, some ⟨.ints .u8 c, g4, false, 5⟩, some ⟨.ints .u8 d, g5, false, 5⟩, some ⟨.ints .u8 z, g6, false, 5⟩, some ⟨.ints .u8 y, g7, false, 5⟩] [some true]
theorem nR58_ok {x : List Int} {a : List Int} {b : List Int} {c : List Int} {d : List Int} {z : List Int} {y : List Int} {g1 : Nat} {g2 : Nat} {g3 : Nat} {g4 : Nat} {g5 : Nat} {g6 : Nat} {g7 : Nat} {n1 : Nat} {n2 : Nat} {n3 : Nat} {n4 : Nat} {n5 : Nat} {n6 : Nat} {n7 : Nat} {s : Int} (h : allP [.eqN g1 g1, .eqN g1 g1, .p (((↑n1 : Int) == 32) = true), .eqN g2 g2, .eqN g3 g3, .eqN g4 g4, .eqN g5 g5,
 .eqN g6 g6, .p (n2 = 32 ∧ n3 = 32 ∧ n6 = 64 ∧ 1 ≤ n4 ∧ n4 ≤ 64 ∧ 1 ≤ s ∧ s ≤ 3 ∧ (n5 = 0 ∨ n5 = 32 ∧ s = 3)), .p ((s == 1) = true), .eqN g7 g7, .eqN g7 g7, .p (((↑n7 : Int) == 64) = true)]) : OkR (nR58 x a b c d z y g1 g2 g3 g4 g5 g6 g7 n1 n2 n3 n4 n5 n6 n7 s) := OkR.dem (fl := bitsF 28 31326663) (by kernel_rfl) (by kernel_rfl) (by kernel_rfl) h
theorem nR58_val {x : List Int} {a : List Int} {b : List Int} {c : List Int} {d : List Int} {z : List Int} {y : List Int} {g1 : Nat} {g2 : Nat} {g3 : Nat} {g4 : Nat} {g5 : Nat} {g6 : Nat} {g7 : Nat} {n1 : Nat} {n2 : Nat} {n3 : Nat} {n4 : Nat} {n5 : Nat} {n6 : Nat} {n7 : Nat} {s : Int} : (nR58 x a b c d z y g1 g2 g3 g4 g5 g6 g7 n1 n2 n3 n4 n5 n6 n7 s).val = .tuple [] := by kernel_rfl
theorem nR58_tab {x : List Int} {a : List Int} {b : List Int} {c : List Int} {d : List Int} {z : List Int} {y : List Int} {g1 : Nat} {g2 : Nat} {g3 : Nat} {g4 : Nat} {g5 : Nat} {g6 : Nat} {g7 : Nat} {n1 : Nat} {n2 : Nat} {n3 : Nat} {n4 : Nat} {n5 : Nat} {n6 : Nat} {n7 : Nat} {s : Int} : (nR58 x a b c d z y g1 g2 g3 g4 g5 g6 g7 n1 n2 n3 n4 n5 n6 n7 s).tab = [some ⟨.ints .u8 x, g1, false, 5⟩, some
 ⟨.ints .u8 a, g2, false, 5⟩, some ⟨.ints .u8 b, g3, false, 5⟩, some ⟨.ints .u8 c, g4, false, 5⟩, some ⟨.ints .u8 d, g5, false, 5⟩, some ⟨.ints .u8 z, g6, false, 5⟩, some ⟨.ints .u8 y, g7, false, 5⟩, some ⟨.agg [.slice 1 0 g1 0 n1 none, .slice 1 1 g2 0 n2 none, .slice 1 2 g3 0 n3 none, .slice 1 3 g4 0 n4 none, .int .i64 s, .slice 1 4 g5 0 n5 none, .slice 1 5 g6 0 n6 none, .slice 1 6 g7 0 n7 none],
 0, true, 60⟩] := by kernel_rfl
noncomputable def nP58a (x : List Int) (a : List Int) (b : List Int) (c : List Int) (d : List Int) (z : List Int) (y : List Int) (g1 : Nat) (g2 : Nat) (g3 : Nat) (g4 : Nat) (g5 : Nat) (g6 : Nat) (g7 : Nat) (n1 : Nat) (n2 : Nat) (n3 : Nat) (n4 : Nat) (n5 : Nat) (n6 : Nat) (n7 : Nat) (s : Int) : Res := fnRunP eM1b psN1b f58 400 1 [.agg [.slice 1 0 g1 0 n1 none, .slice 1 1 g2 0 n2 none, .slice 1 2 g3 0 n3 none, .slice 1 3 g4 0 n4 none, .int .i64 s, .slice 1 4 g5 0 n5 none, .slice 1 5 g6 0 n6 none, .slice 1 6 g7 0 n7 none]] [some ⟨.ints .u8 x, g1, false, 5⟩, some ⟨.ints .u8 a, g2, false, 5⟩, some ⟨.ints .u8 b, g3, false, 5⟩, some ⟨.ints .u8 c, g4, false, 5⟩, some ⟨.ints .u8 d, g5, false, 5⟩, some ⟨.ints .u8 z, g6, false, 5⟩, some ⟨.ints .u8 y, g7, false, 5⟩] []
theorem nP58a_ok {x : List Int} {a : List Int} {b : List Int} {c : List Int} {d : List Int} {z : List Int} {y : List Int} {g1 : Nat} {g2 : Nat} {g3 : Nat} {g4 : Nat} {g5 : Nat} {g6 : Nat} {g7 : Nat} {n1 : Nat} {n2 : Nat} {n3 : Nat} {n4 : Nat} {n5 : Nat} {n6 : Nat} {n7 : Nat} {s : Int} (h : allP [.eqN g1 g1, .eqN g1 g1, .p (((↑n1 : Int) == 32) = false)]) : OkR (nP58a x a b c d z y g1 g2 g3 g4 g5 g6
 g7 n1 n2 n3 n4 n5 n6 n7 s) := OkR.dem (fl := [true, true, true, false, false, false]) (by kernel_rfl) (by kernel_rfl) (by kernel_rfl) h
theorem nP58a_val {x : List Int} {a : List Int} {b : List Int} {c : List Int} {d : List Int} {z : List Int} {y : List Int} {g1 : Nat} {g2 : Nat} {g3 : Nat} {g4 : Nat} {g5 : Nat} {g6 : Nat} {g7 : Nat} {n1 : Nat} {n2 : Nat} {n3 : Nat} {n4 : Nat} {n5 : Nat} {n6 : Nat} {n7 : Nat} {s : Int} : (nP58a x a b c d z y g1 g2 g3 g4 g5 g6 g7 n1 n2 n3 n4 n5 n6 n7 s).val = .iface 28 (.int .i64 1) := by kernel_rfl
theorem nP58a_tab {x : List Int} {a : List Int} {b : List Int} {c : List Int} {d : List Int} {z : List Int} {y : List Int} {g1 : Nat} {g2 : Nat} {g3 : Nat} {g4 : Nat} {g5 : Nat} {g6 : Nat} {g7 : Nat} {n1 : Nat} {n2 : Nat} {n3 : Nat} {n4 : Nat} {n5 : Nat} {n6 : Nat} {n7 : Nat} {s : Int} : (nP58a x a b c d z y g1 g2 g3 g4 g5 g6 g7 n1 n2 n3 n4 n5 n6 n7 s).tab = [some ⟨.ints .u8 x, g1, false, 5⟩, some
 ⟨.ints .u8 a, g2, false, 5⟩, some ⟨.ints .u8 b, g3, false, 5⟩, some ⟨.ints .u8 c, g4, false, 5⟩, some ⟨.ints .u8 d, g5, false, 5⟩, some ⟨.ints .u8 z, g6, false, 5⟩, some ⟨.ints .u8 y, g7, false, 5⟩, some ⟨.agg [.slice 1 0 g1 0 n1 none, .slice 1 1 g2 0 n2 none, .slice 1 2 g3 0 n3 none, .slice 1 3 g4 0 n4 none, .int .i64 s, .slice 1 4 g5 0 n5 none, .slice 1 5 g6 0 n6 none, .slice 1 6 g7 0 n7 none],
 0, true, 60⟩] := by kernel_rfl
noncomputable def nP58b (x : List Int) (a : List Int) (b : List Int) (c : List Int) (d : List Int) (z : List Int) (y : List Int) (g1 : Nat) (g2 : Nat) (g3 : Nat) (g4 : Nat) (g5 : Nat) (g6 : Nat) (g7 : Nat) (n1 : Nat) (n2 : Nat) (n3 : Nat) (n4 : Nat) (n5 : Nat) (n6 : Nat) (n7 : Nat) (s : Int) : Res := fnRunP eM1b psN1b f58 400 2 [.agg [.slice 1 0 g1 0 n1 none, .slice 1 1 g2 0 n2 none, .slice 1 2 g3 0 n3 none, .slice 1 3 g4 0 n4 none, .int .i64 s, .slice 1 4 g5 0 n5 none, .slice 1 5 g6 0 n6 none, .slice 1 6 g7 0 n7 none]] [some ⟨.ints .u8 x, g1, false, 5⟩, some ⟨.ints .u8 a, g2, false, 5⟩, some ⟨.ints .u8 b, g3, false, 5⟩, some ⟨.ints .u8 c, g4, false, 5⟩, some ⟨.ints .u8 d, g5, false, 5⟩, some ⟨.ints .u8 z, g6, false, 5⟩, some ⟨.ints .u8 y, g7, false, 5⟩] []
theorem nP58b_ok {x : List Int} {a : List Int} {b : List Int} {c : List Int} {d : List Int} {z : List Int} {y : List Int} {g1 : Nat} {g2 : Nat} {g3 : Nat} {g4 : Nat} {g5 : Nat} {g6 : Nat} {g7 : Nat} {n1 : Nat} {n2 : Nat} {n3 : Nat} {n4 : Nat} {n5 : Nat} {n6 : Nat} {n7 : Nat} {s : Int} (h : allP [.eqN g1 g1, .eqN g1 g1, .p (((↑n1 : Int) == 32) = true), .eqN g2 g2, .eqN g3 g3, .eqN g4 g4, .eqN g5 g5,
 .eqN g6 g6, .p ¬(n2 = 32 ∧ n3 = 32 ∧ n6 = 64 ∧ 1 ≤ n4 ∧ n4 ≤ 64 ∧ 1 ≤ s ∧ s ≤ 3 ∧ (n5 = 0 ∨ n5 = 32 ∧ s = 3))]) : OkR (nP58b x a b c d z y g1 g2 g3 g4 g5 g6 g7 n1 n2 n3 n4 n5 n6 n7 s) := OkR.dem (fl := bitsF 17 455) (by kernel_rfl) (by kernel_rfl) (by kernel_rfl) h
theorem nP58b_val {x : List Int} {a : List Int} {b : List Int} {c : List Int} {d : List Int} {z : List Int} {y : List Int} {g1 : Nat} {g2 : Nat} {g3 : Nat} {g4 : Nat} {g5 : Nat} {g6 : Nat} {g7 : Nat} {n1 : Nat} {n2 : Nat} {n3 : Nat} {n4 : Nat} {n5 : Nat} {n6 : Nat} {n7 : Nat} {s : Int} : (nP58b x a b c d z y g1 g2 g3 g4 g5 g6 g7 n1 n2 n3 n4 n5 n6 n7 s).val = .iface 28 (.int .i64 1) := by kernel_rfl
theorem nP58b_tab {x : List Int} {a : List Int} {b : List Int} {c : List Int} {d : List Int} {z : List Int} {y : List Int} {g1 : Nat} {g2 : Nat} {g3 : Nat} {g4 : Nat} {g5 : Nat} {g6 : Nat} {g7 : Nat} {n1 : Nat} {n2 : Nat} {n3 : Nat} {n4 : Nat} {n5 : Nat} {n6 : Nat} {n7 : Nat} {s : Int} : (nP58b x a b c d z y g1 g2 g3 g4 g5 g6 g7 n1 n2 n3 n4 n5 n6 n7 s).tab = [some ⟨.ints .u8 x, g1, false, 5⟩, some
 ⟨.ints .u8 a, g2, false, 5⟩, some ⟨.ints .u8 b, g3, false, 5⟩, some ⟨.ints .u8 c, g4, false, 5⟩, some ⟨.ints .u8 d, g5, false, 5⟩, some ⟨.ints .u8 z, g6, false, 5⟩, some ⟨.ints .u8 y, g7, false, 5⟩, some ⟨.agg [.slice 1 0 g1 0 n1 none, .slice 1 1 g2 0 n2 none, .slice 1 2 g3 0 n3 none, .slice 1 3 g4 0 n4 none, .int .i64 s, .slice 1 4 g5 0 n5 none, .slice 1 5 g6 0 n6 none, .slice 1 6 g7 0 n7 none],
 0, true, 60⟩] := by kernel_rfl
noncomputable def nP58c (x : List Int) (a : List Int) (b : List Int) (c : List Int) (d : List Int) (z : List Int) (y : List Int) (g1 : Nat) (g2 : Nat) (g3 : Nat) (g4 : Nat) (g5 : Nat) (g6 : Nat) (g7 : Nat) (n1 : Nat) (n2 : Nat) (n3 : Nat) (n4 : Nat) (n5 : Nat) (n6 : Nat) (n7 : Nat) (s : Int) : Res := fnRunP eM1b psN1b f58 400 3 [.agg [.slice 1 0 g1 0 n1 none, .slice 1 1 g2 0 n2 none, .slice 1 2 g3 0 n3 none, .slice 1 3 g4 0 n4 none, .int .i64 s, .slice 1 4 g5 0 n5 none, .slice 1 5 g6 0 n6 none, .slice 1 6 g7 0 n7 none]] [some ⟨.ints .u8 x, g1, false, 5⟩, some ⟨.ints .u8 a, g2, false, 5⟩, some ⟨.ints .u8 b, g3, false, 5⟩, some ⟨.ints .u8 c, g4, false, 5⟩, some ⟨.ints .u8 d, g5, false, 5⟩, some ⟨.ints .u8 z, g6, false, 5⟩, some ⟨.ints .u8 y, g7, false, 5⟩] [some false]
theorem nP58c_ok {x : List Int} {a : List Int} {b : List Int} {c : List Int} {d : List Int} {z : List Int} {y : List Int} {g1 : Nat} {g2 : Nat} {g3 : Nat} {g4 : Nat} {g5 : Nat} {g6 : Nat} {g7 : Nat} {n1 : Nat} {n2 : Nat} {n3 : Nat} {n4 : Nat} {n5 : Nat} {n6 : Nat} {n7 : Nat} {s : Int} (h : allP [.eqN g1 g1, .eqN g1 g1, .p (((↑n1 : Int) == 32) = true), .eqN g2 g2, .eqN g3 g3, .eqN g4 g4, .eqN g5 g5,
 .eqN g6 g6, .p (n2 = 32 ∧ n3 = 32 ∧ n6 = 64 ∧ 1 ≤ n4 ∧ n4 ≤ 64 ∧ 1 ≤ s ∧ s ≤ 3 ∧ (n5 = 0 ∨ n5 = 32 ∧ s = 3)), .p ((s == 1) = false)]) : OkR (nP58c x a b c d z y g1 g2 g3 g4 g5 g6 g7 n1 n2 n3 n4 n5 n6 n7 s) := OkR.dem (fl := bitsF 22 1966535) (by kernel_rfl) (by kernel_rfl) (by kernel_rfl) h
theorem nP58c_val {x : List Int} {a : List Int} {b : List Int} {c : List Int} {d : List Int} {z : List Int} {y : List Int} {g1 : Nat} {g2 : Nat} {g3 : Nat} {g4 : Nat} {g5 : Nat} {g6 : Nat} {g7 : Nat} {n1 : Nat} {n2 : Nat} {n3 : Nat} {n4 : Nat} {n5 : Nat} {n6 : Nat} {n7 : Nat} {s : Int} : (nP58c x a b c d z y g1 g2 g3 g4 g5 g6 g7 n1 n2 n3 n4 n5 n6 n7 s).val = .iface 28 (.int .i64 1) := by kernel_rfl
theorem nP58c_tab {x : List Int} {a : List Int} {b : List Int} {c : List Int} {d : List Int} {z : List Int} {y : List Int} {g1 : Nat} {g2 : Nat} {g3 : Nat} {g4 : Nat} {g5 : Nat} {g6 : Nat} {g7 : Nat} {n1 : Nat} {n2 : Nat} {n3 : Nat} {n4 : Nat} {n5 : Nat} {n6 : Nat} {n7 : Nat} {s : Int} : (nP58c x a b c d z y g1 g2 g3 g4 g5 g6 g7 n1 n2 n3 n4 n5 n6 n7 s).tab = [some ⟨.ints .u8 x, g1, false, 5⟩, some
 ⟨.ints .u8 a, g2, false, 5⟩, some ⟨.ints .u8 b, g3, false, 5⟩, some ⟨.ints .u8 c, g4, false, 5⟩, some ⟨.ints .u8 d, g5, false, 5⟩, some ⟨.ints .u8 z, g6, false, 5⟩, some ⟨.ints .u8 y, g7, false, 5⟩, some ⟨.agg [.slice 1 0 g1 0 n1 none, .slice 1 1 g2 0 n2 none, .slice 1 2 g3 0 n3 none, .slice 1 3 g4 0 n4 none, .int .i64 s, .slice 1 4 g5 0 n5 none, .slice 1 5 g6 0 n6 none, .slice 1 6 g7 0 n7 none],
 0, true, 60⟩] := by kernel_rfl
noncomputable def nP58d (x : List Int) (a : List Int) (b : List Int) (c : List Int) (d : List Int) (z : List Int) (y : List Int) (g1 : Nat) (g2 : Nat) (g3 : Nat) (g4 : Nat) (g5 : Nat) (g6 : Nat) (g7 : Nat) (n1 : Nat) (n2 : Nat) (n3 : Nat) (n4 : Nat) (n5 : Nat) (n6 : Nat) (n7 : Nat) (s : Int) : Res := fnRunP eM1b psN1b f58 400 4 [.agg [.slice 1 0 g1 0 n1 none, .slice 1 1 g2 0 n2 none, .slice 1 2 g3 0 n3 none, .slice 1 3 g4 0 n4 none, .int .i64 s, .slice 1 4 g5 0 n5 none, .slice 1 5 g6 0 n6 none, .slice 1 6 g7 0 n7 none]] [some ⟨.ints .u8 x, g1, false, 5⟩, some ⟨.ints .u8 a, g2, false, 5⟩, some ⟨.ints .u8 b, g3, false, 5⟩, some ⟨.ints .u8 c, g4, false, 5⟩, some ⟨.ints .u8 d, g5, false, 5⟩, some ⟨.ints .u8 z, g6, false, 5⟩, some ⟨.ints .u8 y, g7, false, 5⟩] [some true]
theorem nP58d_ok {x : List Int} {a : List Int} {b : List Int} {c : List Int} {d : List Int} {z : List Int} {y : List Int} {g1 : Nat} {g2 : Nat} {g3 : Nat} {g4 : Nat} {g5 : Nat} {g6 : Nat} {g7 : Nat} {n1 : Nat} {n2 : Nat} {n3 : Nat} {n4 : Nat} {n5 : Nat} {n6 : Nat} {n7 : Nat} {s : Int} (h : allP [.eqN g1 g1, .eqN g1 g1, .p (((↑n1 : Int) == 32) = true), .eqN g2 g2, .eqN g3 g3, .eqN g4 g4, .eqN g5 g5,
 .eqN g6 g6, .p (n2 = 32 ∧ n3 = 32 ∧ n6 = 64 ∧ 1 ≤ n4 ∧ n4 ≤ 64 ∧ 1 ≤ s ∧ s ≤ 3 ∧ (n5 = 0 ∨ n5 = 32 ∧ s = 3)), .p ((s == 1) = true), .eqN g7 g7, .eqN g7 g7, .p (((↑n7 : Int) == 64) = false)]) : OkR (nP58d x a b c d z y g1 g2 g3 g4 g5 g6 g7 n1 n2 n3 n4 n5 n6 n7 s) := OkR.dem (fl := bitsF 28 31326663) (by kernel_rfl) (by kernel_rfl) (by kernel_rfl) h
theorem nP58d_val {x : List Int} {a : List Int} {b : List Int} {c : List Int} {d : List Int} {z : List Int} {y : List Int} {g1 : Nat} {g2 : Nat} {g3 : Nat} {g4 : Nat} {g5 : Nat} {g6 : Nat} {g7 : Nat} {n1 : Nat} {n2 : Nat} {n3 : Nat} {n4 : Nat} {n5 : Nat} {n6 : Nat} {n7 : Nat} {s : Int} : (nP58d x a b c d z y g1 g2 g3 g4 g5 g6 g7 n1 n2 n3 n4 n5 n6 n7 s).val = .iface 28 (.int .i64 1) := by kernel_rfl
theorem nP58d_tab {x : List Int} {a : List Int} {b : List Int} {c : List Int} {d : List Int} {z : List Int} {y : List Int} {g1 : Nat} {g2 : Nat} {g3 : Nat} {g4 : Nat} {g5 : Nat} {g6 : Nat} {g7 : Nat} {n1 : Nat} {n2 : Nat} {n3 : Nat} {n4 : Nat} {n5 : Nat} {n6 : Nat} {n7 : Nat} {s : Int} : (nP58d x a b c d z y g1 g2 g3 g4 g5 g6 g7 n1 n2 n3 n4 n5 n6 n7 s).tab = [some ⟨.ints .u8 x, g1, false, 5⟩, some
 ⟨.ints .u8 a, g2, false, 5⟩, some ⟨.ints .u8 b, g3, false, 5⟩, some ⟨.ints .u8 c, g4, false, 5⟩, some ⟨.ints .u8 d, g5, false, 5⟩, some ⟨.ints .u8 z, g6, false, 5⟩, some ⟨.ints .u8 y, g7, false, 5⟩, some ⟨.agg [.slice 1 0 g1 0 n1 none, .slice 1 1 g2 0 n2 none, .slice 1 2 g3 0 n3 none, .slice 1 3 g4 0 n4 none, .int .i64 s, .slice 1 4 g5 0 n5 none, .slice 1 5 g6 0 n6 none, .slice 1 6 g7 0 n7 none],
 0, true, 60⟩] := by kernel_rfl
noncomputable def nsm58c (args : List AVal) (T : Tab) (x : List Int) (a : List Int) (b : List Int) (c : List Int) (d : List Int) (z : List Int) (y : List Int) (g1 : Nat) (g2 : Nat) (g3 : Nat) (g4 : Nat) (g5 : Nat) (g6 : Nat) (g7 : Nat) (n1 : Nat) (n2 : Nat) (n3 : Nat) (n4 : Nat) (n5 : Nat) (n6 : Nat) (n7 : Nat) (s : Int) : Res := ⟨[.tab T [some ⟨.ints .u8 x, g1, false, 5⟩, some ⟨.ints .u8 a, g2, false, 5⟩, some ⟨.ints .u8 b, g3, false, 5⟩, some ⟨.ints .u8 c, g4, false, 5⟩, some ⟨.ints .u8 d, g5, false, 5⟩, some ⟨.ints .u8 z, g6, false, 5⟩, some ⟨.ints .u8 y, g7, false, 5⟩], .val (.tuple args) (.tuple [.agg [.slice 1 0 g1 0 n1 none, .slice 1 1 g2 0 n2 none, .slice 1 2 g3 0 n3 none, .slice 1 3 g4 0 n4 none, .int .i64 s, .slice 1 4 g5 0 n5 none, .slice 1 5 g6 0 n6 none, .slice 1 6 g7 0 n7 none]]), .p (RightK n1 n2 n3 n4 s n5 n6 n7)], un, [some ⟨.ints .u8 x, g1, false, 5⟩, some ⟨.ints .u8 a, g2, false, 5⟩, some ⟨.ints .u8 b, g3, false, 5⟩, some ⟨.ints .u8 c, g4, false, 5⟩, some ⟨.ints .u8 d, g5, false, 5⟩, some ⟨.ints .u8 z, g6, false, 5⟩, some ⟨.ints .u8 y, g7, false, 5⟩]⟩
theorem nsm58c_ok {args : List AVal} {T : Tab} {x : List Int} {a : List Int} {b : List Int} {c : List Int} {d : List Int} {z : List Int} {y : List Int} {g1 : Nat} {g2 : Nat} {g3 : Nat} {g4 : Nat} {g5 : Nat} {g6 : Nat} {g7 : Nat} {n1 : Nat} {n2 : Nat} {n3 : Nat} {n4 : Nat} {n5 : Nat} {n6 : Nat} {n7 : Nat} {s : Int} (h : allP (nsm58c args T x a b c d z y g1 g2 g3 g4 g5 g6 g7 n1 n2 n3 n4 n5 n6 n7 s).cs) : Small prog (fun _ => none) 58 args T (nsm58c args T x a b c d z y g1 g2 g3 g4 g5 g6 g7 n1 n2 n3 n4 n5 n6 n7 s).val (nsm58c args T x a b c d z y g1 g2 g3 g4 g5 g6 g7 n1 n2 n3 n4 n5 n6 n7 s).tab := by
  obtain ⟨hT, hv, h1, _⟩ := h
  simp only [Con.h] at hT hv h1
  injection hv with hv
  subst hT hv
  show Small prog (fun _ => none) 58 [.agg [.slice 1 0 g1 0 n1 none, .slice 1 1 g2 0 n2 none, .slice 1 2 g3 0 n3 none, .slice 1 3 g4 0 n4 none, .int .i64 s, .slice 1 4 g5 0 n5 none, .slice 1 5 g6 0 n6 none, .slice 1 6 g7 0 n7 none]] [some ⟨.ints .u8 x, g1, false, 5⟩, some ⟨.ints .u8 a, g2, false, 5⟩, some ⟨.ints .u8 b, g3, false, 5⟩, some ⟨.ints .u8 c, g4, false, 5⟩, some ⟨.ints .u8 d, g5, false, 5⟩, some ⟨.ints .u8 z, g6, false, 5⟩, some ⟨.ints .u8 y, g7, false, 5⟩] (un) [some ⟨.ints .u8 x, g1, false, 5⟩, some ⟨.ints .u8 a, g2, false, 5⟩, some ⟨.ints .u8 b, g3, false, 5⟩, some ⟨.ints .u8 c, g4, false, 5⟩, some ⟨.ints .u8 d, g5, false, 5⟩, some ⟨.ints .u8 z, g6, false, 5⟩, some ⟨.ints .u8 y, g7, false, 5⟩]
  have h1 : RightK n1 n2 n3 n4 s n5 n6 n7 := h1
  obtain ⟨q1, q2, q3, q4⟩ := h1
  exact small_drop (small_of (R := nR58 x a b c d z y g1 g2 g3 g4 g5 g6 g7 n1 n2 n3 n4 n5 n6 n7 s) eM1b_ok hmN (f := 58) (fn := f58) (by kernel_rfl) (by kernel_rfl) FnOrc.nil rfl (nR58_ok (by
      simp only [allP, Con.h, eq_self, true_and, and_true, beq_iff_eq, beq_eq_false_iff_ne, ne_eq, decide_eq_true_eq, decide_eq_false_iff_not]
      first | exact ⟨by omega, q2, by omega, by omega⟩ | (simp only [q2]; omega))) nR58_val nR58_tab)
noncomputable def nsm58 : Summary := fun args T => nsm58c args T (xsAt T 0) (xsAt T 1) (xsAt T 2) (xsAt T 3) (xsAt T 4) (xsAt T 5) (xsAt T 6) (gAt T 0) (gAt T 1) (gAt T 2) (gAt T 3) (gAt T 4) (gAt T 5) (gAt T 6) (lenOf ((vAt args 0).get 0)) (lenOf ((vAt args 0).get 1)) (lenOf ((vAt args 0).get 2)) (lenOf ((vAt args 0).get 3)) (lenOf ((vAt args 0).get 5)) (lenOf ((vAt args 0).get 6)) (lenOf ((vAt args 0).get 7)) (iOf ((vAt args 0).get 4))
theorem nsm58_ok : SmOk prog (fun _ => none) 58 nsm58 := fun args T h => nsm58c_ok h
noncomputable def nS58 : Summary := callR nsm58 []
theorem nS58_ok : SumOk prog (fun _ => none) 58 nS58 := callR_ok nsm58_ok []
noncomputable def nsm58pc (args : List AVal) (T : Tab) (x : List Int) (a : List Int) (b : List Int) (c : List Int) (d : List Int) (z : List Int) (y : List Int) (g1 : Nat) (g2 : Nat) (g3 : Nat) (g4 : Nat) (g5 : Nat) (g6 : Nat) (g7 : Nat) (n1 : Nat) (n2 : Nat) (n3 : Nat) (n4 : Nat) (n5 : Nat) (n6 : Nat) (n7 : Nat) (s : Int) : Res := ⟨[.tab T [some ⟨.ints .u8 x, g1, false, 5⟩, some ⟨.ints .u8 a, g2, false, 5⟩, some ⟨.ints .u8 b, g3, false, 5⟩, some ⟨.ints .u8 c, g4, false, 5⟩, some ⟨.ints .u8 d, g5, false, 5⟩, some ⟨.ints .u8 z, g6, false, 5⟩, some ⟨.ints .u8 y, g7, false, 5⟩], .val (.tuple args) (.tuple [.agg [.slice 1 0 g1 0 n1 none, .slice 1 1 g2 0 n2 none, .slice 1 2 g3 0 n3 none, .slice 1 3 g4 0 n4 none, .int .i64 s, .slice 1 4 g5 0 n5 none, .slice 1 5 g6 0 n6 none, .slice 1 6 g7 0 n7 none]]), .p (¬ RightK n1 n2 n3 n4 s n5 n6 n7)], (.iface 28 (.int .i64 1)), [some ⟨.ints .u8 x, g1, false, 5⟩, some ⟨.ints .u8 a, g2, false, 5⟩, some ⟨.ints .u8 b, g3, false, 5⟩, some ⟨.ints .u8 c, g4, false, 5⟩, some ⟨.ints .u8 d, g5, false, 5⟩, some ⟨.ints .u8 z, g6, false, 5⟩, some ⟨.ints .u8 y, g7, false, 5⟩]⟩
theorem nsm58pc_ok {args : List AVal} {T : Tab} {x : List Int} {a : List Int} {b : List Int} {c : List Int} {d : List Int} {z : List Int} {y : List Int} {g1 : Nat} {g2 : Nat} {g3 : Nat} {g4 : Nat} {g5 : Nat} {g6 : Nat} {g7 : Nat} {n1 : Nat} {n2 : Nat} {n3 : Nat} {n4 : Nat} {n5 : Nat} {n6 : Nat} {n7 : Nat} {s : Int} (h : allP (nsm58pc args T x a b c d z y g1 g2 g3 g4 g5 g6 g7 n1 n2 n3 n4 n5 n6 n7 s).cs) : SmallE finP prog (fun _ => none) 58 args T (nsm58pc args T x a b c d z y g1 g2 g3 g4 g5 g6 g7 n1 n2 n3 n4 n5 n6 n7 s).val (nsm58pc args T x a b c d z y g1 g2 g3 g4 g5 g6 g7 n1 n2 n3 n4 n5 n6 n7 s).tab := by
  obtain ⟨hT, hv, h1, _⟩ := h
  simp only [Con.h] at hT hv h1
  injection hv with hv
  subst hT hv
  show SmallE finP prog (fun _ => none) 58 [.agg [.slice 1 0 g1 0 n1 none, .slice 1 1 g2 0 n2 none, .slice 1 2 g3 0 n3 none, .slice 1 3 g4 0 n4 none, .int .i64 s, .slice 1 4 g5 0 n5 none, .slice 1 5 g6 0 n6 none, .slice 1 6 g7 0 n7 none]] [some ⟨.ints .u8 x, g1, false, 5⟩, some ⟨.ints .u8 a, g2, false, 5⟩, some ⟨.ints .u8 b, g3, false, 5⟩, some ⟨.ints .u8 c, g4, false, 5⟩, some ⟨.ints .u8 d, g5, false, 5⟩, some ⟨.ints .u8 z, g6, false, 5⟩, some ⟨.ints .u8 y, g7, false, 5⟩] ((.iface 28 (.int .i64 1))) [some ⟨.ints .u8 x, g1, false, 5⟩, some ⟨.ints .u8 a, g2, false, 5⟩, some ⟨.ints .u8 b, g3, false, 5⟩, some ⟨.ints .u8 c, g4, false, 5⟩, some ⟨.ints .u8 d, g5, false, 5⟩, some ⟨.ints .u8 z, g6, false, 5⟩, some ⟨.ints .u8 y, g7, false, 5⟩]
  have h1 : ¬ RightK n1 n2 n3 n4 s n5 n6 n7 := h1
  unfold RightK at h1
  by_cases qa : n1 = 32
  rotate_left
  · exact small_drop (small_ofP (R := nP58a x a b c d z y g1 g2 g3 g4 g5 g6 g7 n1 n2 n3 n4 n5 n6 n7 s) eM1b_ok hmN psN1b_ok (f := 58) (fn := f58) (by kernel_rfl) rfl (nP58a_ok (by
      simp only [allP, Con.h, eq_self, true_and, and_true, beq_iff_eq, beq_eq_false_iff_ne, ne_eq, decide_eq_true_eq, decide_eq_false_iff_not]
      omega)) nP58a_val nP58a_tab)
  by_cases qb : RightN n2 n3 n4 s n5 n6
  rotate_left
  · exact small_drop (small_ofP (R := nP58b x a b c d z y g1 g2 g3 g4 g5 g6 g7 n1 n2 n3 n4 n5 n6 n7 s) eM1b_ok hmN psN1b_ok (f := 58) (fn := f58) (by kernel_rfl) rfl (nP58b_ok (by
      simp only [allP, Con.h, eq_self, true_and, and_true, beq_iff_eq, beq_eq_false_iff_ne, ne_eq, decide_eq_true_eq, decide_eq_false_iff_not]
      first | exact ⟨by omega, qb⟩ | (simp only [qb]; omega))) nP58b_val nP58b_tab)
  by_cases qc : s = 1
  rotate_left
  · exact small_drop (small_ofP (R := nP58c x a b c d z y g1 g2 g3 g4 g5 g6 g7 n1 n2 n3 n4 n5 n6 n7 s) eM1b_ok hmN psN1b_ok (f := 58) (fn := f58) (by kernel_rfl) rfl (nP58c_ok (by
      simp only [allP, Con.h, eq_self, true_and, and_true, beq_iff_eq, beq_eq_false_iff_ne, ne_eq, decide_eq_true_eq, decide_eq_false_iff_not]
      first | exact ⟨by omega, qb, by omega⟩ | (simp only [qb]; omega))) nP58c_val nP58c_tab)
  by_cases qd : n7 = 64
  rotate_left
  · exact small_drop (small_ofP (R := nP58d x a b c d z y g1 g2 g3 g4 g5 g6 g7 n1 n2 n3 n4 n5 n6 n7 s) eM1b_ok hmN psN1b_ok (f := 58) (fn := f58) (by kernel_rfl) rfl (nP58d_ok (by
      simp only [allP, Con.h, eq_self, true_and, and_true, beq_iff_eq, beq_eq_false_iff_ne, ne_eq, decide_eq_true_eq, decide_eq_false_iff_not]
      first | exact ⟨by omega, qb, by omega, by omega⟩ | (simp only [qb]; omega))) nP58d_val nP58d_tab)
  exact absurd ⟨qa, qb, qc, qd⟩ h1
noncomputable def nsm58p : Summary := fun args T => nsm58pc args T (xsAt T 0) (xsAt T 1) (xsAt T 2) (xsAt T 3) (xsAt T 4) (xsAt T 5) (xsAt T 6) (gAt T 0) (gAt T 1) (gAt T 2) (gAt T 3) (gAt T 4) (gAt T 5) (gAt T 6) (lenOf ((vAt args 0).get 0)) (lenOf ((vAt args 0).get 1)) (lenOf ((vAt args 0).get 2)) (lenOf ((vAt args 0).get 3)) (lenOf ((vAt args 0).get 5)) (lenOf ((vAt args 0).get 6)) (lenOf ((vAt args 0).get 7)) (iOf ((vAt args 0).get 4))
theorem nsm58p_ok : SmOkP prog (fun _ => none) 58 nsm58p := fun args T h => nsm58pc_ok h
noncomputable def nP58 : Summary := callR nsm58p []
theorem nP58_ok : SumOkP prog (fun _ => none) 58 nP58 := callR_okP nsm58p_ok []
def oneLaw (s : Int) : Int := if s = 1 then 1 else 1
theorem one_eq (s : Int) : oneLaw s = 1 := by unfold oneLaw; split <;> rfl
def offerLaw (x a b c : List Int) (s : Int) (d z : List Int) : List Int := numLaw (oneLaw s) 2 ++ (numLaw (oneLaw s) 2 ++ (vec1Law x ++ (bareLaw a b c s d ++ vec1Law z)))
theorem offer_len (x a b c : List Int) (s : Int) (d z : List Int) : (offerLaw x a b c s d z).length ≤ x.length + a.length + b.length + c.length + d.length + z.length + 50 := by
  have hb := bare_len a b c s d
  have hX := lenLaw_len (x.length : Int)
  have hZ := lenLaw_len (z.length : Int)
  have hN := num_len 1 2
  unfold offerLaw vec1Law
  simp only [List.length_append, one_eq]
  omega
noncomputable def eM5b : Env := eN0 [(39, nS39), (70, nS70), (72, nS72)]
theorem eM5b_ok : EnvOk eM5b := envOf_ok tysN_ok (SumsOk.cons (fn := f39) nS39_ok (by kernel_rfl) (by kernel_rfl) (by kernel_rfl) (SumsOk.cons (fn := f70) nS70_ok (by kernel_rfl) (by kernel_rfl) (by kernel_rfl) (SumsOk.cons (fn := f72) nS72_ok (by kernel_rfl) (by kernel_rfl) (by kernel_rfl) trivial)))
noncomputable def nR59 (x : List Int) (a : List Int) (b : List Int) (c : List Int) (d : List Int) (z : List Int) (y : List Int) (g1 : Nat) (g2 : Nat) (g3 : Nat) (g4 : Nat) (g5 : Nat) (g6 : Nat) (g7 : Nat) (n1 : Nat) (n2 : Nat) (n3 : Nat) (n4 : Nat) (n5 : Nat) (n6 : Nat) (n7 : Nat) (s : Int) (X : List Int) (gC : Nat) (gW : Nat) (gB : Nat) (m : Nat) (owC : Bool) : Res := resG 10 [0, 1, 2, 3, 4, 5, 6, 7, 8, 9] (runF eM5b f59 [] 400 [.var 0 gW, .agg [.slice 1 1 g1 0 n1 none, .slice 1 2 g2 0 n2 none, .slice 1 3 g3 0 n3 none, .slice 1 4 g4 0 n4 none, .int .i64 s, .slice 1 5 g5 0 n5 none, .slice 1 6 g6 0 n6 none, .slice 1 7 g7 0 n7 none]] [some ⟨.agg [.slice 1 8 gB 0 m none, .func (.func 70) [] [.var 9 gC], .func (.func 72) [] [.var 9 gC]], gW, true, 81⟩, some ⟨.ints .u8 x, g1, false, 5⟩, some ⟨.ints .u8 a, g2, false, 5⟩, some ⟨.ints .u8 b, g3, false, 5⟩, some ⟨.ints .u8 c, g4, false, 5⟩, some ⟨.ints .u8 d, g5, false, 5⟩, some ⟨.ints .u8 z, g6, false, 5⟩, some ⟨.ints .u8 y, g7, false, 5⟩, some ⟨.ints .u8 X, gB, true, 5⟩, some ⟨.agg [.var 0 gW], gC, owC, 75⟩] [])
theorem nR59_ok {x : List Int} {a : List Int} {b : List Int} {c : List Int} {d : List Int} {z : List Int} {y : List Int} {g1 : Nat} {g2 : Nat} {g3 : Nat} {g4 : Nat} {g5 : Nat} {g6 : Nat} {g7 : Nat} {n1 : Nat} {n2 : Nat} {n3 : Nat} {n4 : Nat} {n5 : Nat} {n6 : Nat} {n7 : Nat} {s : Int} {X : List Int} {gC : Nat} {gW : Nat} {gB : Nat} {m : Nat} {owC : Bool} (h : allP [.eqN gW gW, .eqN gW gW, .eqN gW
 gW, .eqN gC gC, .eqN m X.length, .leN m 140737488000000, .eqN gW gW, .eqN gW gW, .eqN gW gW, .eqN gC gC, .eqN (X ++ numLaw 1 2).length (X ++ numLaw 1 2).length, .leN (X ++ numLaw 1 2).length 140737488000000, .eqN gW gW, .eqN gW gW, .eqN gW gW, .eqN gC gC, .eqN g1 g1, .leN n1 x.length, .leN n1 65536, .eqN (X ++ numLaw 1 2 ++ numLaw 1 2).length (X ++ numLaw 1 2 ++ numLaw 1 2).length, .leN (X ++
 numLaw 1 2 ++ numLaw 1 2).length 140737488000000, .eqN g2 g2, .eqN g3 g3, .eqN g4 g4, .eqN g5 g5, .eqN g6 g6, .eqN gC gC, .eqN n2 a.length, .eqN n3 b.length, .eqN n4 c.length, .eqN n5 d.length, .leN n2 65536, .leN n3 65536, .leN n4 65536, .leN n5 65536, .eqN (X ++ numLaw 1 2 ++ numLaw 1 2 ++ v1Law n1 x).length (X ++ numLaw 1 2 ++ numLaw 1 2 ++ v1Law n1 x).length, .leN (X ++ numLaw 1 2 ++ numLaw 1 2
 ++ v1Law n1 x).length 140737480000000, .eqN gW gW, .eqN gW gW, .eqN gW gW, .eqN gC gC, .eqN g6 g6, .leN n6 z.length, .leN n6 65536, .eqN (X ++ numLaw 1 2 ++ numLaw 1 2 ++ v1Law n1 x ++ bareLaw a b c s d).length (X ++ numLaw 1 2 ++ numLaw 1 2 ++ v1Law n1 x ++ bareLaw a b c s d).length, .leN (X ++ numLaw 1 2 ++ numLaw 1 2 ++ v1Law n1 x ++ bareLaw a b c s d).length 140737488000000]) : OkR (nR59 x a b
 c d z y g1 g2 g3 g4 g5 g6 g7 n1 n2 n3 n4 n5 n6 n7 s X gC gW gB m owC) := OkR.dem (fl := bitsF 84 28297305416768639995912) (by kernel_rfl) (by kernel_rfl) (by kernel_rfl) h
theorem nR59_val {x : List Int} {a : List Int} {b : List Int} {c : List Int} {d : List Int} {z : List Int} {y : List Int} {g1 : Nat} {g2 : Nat} {g3 : Nat} {g4 : Nat} {g5 : Nat} {g6 : Nat} {g7 : Nat} {n1 : Nat} {n2 : Nat} {n3 : Nat} {n4 : Nat} {n5 : Nat} {n6 : Nat} {n7 : Nat} {s : Int} {X : List Int} {gC : Nat} {gW : Nat} {gB : Nat} {m : Nat} {owC : Bool} : (nR59 x a b c d z y g1 g2 g3 g4 g5 g6 g7
 n1 n2 n3 n4 n5 n6 n7 s X gC gW gB m owC).val = .tuple [] := by kernel_rfl
theorem nR59_tab {x : List Int} {a : List Int} {b : List Int} {c : List Int} {d : List Int} {z : List Int} {y : List Int} {g1 : Nat} {g2 : Nat} {g3 : Nat} {g4 : Nat} {g5 : Nat} {g6 : Nat} {g7 : Nat} {n1 : Nat} {n2 : Nat} {n3 : Nat} {n4 : Nat} {n5 : Nat} {n6 : Nat} {n7 : Nat} {s : Int} {X : List Int} {gC : Nat} {gW : Nat} {gB : Nat} {m : Nat} {owC : Bool} : (nR59 x a b c d z y g1 g2 g3 g4 g5 g6 g7
 n1 n2 n3 n4 n5 n6 n7 s X gC gW gB m owC).tab = [some ⟨.agg [.slice 1 8 (gB + 1 + 1 + 1 + bareGLaw s + 1) 0 (X ++ numLaw 1 2 ++ numLaw 1 2 ++ v1Law n1 x ++ bareLaw a b c s d ++ v1Law n6 z).length none, .func (Fn.func 70) [] [.var 9 gC], .func (Fn.func 72) [] [.var 9 gC]], gW, true, 81⟩, some ⟨.ints .u8 x, g1, false, 5⟩, some ⟨.ints .u8 a, g2, false, 5⟩, some ⟨.ints .u8 b, g3, false, 5⟩, some ⟨.ints
 .u8 c, g4, false, 5⟩, some ⟨.ints .u8 d, g5, false, 5⟩, some ⟨.ints .u8 z, g6, false, 5⟩, some ⟨.ints .u8 y, g7, false, 5⟩, some ⟨.ints .u8 (X ++ numLaw 1 2 ++ numLaw 1 2 ++ v1Law n1 x ++ bareLaw a b c s d ++ v1Law n6 z), gB + 1 + 1 + 1 + bareGLaw s + 1, true, 5⟩, some ⟨.agg [.var 0 gW], gC, owC, 75⟩] := by kernel_rfl
noncomputable def nsm59c (args : List AVal) (T : Tab) (x : List Int) (a : List Int) (b : List Int) (c : List Int) (d : List Int) (z : List Int) (y : List Int) (g1 : Nat) (g2 : Nat) (g3 : Nat) (g4 : Nat) (g5 : Nat) (g6 : Nat) (g7 : Nat) (n1 : Nat) (n2 : Nat) (n3 : Nat) (n4 : Nat) (n5 : Nat) (n6 : Nat) (n7 : Nat) (s : Int) (X : List Int) (gC : Nat) (gW : Nat) (gB : Nat) (m : Nat) (owC : Bool) : Res := ⟨[.tab T [some ⟨.agg [.slice 1 8 gB 0 m none, .func (.func 70) [] [.var 9 gC], .func (.func 72) [] [.var 9 gC]], gW, true, 81⟩, some ⟨.ints .u8 x, g1, false, 5⟩, some ⟨.ints .u8 a, g2, false, 5⟩, some ⟨.ints .u8 b, g3, false, 5⟩, some ⟨.ints .u8 c, g4, false, 5⟩, some ⟨.ints .u8 d, g5, false, 5⟩, some ⟨.ints .u8 z, g6, false, 5⟩, some ⟨.ints .u8 y, g7, false, 5⟩, some ⟨.ints .u8 X, gB, true, 5⟩, some ⟨.agg [.var 0 gW], gC, owC, 75⟩], .val (.tuple args) (.tuple [.var 0 gW, .agg [.slice 1 1 g1 0 n1 none, .slice 1 2 g2 0 n2 none, .slice 1 3 g3 0 n3 none, .slice 1 4 g4 0 n4 none, .int .i64 s, .slice 1 5 g5 0 n5 none, .slice 1 6 g6 0 n6 none, .slice 1 7 g7 0 n7 none]]), .eqN n1 x.length, .eqN n2 a.length, .eqN n3 b.length, .eqN n4 c.length, .eqN n5 d.length, .eqN n6 z.length, .leN n1 65536, .leN n2 65536, .leN n3 65536, .leN n4 65536, .leN n5 65536, .leN n6 65536, .eqN m X.length, .leN m 140737470000000], .tuple [], [some ⟨.agg [.slice 1 8 (gB + (bareGLaw s + 4)) 0 (X ++ offerLaw x a b c s d z).length none, .func (.func 70) [] [.var 9 gC], .func (.func 72) [] [.var 9 gC]], gW, true, 81⟩, some ⟨.ints .u8 x, g1, false, 5⟩, some ⟨.ints .u8 a, g2, false, 5⟩, some ⟨.ints .u8 b, g3, false, 5⟩, some ⟨.ints .u8 c, g4, false, 5⟩, some ⟨.ints .u8 d, g5, false, 5⟩, some ⟨.ints .u8 z, g6, false, 5⟩, some ⟨.ints .u8 y, g7, false, 5⟩, some ⟨.ints .u8 (X ++ offerLaw x a b c s d z), (gB + (bareGLaw s + 4)), true, 5⟩, some ⟨.agg [.var 0 gW], gC, owC, 75⟩]⟩
theorem nsm59c_ok {args : List AVal} {T : Tab} {x : List Int} {a : List Int} {b : List Int} {c : List Int} {d : List Int} {z : List Int} {y : List Int} {g1 : Nat} {g2 : Nat} {g3 : Nat} {g4 : Nat} {g5 : Nat} {g6 : Nat} {g7 : Nat} {n1 : Nat} {n2 : Nat} {n3 : Nat} {n4 : Nat} {n5 : Nat} {n6 : Nat} {n7 : Nat} {s : Int} {X : List Int} {gC : Nat} {gW : Nat} {gB : Nat} {m : Nat} {owC : Bool} (h : allP (nsm59c args T x a b c d z y g1 g2 g3 g4 g5 g6 g7 n1 n2 n3 n4 n5 n6 n7 s X gC gW gB m owC).cs) : Small prog (fun _ => none) 59 args T (nsm59c args T x a b c d z y g1 g2 g3 g4 g5 g6 g7 n1 n2 n3 n4 n5 n6 n7 s X gC gW gB m owC).val (nsm59c args T x a b c d z y g1 g2 g3 g4 g5 g6 g7 n1 n2 n3 n4 n5 n6 n7 s X gC gW gB m owC).tab := by
  obtain ⟨hT, hv, h1, h2, h3, h4, h5, h6, h7, h8, h9, h10, h11, h12, h13, h14, _⟩ := h
  simp only [Con.h] at hT hv h1 h2 h3 h4 h5 h6 h7 h8 h9 h10 h11 h12 h13 h14
  injection hv with hv
  subst hT hv
  show Small prog (fun _ => none) 59 [.var 0 gW, .agg [.slice 1 1 g1 0 n1 none, .slice 1 2 g2 0 n2 none, .slice 1 3 g3 0 n3 none, .slice 1 4 g4 0 n4 none, .int .i64 s, .slice 1 5 g5 0 n5 none, .slice 1 6 g6 0 n6 none, .slice 1 7 g7 0 n7 none]] [some ⟨.agg [.slice 1 8 gB 0 m none, .func (.func 70) [] [.var 9 gC], .func (.func 72) [] [.var 9 gC]], gW, true, 81⟩, some ⟨.ints .u8 x, g1, false, 5⟩, some ⟨.ints .u8 a, g2, false, 5⟩, some ⟨.ints .u8 b, g3, false, 5⟩, some ⟨.ints .u8 c, g4, false, 5⟩, some ⟨.ints .u8 d, g5, false, 5⟩, some ⟨.ints .u8 z, g6, false, 5⟩, some ⟨.ints .u8 y, g7, false, 5⟩, some ⟨.ints .u8 X, gB, true, 5⟩, some ⟨.agg [.var 0 gW], gC, owC, 75⟩] (.tuple []) [some ⟨.agg [.slice 1 8 (gB + (bareGLaw s + 4)) 0 (X ++ offerLaw x a b c s d z).length none, .func (.func 70) [] [.var 9 gC], .func (.func 72) [] [.var 9 gC]], gW, true, 81⟩, some ⟨.ints .u8 x, g1, false, 5⟩, some ⟨.ints .u8 a, g2, false, 5⟩, some ⟨.ints .u8 b, g3, false, 5⟩, some ⟨.ints .u8 c, g4, false, 5⟩, some ⟨.ints .u8 d, g5, false, 5⟩, some ⟨.ints .u8 z, g6, false, 5⟩, some ⟨.ints .u8 y, g7, false, 5⟩, some ⟨.ints .u8 (X ++ offerLaw x a b c s d z), (gB + (bareGLaw s + 4)), true, 5⟩, some ⟨.agg [.var 0 gW], gC, owC, 75⟩]
  subst h1 h2 h3 h4 h5 h6 h13
  have hb := bare_len a b c s d
  have hX := lenLaw_len (x.length : Int)
  have hZ := lenLaw_len (z.length : Int)
  have hN := num_len 1 2
  have e1 : gB + 1 + 1 + 1 + bareGLaw s + 1 = gB + (bareGLaw s + 4) := by omega
  refine small_ofG (R := nR59 x a b c d z y g1 g2 g3 g4 g5 g6 g7 x.length a.length b.length c.length d.length z.length n7 s X gC gW gB X.length owC) eM5b_ok hmN (f := 59) (fn := f59) (by kernel_rfl) (by kernel_rfl) FnOrc.nil rfl (nR59_ok ?_) nR59_val ?_
  · simp only [allP, Con.h, eq_self, true_and, and_true, beq_iff_eq, beq_eq_false_iff_ne, ne_eq, decide_eq_true_eq, decide_eq_false_iff_not, v1Law, vec1Law, List.take_length, List.length_append]
    omega
  · rw [nR59_tab]
    simp only [v1Law, offerLaw, one_eq, List.take_length, List.append_assoc, e1]
noncomputable def nsm59 : Summary := fun args T => nsm59c args T (xsAt T 1) (xsAt T 2) (xsAt T 3) (xsAt T 4) (xsAt T 5) (xsAt T 6) (xsAt T 7) (gAt T 1) (gAt T 2) (gAt T 3) (gAt T 4) (gAt T 5) (gAt T 6) (gAt T 7) (lenOf ((vAt args 1).get 0)) (lenOf ((vAt args 1).get 1)) (lenOf ((vAt args 1).get 2)) (lenOf ((vAt args 1).get 3)) (lenOf ((vAt args 1).get 5)) (lenOf ((vAt args 1).get 6)) (lenOf ((vAt args 1).get 7)) (iOf ((vAt args 1).get 4)) (xsAt T 8) (gAt T 9) (gAt T 0) (gAt T 8) (lenOf (cAt T 0 0)) (owAt T 9)
theorem nsm59_ok : SmOk prog (fun _ => none) 59 nsm59 := fun args T h => nsm59c_ok h
noncomputable def nS59 : Summary := callR nsm59 [true, false, false, false, false, false, false, false, true, false]
theorem nS59_ok : SumOk prog (fun _ => none) 59 nS59 := callR_ok nsm59_ok _
def RightP (x a b c : List Int) (s : Int) (d z y : List Int) : Prop := RightK x.length a.length b.length c.length s d.length z.length y.length
instance (x a b c : List Int) (s : Int) (d z y : List Int) : Decidable (RightP x a b c s d z y) := by unfold RightP; exact inferInstance
def pkBLaw (x a b c : List Int) (s : Int) (d z y : List Int) : List Int := if RightP x a b c s d z y then offerLaw x a b c s d z ++ vec1Law y else []
def ptBLaw (x a b c : List Int) (s : Int) (d z y : List Int) : List Int := if RightP x a b c s d z y then offerLaw x a b c s d z else []
def pkELaw (x a b c : List Int) (s : Int) (d z y : List Int) : Int := if RightP x a b c s d z y then 0 else 1
def pkGLaw (x a b c : List Int) (s : Int) (d z y : List Int) : Nat := if RightP x a b c s d z y then bareGLaw s + 5 else 0
def ptGLaw (x a b c : List Int) (s : Int) (d z y : List Int) : Nat := if RightP x a b c s d z y then bareGLaw s + 4 else 0
theorem pk_in {x a b c : List Int} {s : Int} {d z y : List Int} (h : RightP x a b c s d z y) : pkBLaw x a b c s d z y = offerLaw x a b c s d z ++ vec1Law y ∧ ptBLaw x a b c s d z y = offerLaw x a b c s d z ∧ pkELaw x a b c s d z y = 0 ∧ pkGLaw x a b c s d z y = bareGLaw s + 5 ∧ ptGLaw x a b c s d z y = bareGLaw s + 4 := ⟨if_pos h, if_pos h, if_pos h, if_pos h, if_pos h⟩
theorem pk_out {x a b c : List Int} {s : Int} {d z y : List Int} (h : ¬ RightP x a b c s d z y) : pkBLaw x a b c s d z y = [] ∧ ptBLaw x a b c s d z y = [] ∧ pkELaw x a b c s d z y = 1 ∧ pkGLaw x a b c s d z y = 0 ∧ ptGLaw x a b c s d z y = 0 := ⟨if_neg h, if_neg h, if_neg h, if_neg h, if_neg h⟩
noncomputable def eM6b : Env := eN0 [(38, nS38), (58, nS58), (59, nS59), (70, nS70)]
theorem eM6b_ok : EnvOk eM6b := envOf_ok tysN_ok (SumsOk.cons (fn := f38) nS38_ok (by kernel_rfl) (by kernel_rfl) (by kernel_rfl) (SumsOk.cons (fn := f58) nS58_ok (by kernel_rfl) (by kernel_rfl) (by kernel_rfl) (SumsOk.cons (fn := f59) nS59_ok (by kernel_rfl) (by kernel_rfl) (by kernel_rfl) (SumsOk.cons (fn := f70) nS70_ok (by kernel_rfl) (by kernel_rfl) (by kernel_rfl) trivial))))
noncomputable def psN2b : List (Nat × Summary) := [(58, nP58)]
theorem psN2b_ok : PsOk prog (fun _ => none) psN2b := (PsOk.cons (fn := f58) nP58_ok (by kernel_rfl) (by kernel_rfl) (by kernel_rfl) PsOk.nil)
noncomputable def nR27g (x : List Int) (a : List Int) (b : List Int) (c : List Int) (d : List Int) (z : List Int) (y : List Int) (g1 : Nat) (g2 : Nat) (g3 : Nat) (g4 : Nat) (g5 : Nat) (g6 : Nat) (g7 : Nat) (n1 : Nat) (n2 : Nat) (n3 : Nat) (n4 : Nat) (n5 : Nat) (n6 : Nat) (n7 : Nat) (s : Int) : Res := resG 7 [0, 1, 2, 3, 4, 5, 6, 10] (fnRunD eM6b psN2b f27 [] 400 none 36 28 [.agg [.slice 1 0 g1 0 n1 none, .slice 1 1 g2 0 n2 none, .slice 1 2 g3 0 n3 none, .slice 1 3 g4 0 n4 none, .int .i64 s, .slice 1 4 g5 0 n5 none, .slice 1 5 g6 0 n6 none, .slice 1 6 g7 0 n7 none]] [some ⟨.ints .u8 x, g1, false, 5⟩, some ⟨.ints .u8 a, g2, false, 5⟩, some ⟨.ints .u8 b, g3, false, 5⟩, some ⟨.ints .u8 c, g4, false, 5⟩, some ⟨.ints .u8 d, g5, false, 5⟩, some ⟨.ints .u8 z, g6, false, 5⟩, some ⟨.ints .u8 y, g7, false, 5⟩] [])
theorem nR27g_ok {x : List Int} {a : List Int} {b : List Int} {c : List Int} {d : List Int} {z : List Int} {y : List Int} {g1 : Nat} {g2 : Nat} {g3 : Nat} {g4 : Nat} {g5 : Nat} {g6 : Nat} {g7 : Nat} {n1 : Nat} {n2 : Nat} {n3 : Nat} {n4 : Nat} {n5 : Nat} {n6 : Nat} {n7 : Nat} {s : Int} (h : allP [.eqN g1 g1, .eqN g2 g2, .eqN g3 g3, .eqN g4 g4, .eqN g5 g5, .eqN g6 g6, .eqN g7 g7, .p (n1 = 32 ∧ (n2 =
 32 ∧ n3 = 32 ∧ n6 = 64 ∧ 1 ≤ n4 ∧ n4 ≤ 64 ∧ 1 ≤ s ∧ s ≤ 3 ∧ (n5 = 0 ∨ n5 = 32 ∧ s = 3)) ∧ s = 1 ∧ n7 = 64), .eqN g1 g1, .eqN g2 g2, .eqN g3 g3, .eqN g4 g4, .eqN g5 g5, .eqN g6 g6, .eqN g7 g7, .eqN n1 x.length, .eqN n2 a.length, .eqN n3 b.length, .eqN n4 c.length, .eqN n5 d.length, .eqN n6 z.length, .leN n1 65536, .leN n2 65536, .leN n3 65536, .leN n4 65536, .leN n5 65536, .leN n6 65536, .eqN g7 g7,
 .leN n7 y.length, .leN n7 65536, .eqN ([] ++ offerLaw x a b c s d z).length ([] ++ offerLaw x a b c s d z).length, .leN ([] ++ offerLaw x a b c s d z).length 140737488000000]) : OkR (nR27g x a b c d z y g1 g2 g3 g4 g5 g6 g7 n1 n2 n3 n4 n5 n6 n7 s) := OkR.dem (fl := bitsF 72 4717770558075532525571) (by kernel_rfl) (by kernel_rfl) (by kernel_rfl) h
theorem nR27g_val {x : List Int} {a : List Int} {b : List Int} {c : List Int} {d : List Int} {z : List Int} {y : List Int} {g1 : Nat} {g2 : Nat} {g3 : Nat} {g4 : Nat} {g5 : Nat} {g6 : Nat} {g7 : Nat} {n1 : Nat} {n2 : Nat} {n3 : Nat} {n4 : Nat} {n5 : Nat} {n6 : Nat} {n7 : Nat} {s : Int} : (nR27g x a b c d z y g1 g2 g3 g4 g5 g6 g7 n1 n2 n3 n4 n5 n6 n7 s).val = .tuple [.slice 1 7 (0 + (bareGLaw s + 4)
 + 1) 0 ([] ++ offerLaw x a b c s d z ++ v1Law n7 y).length none, .int .i64 0] := by kernel_rfl
theorem nR27g_tab {x : List Int} {a : List Int} {b : List Int} {c : List Int} {d : List Int} {z : List Int} {y : List Int} {g1 : Nat} {g2 : Nat} {g3 : Nat} {g4 : Nat} {g5 : Nat} {g6 : Nat} {g7 : Nat} {n1 : Nat} {n2 : Nat} {n3 : Nat} {n4 : Nat} {n5 : Nat} {n6 : Nat} {n7 : Nat} {s : Int} : (nR27g x a b c d z y g1 g2 g3 g4 g5 g6 g7 n1 n2 n3 n4 n5 n6 n7 s).tab = [some ⟨.ints .u8 x, g1, false, 5⟩, some
 ⟨.ints .u8 a, g2, false, 5⟩, some ⟨.ints .u8 b, g3, false, 5⟩, some ⟨.ints .u8 c, g4, false, 5⟩, some ⟨.ints .u8 d, g5, false, 5⟩, some ⟨.ints .u8 z, g6, false, 5⟩, some ⟨.ints .u8 y, g7, false, 5⟩, some ⟨.ints .u8 ([] ++ offerLaw x a b c s d z ++ v1Law n7 y), 0 + (bareGLaw s + 4) + 1, true, 5⟩] := by kernel_rfl
noncomputable def nR27b (x : List Int) (a : List Int) (b : List Int) (c : List Int) (d : List Int) (z : List Int) (y : List Int) (g1 : Nat) (g2 : Nat) (g3 : Nat) (g4 : Nat) (g5 : Nat) (g6 : Nat) (g7 : Nat) (n1 : Nat) (n2 : Nat) (n3 : Nat) (n4 : Nat) (n5 : Nat) (n6 : Nat) (n7 : Nat) (s : Int) : Res := resG 7 [0, 1, 2, 3, 4, 5, 6] (fnRunD eM6b psN2b f27 [] 400 (some 0) 36 28 [.agg [.slice 1 0 g1 0 n1 none, .slice 1 1 g2 0 n2 none, .slice 1 2 g3 0 n3 none, .slice 1 3 g4 0 n4 none, .int .i64 s, .slice 1 4 g5 0 n5 none, .slice 1 5 g6 0 n6 none, .slice 1 6 g7 0 n7 none]] [some ⟨.ints .u8 x, g1, false, 5⟩, some ⟨.ints .u8 a, g2, false, 5⟩, some ⟨.ints .u8 b, g3, false, 5⟩, some ⟨.ints .u8 c, g4, false, 5⟩, some ⟨.ints .u8 d, g5, false, 5⟩, some ⟨.ints .u8 z, g6, false, 5⟩, some ⟨.ints .u8 y, g7, false, 5⟩] [])
theorem nR27b_ok {x : List Int} {a : List Int} {b : List Int} {c : List Int} {d : List Int} {z : List Int} {y : List Int} {g1 : Nat} {g2 : Nat} {g3 : Nat} {g4 : Nat} {g5 : Nat} {g6 : Nat} {g7 : Nat} {n1 : Nat} {n2 : Nat} {n3 : Nat} {n4 : Nat} {n5 : Nat} {n6 : Nat} {n7 : Nat} {s : Int} (h : allP [.eqN g1 g1, .eqN g2 g2, .eqN g3 g3, .eqN g4 g4, .eqN g5 g5, .eqN g6 g6, .eqN g7 g7, .p ¬(n1 = 32 ∧ (n2 =
 32 ∧ n3 = 32 ∧ n6 = 64 ∧ 1 ≤ n4 ∧ n4 ≤ 64 ∧ 1 ≤ s ∧ s ≤ 3 ∧ (n5 = 0 ∨ n5 = 32 ∧ s = 3)) ∧ s = 1 ∧ n7 = 64)]) : OkR (nR27b x a b c d z y g1 g2 g3 g4 g5 g6 g7 n1 n2 n3 n4 n5 n6 n7 s) := OkR.dem (fl := bitsF 18 258051) (by kernel_rfl) (by kernel_rfl) (by kernel_rfl) h
theorem nR27b_val {x : List Int} {a : List Int} {b : List Int} {c : List Int} {d : List Int} {z : List Int} {y : List Int} {g1 : Nat} {g2 : Nat} {g3 : Nat} {g4 : Nat} {g5 : Nat} {g6 : Nat} {g7 : Nat} {n1 : Nat} {n2 : Nat} {n3 : Nat} {n4 : Nat} {n5 : Nat} {n6 : Nat} {n7 : Nat} {s : Int} : (nR27b x a b c d z y g1 g2 g3 g4 g5 g6 g7 n1 n2 n3 n4 n5 n6 n7 s).val = .tuple [.nilSlice, .int .i64 1] := by
 kernel_rfl
theorem nR27b_tab {x : List Int} {a : List Int} {b : List Int} {c : List Int} {d : List Int} {z : List Int} {y : List Int} {g1 : Nat} {g2 : Nat} {g3 : Nat} {g4 : Nat} {g5 : Nat} {g6 : Nat} {g7 : Nat} {n1 : Nat} {n2 : Nat} {n3 : Nat} {n4 : Nat} {n5 : Nat} {n6 : Nat} {n7 : Nat} {s : Int} : (nR27b x a b c d z y g1 g2 g3 g4 g5 g6 g7 n1 n2 n3 n4 n5 n6 n7 s).tab = [some ⟨.ints .u8 x, g1, false, 5⟩, some
 ⟨.ints .u8 a, g2, false, 5⟩, some ⟨.ints .u8 b, g3, false, 5⟩, some ⟨.ints .u8 c, g4, false, 5⟩, some ⟨.ints .u8 d, g5, false, 5⟩, some ⟨.ints .u8 z, g6, false, 5⟩, some ⟨.ints .u8 y, g7, false, 5⟩] := by kernel_rfl
noncomputable def nsm27c (args : List AVal) (T : Tab) (x : List Int) (a : List Int) (b : List Int) (c : List Int) (d : List Int) (z : List Int) (y : List Int) (g1 : Nat) (g2 : Nat) (g3 : Nat) (g4 : Nat) (g5 : Nat) (g6 : Nat) (g7 : Nat) (n1 : Nat) (n2 : Nat) (n3 : Nat) (n4 : Nat) (n5 : Nat) (n6 : Nat) (n7 : Nat) (s : Int) : Res := ⟨[.tab T [some ⟨.ints .u8 x, g1, false, 5⟩, some ⟨.ints .u8 a, g2, false, 5⟩, some ⟨.ints .u8 b, g3, false, 5⟩, some ⟨.ints .u8 c, g4, false, 5⟩, some ⟨.ints .u8 d, g5, false, 5⟩, some ⟨.ints .u8 z, g6, false, 5⟩, some ⟨.ints .u8 y, g7, false, 5⟩], .val (.tuple args) (.tuple [.agg [.slice 1 0 g1 0 n1 none, .slice 1 1 g2 0 n2 none, .slice 1 2 g3 0 n3 none, .slice 1 3 g4 0 n4 none, .int .i64 s, .slice 1 4 g5 0 n5 none, .slice 1 5 g6 0 n6 none, .slice 1 6 g7 0 n7 none]]), .eqN n1 x.length, .eqN n2 a.length, .eqN n3 b.length, .eqN n4 c.length, .eqN n5 d.length, .eqN n6 z.length, .eqN n7 y.length], .tuple [.slice 1 7 (pkGLaw x a b c s d z y) 0 (pkBLaw x a b c s d z y).length none, .int .i64 (pkELaw x a b c s d z y)], [some ⟨.ints .u8 x, g1, false, 5⟩, some ⟨.ints .u8 a, g2, false, 5⟩, some ⟨.ints .u8 b, g3, false, 5⟩, some ⟨.ints .u8 c, g4, false, 5⟩, some ⟨.ints .u8 d, g5, false, 5⟩, some ⟨.ints .u8 z, g6, false, 5⟩, some ⟨.ints .u8 y, g7, false, 5⟩, some ⟨.ints .u8 (pkBLaw x a b c s d z y), (pkGLaw x a b c s d z y), true, 5⟩]⟩
theorem nsm27c_ok {args : List AVal} {T : Tab} {x : List Int} {a : List Int} {b : List Int} {c : List Int} {d : List Int} {z : List Int} {y : List Int} {g1 : Nat} {g2 : Nat} {g3 : Nat} {g4 : Nat} {g5 : Nat} {g6 : Nat} {g7 : Nat} {n1 : Nat} {n2 : Nat} {n3 : Nat} {n4 : Nat} {n5 : Nat} {n6 : Nat} {n7 : Nat} {s : Int} (h : allP (nsm27c args T x a b c d z y g1 g2 g3 g4 g5 g6 g7 n1 n2 n3 n4 n5 n6 n7 s).cs) : Small prog (fun _ => none) 27 args T (nsm27c args T x a b c d z y g1 g2 g3 g4 g5 g6 g7 n1 n2 n3 n4 n5 n6 n7 s).val (nsm27c args T x a b c d z y g1 g2 g3 g4 g5 g6 g7 n1 n2 n3 n4 n5 n6 n7 s).tab := by
  obtain ⟨hT, hv, h1, h2, h3, h4, h5, h6, h7, _⟩ := h
  simp only [Con.h] at hT hv h1 h2 h3 h4 h5 h6 h7
  injection hv with hv
  subst hT hv
  show Small prog (fun _ => none) 27 [.agg [.slice 1 0 g1 0 n1 none, .slice 1 1 g2 0 n2 none, .slice 1 2 g3 0 n3 none, .slice 1 3 g4 0 n4 none, .int .i64 s, .slice 1 4 g5 0 n5 none, .slice 1 5 g6 0 n6 none, .slice 1 6 g7 0 n7 none]] [some ⟨.ints .u8 x, g1, false, 5⟩, some ⟨.ints .u8 a, g2, false, 5⟩, some ⟨.ints .u8 b, g3, false, 5⟩, some ⟨.ints .u8 c, g4, false, 5⟩, some ⟨.ints .u8 d, g5, false, 5⟩, some ⟨.ints .u8 z, g6, false, 5⟩, some ⟨.ints .u8 y, g7, false, 5⟩] (.tuple [.slice 1 7 (pkGLaw x a b c s d z y) 0 (pkBLaw x a b c s d z y).length none, .int .i64 (pkELaw x a b c s d z y)]) [some ⟨.ints .u8 x, g1, false, 5⟩, some ⟨.ints .u8 a, g2, false, 5⟩, some ⟨.ints .u8 b, g3, false, 5⟩, some ⟨.ints .u8 c, g4, false, 5⟩, some ⟨.ints .u8 d, g5, false, 5⟩, some ⟨.ints .u8 z, g6, false, 5⟩, some ⟨.ints .u8 y, g7, false, 5⟩, some ⟨.ints .u8 (pkBLaw x a b c s d z y), (pkGLaw x a b c s d z y), true, 5⟩]
  subst h1 h2 h3 h4 h5 h6 h7
  by_cases hR : RightP x a b c s d z y
  · rw [(pk_in hR).1, (pk_in hR).2.2.1, (pk_in hR).2.2.2.1]
    have hR' := hR
    obtain ⟨q0, ⟨q1, q2, q3, q4, q5, q6, q7, q8⟩, q9, q10⟩ := hR'
    have hb := offer_len x a b c s d z
    have e : 0 + (bareGLaw s + 4) + 1 = bareGLaw s + 5 := by omega
    have e' : 0 + (bareGLaw s + 4) = bareGLaw s + 4 := by omega
    refine small_ofDG (R := nR27g x a b c d z y g1 g2 g3 g4 g5 g6 g7 x.length a.length b.length c.length d.length z.length y.length s) eM6b_ok hmN psN2b_ok (f := 27) (fn := f27) (by kernel_rfl) (by kernel_rfl) FnOrc.nil (gfn := f36) (by kernel_rfl) (by kernel_rfl) (by kernel_rfl) caughtN rfl (nR27g_ok ?_) ?_ ?_
    · simp only [allP, Con.h, eq_self, true_and, and_true, beq_iff_eq, beq_eq_false_iff_ne, ne_eq, decide_eq_true_eq, decide_eq_false_iff_not, List.nil_append]
      try simp only [show RightK x.length a.length b.length c.length s d.length z.length y.length from hR]
      omega
    · rw [nR27g_val]
      first | rw [e] | rw [e']
      simp only [v1Law, List.take_length, List.nil_append]
    · rw [nR27g_tab]
      first | rw [e] | rw [e']
      simp only [v1Law, List.take_length, List.nil_append]
  · rw [(pk_out hR).1, (pk_out hR).2.2.1, (pk_out hR).2.2.2.1]
    exact small_nil2 .u8 5 (.inr rfl) (small_ofDG (R := nR27b x a b c d z y g1 g2 g3 g4 g5 g6 g7 x.length a.length b.length c.length d.length z.length y.length s) eM6b_ok hmN psN2b_ok (f := 27) (fn := f27) (by kernel_rfl) (by kernel_rfl) FnOrc.nil (gfn := f36) (by kernel_rfl) (by kernel_rfl) (by kernel_rfl) caughtN rfl (nR27b_ok (by
      simp only [allP, Con.h, eq_self, true_and, and_true, beq_iff_eq, beq_eq_false_iff_ne, ne_eq, decide_eq_true_eq, decide_eq_false_iff_not]
      exact hR)) nR27b_val nR27b_tab) (by simp)
noncomputable def nsm27 : Summary := fun args T => nsm27c args T (xsAt T 0) (xsAt T 1) (xsAt T 2) (xsAt T 3) (xsAt T 4) (xsAt T 5) (xsAt T 6) (gAt T 0) (gAt T 1) (gAt T 2) (gAt T 3) (gAt T 4) (gAt T 5) (gAt T 6) (lenOf ((vAt args 0).get 0)) (lenOf ((vAt args 0).get 1)) (lenOf ((vAt args 0).get 2)) (lenOf ((vAt args 0).get 3)) (lenOf ((vAt args 0).get 5)) (lenOf ((vAt args 0).get 6)) (lenOf ((vAt args 0).get 7)) (iOf ((vAt args 0).get 4))
theorem nsm27_ok : SmOk prog (fun _ => none) 27 nsm27 := fun args T h => nsm27c_ok h
noncomputable def nS27 : Summary := callR nsm27 []
theorem nS27_ok : SumOk prog (fun _ => none) 27 nS27 := callR_ok nsm27_ok _
end Go.Abs

set_option linter.unusedVariables false
set_option linter.unusedSimpArgs false
set_option maxRecDepth 100000
set_option maxHeartbeats 4000000
namespace Go.Abs
open Go.Proofs Go.Proofs.Try
/-! ### the document's packages -/
theorem num12 : numLaw 1 2 = [0, 1] := by decide
end Go.Abs

set_option linter.unusedVariables false
set_option linter.unusedSimpArgs false
set_option maxRecDepth 100000
set_option maxHeartbeats 4000000
namespace Go.Abs
open Go.Proofs Go.Proofs.Try
/-! ### what is signed of a leaf -/
def RightS (n1 n2 n3 : Nat) (s : Int) (n4 n5 n6 : Nat) (k : Int) : Prop := RightN n1 n2 n3 s n4 n5 ∧ n6 ≤ 255 ∧ 0 ≤ k ∧ k < 64
instance (n1 n2 n3 : Nat) (s : Int) (n4 n5 n6 : Nat) (k : Int) : Decidable (RightS n1 n2 n3 s n4 n5 n6 k) := by unfold RightS; exact inferInstance
def RightT (a b c : List Int) (s : Int) (d z q : List Int) (k : Int) : Prop := RightS a.length b.length c.length s d.length z.length q.length k
instance (a b c : List Int) (s : Int) (d z q : List Int) (k : Int) : Decidable (RightT a b c s d z q k) := by unfold RightT; exact inferInstance
theorem num4 {k : Int} (h : 0 ≤ k) (h2 : k < 64) : numLaw k 4 = [k / 16777216 % 256, k / 65536 % 256, k / 256 % 256, k / 1 % 256] := by
  rw [(num_in (n := k) (size := 4) (by decide) ⟨h, by unfold mostLaw; rw [if_neg (by decide), if_neg (by decide), if_pos rfl]; omega⟩).1]
  rfl
end Go.Abs

set_option linter.unusedVariables false
set_option linter.unusedSimpArgs false
set_option maxRecDepth 100000
set_option maxHeartbeats 4000000
namespace Go.Abs
open Go.Proofs Go.Proofs.Try
/-! ### any bytes, as a package -/
theorem lfE_zero {B : List Int} {off : Nat} {e : Int} (h : lfELaw B off e = 0) : e = 0 := by
  have h5 : s5E B off e = 0 := rvE_zero h
  have h4 : s4E B off e = 0 := by
    unfold s5E at h5
    split at h5
    · exact rvE_zero h5
    · exact h5
  exact rvE_zero (rvE_zero (rvE_zero (rnE_zero h4)))
def kaO0 (B : List Int) : Nat := rnOLaw B 0 0 4
def kaE0 (B : List Int) : Int := rnELaw B 0 0 4
def kaO1 (B : List Int) : Nat := rvOLaw B (kaO0 B) (kaE0 B)
def kaE1 (B : List Int) : Int := rvELaw B (kaO0 B) (kaE0 B)
def kaO2 (B : List Int) : Nat := lfOLaw B (kaO1 B) (kaE1 B)
def kaE2 (B : List Int) : Int := lfELaw B (kaO1 B) (kaE1 B)
def kaO3 (B : List Int) : Nat := rvOLaw B (kaO2 B) (kaE2 B)
def kaE3 (B : List Int) : Int := rvELaw B (kaO2 B) (kaE2 B)
def kaX (B : List Int) : List Int := rvVLaw B (kaO0 B) (kaE0 B)
def kaA (B : List Int) : List Int := lfALaw B (kaO1 B) (kaE1 B)
def kaB (B : List Int) : List Int := lfBLaw B (kaO1 B) (kaE1 B)
def kaC (B : List Int) : List Int := lfCLaw B (kaO1 B) (kaE1 B)
def kaS (B : List Int) : Int := lfSLaw B (kaO1 B) (kaE1 B)
def kaD (B : List Int) : List Int := lfDLaw B (kaO1 B) (kaE1 B)
def kaZ (B : List Int) : List Int := lfZLaw B (kaO1 B) (kaE1 B)
def kaY (B : List Int) : List Int := rvVLaw B (kaO2 B) (kaE2 B)
theorem ka_off (B : List Int) : kaO0 B ≤ B.length ∧ kaO1 B ≤ B.length ∧ kaO2 B ≤ B.length ∧ kaO3 B ≤ B.length := by
  have k0 : kaO0 B ≤ B.length := (rn_off (Nat.zero_le _) 0 4).2
  have k1 := (rv_off k0 (kaE0 B)).2
  have k2 := lf_off k1 (kaE1 B)
  exact ⟨k0, k1, k2, (rv_off k2 (kaE2 B)).2⟩
theorem ka_e {B : List Int} (h : kaE3 B = 0) : kaE0 B = 0 ∧ kaE1 B = 0 ∧ kaE2 B = 0 := by
  have h2 : kaE2 B = 0 := rvE_zero h
  have h1 : kaE1 B = 0 := lfE_zero h2
  exact ⟨rvE_zero h1, h1, h2⟩
def kbO0 (B : List Int) : Nat := rnOLaw B (rnOLaw B 0 0 2) (rnELaw B 0 0 2) 2
def kbE0 (B : List Int) : Int := rnELaw B (rnOLaw B 0 0 2) (rnELaw B 0 0 2) 2
def kaOK (B : List Int) : Prop := reLaw B (kaO3 B) (kaE3 B) = 0 ∧ RightP (kaX B) (kaA B) (kaB B) (kaC B) (kaS B) (kaD B) (kaZ B) (kaY B) ∧ pkBLaw (kaX B) (kaA B) (kaB B) (kaC B) (kaS B) (kaD B) (kaZ B) (kaY B) = B
instance (B : List Int) : Decidable (kaOK B) := by unfold kaOK; exact inferInstance
theorem ab_long {B : List Int} (h : 4 ≤ B.length) : kaO0 B = 4 ∧ kaE0 B = 0 ∧ kbO0 B = 4 ∧ kbE0 B = 0 ∧ rnVLaw B 0 0 2 = B.getD 0 0 * 256 + B.getD 1 0 ∧ rnVLaw B (rnOLaw B 0 0 2) (rnELaw B 0 0 2) 2 = B.getD 2 0 * 256 + B.getD 3 0 := by
  have e4 : rnP B 0 0 4 = (numAtLaw 4 B 0, 4, 0) := by
    unfold rnP
    rw [if_neg (by decide), if_neg (by decide), if_neg (by omega), if_neg (by omega)]
    rfl
  have e2 : rnP B 0 0 2 = (numAtLaw 2 B 0, 2, 0) := by
    unfold rnP
    rw [if_neg (by decide), if_neg (by decide), if_neg (by omega), if_neg (by omega)]
    rfl
  have e22 : rnP B 2 0 2 = (numAtLaw 2 B 2, 4, 0) := by
    unfold rnP
    rw [if_neg (by decide), if_neg (by decide), if_neg (by omega), if_neg (by omega)]
    rfl
  have o2 : rnOLaw B 0 0 2 = 2 := by unfold rnOLaw; rw [e2]
  have f2 : rnELaw B 0 0 2 = 0 := by unfold rnELaw; rw [e2]
  unfold kaO0 kaE0 kbO0 kbE0
  rw [o2, f2]
  unfold rnOLaw rnELaw rnVLaw
  rw [e4, e2, e22]
  refine ⟨rfl, rfl, rfl, rfl, ?_, ?_⟩ <;> simp [numAtLaw, beN]
theorem ab_short {B : List Int} (h : B.length < 4) : kaE0 B ≠ 0 ∧ kbE0 B ≠ 0 := by
  have e4 : rnP B 0 0 4 = (0, 0, 20) := by
    unfold rnP
    rw [if_neg (by decide), if_neg (by decide), if_pos (by omega)]
  refine ⟨by unfold kaE0 rnELaw; rw [e4]; decide, ?_⟩
  unfold kbE0
  by_cases h2 : B.length < 2
  · have e2 : rnP B 0 0 2 = (0, 0, 20) := by
      unfold rnP
      rw [if_neg (by decide), if_neg (by decide), if_pos (by omega)]
    have o2 : rnOLaw B 0 0 2 = 0 := by unfold rnOLaw; rw [e2]
    have f2 : rnELaw B 0 0 2 = 20 := by unfold rnELaw; rw [e2]
    rw [o2, f2]
    unfold rnELaw
    rw [rn_e 2 (by decide)]
    decide
  · have e2 : rnP B 0 0 2 = (numAtLaw 2 B 0, 2, 0) := by
      unfold rnP
      rw [if_neg (by decide), if_neg (by decide), if_neg (by omega), if_neg (by omega)]
      rfl
    have o2 : rnOLaw B 0 0 2 = 2 := by unfold rnOLaw; rw [e2]
    have f2 : rnELaw B 0 0 2 = 0 := by unfold rnELaw; rw [e2]
    have e22 : rnP B 2 0 2 = (0, 2, 20) := by
      unfold rnP
      rw [if_neg (by decide), if_neg (by decide), if_pos (by omega)]
    rw [o2, f2]
    unfold rnELaw
    rw [e22]
    decide
/-- bytes that are read to their end: the first four, and what was read, written -/
theorem ka_canon {B : List Int} (hb : ByLaw B) (h : reLaw B (kaO3 B) (kaE3 B) = 0) : 4 ≤ B.length ∧ B = B.take 4 ++ (vec1Law (kaX B) ++ (bareLaw (kaA B) (kaB B) (kaC B) (kaS B) (kaD B) ++ (vec1Law (kaZ B) ++ vec1Law (kaY B)))) := by
  obtain ⟨h3, hl⟩ := re_zero h
  obtain ⟨h0, h1, h2⟩ := ka_e h3
  have h4 : 4 ≤ B.length := by
    rcases Nat.lt_or_ge B.length 4 with k | k
    · exact absurd h0 (ab_short k).1
    · exact k
  have ho := (ab_long h4).1
  have c0 := rv_canon (off := kaO0 B) hb (by have k := h1; unfold kaE1 at k; rwa [h0] at k)
  have hX : kaX B = rvVLaw B (kaO0 B) 0 := by unfold kaX; rw [h0]
  have hO1 : kaO1 B = rvOLaw B (kaO0 B) 0 := by unfold kaO1; rw [h0]
  have c1 := leaf_canon (off := kaO1 B) hb (by have k := h2; unfold kaE2 at k; rwa [h1] at k)
  have hO2 : kaO2 B = lfOLaw B (kaO1 B) 0 := by unfold kaO2; rw [h1]
  have c2 := rv_canon (off := kaO2 B) hb (by have k := h3; unfold kaE3 at k; rwa [h2] at k)
  have hO3 : kaO3 B = rvOLaw B (kaO2 B) 0 := by unfold kaO3; rw [h2]
  have hY : kaY B = rvVLaw B (kaO2 B) 0 := by unfold kaY; rw [h2]
  refine ⟨h4, ?_⟩
  have e := c0.2.2.2
  rw [← hX, ← hO1, c1.1, ← hO2, c2.2.2.2, ← hO3, ← hY, List.drop_of_length_le hl, List.append_nil, ho] at e
  conv => lhs; rw [← List.take_append_drop 4 B, e]
  unfold kaA kaB kaC kaS kaD kaZ
  rw [h1]
theorem by_of {B : List Int} (h : ByLaw B) : ∀ c ∈ B, 0 ≤ c ∧ c < 256 := fun c hc => by
  obtain ⟨i, hi, rfl⟩ := List.mem_iff_getElem.1 hc
  have := h i
  rwa [List.getD_eq_getElem?_getD, List.getElem?_eq_getElem hi] at this
theorem nByte_inj {a b : Int} (ha : 0 ≤ a ∧ a < 256) (hb : 0 ≤ b ∧ b < 256) (h : byteOf a = byteOf b) : a = b := by
  have := congrArg UInt8.toNat h
  simp only [byteOf, UInt8.toNat_ofNat'] at this
  omega
theorem nBytes_inj : ∀ {l l' : List Int}, (∀ c ∈ l, 0 ≤ c ∧ c < 256) → (∀ c ∈ l', 0 ≤ c ∧ c < 256) → List.map byteOf l = List.map byteOf l' → l = l'
  | [], [], _, _, _ => rfl
  | [], b :: r, _, _, h => by simp at h
  | a :: r, [], _, _, h => by simp at h
  | a :: r, b :: r', h1, h2, h => by
    simp only [List.map_cons, List.cons.injEq] at h
    rw [nByte_inj (h1 a (.head _)) (h2 b (.head _)) h.1, nBytes_inj (fun c hc => h1 c (.tail _ hc)) (fun c hc => h2 c (.tail _ hc)) h.2]
theorem ka_ne {B : List Int} (hb : ByLaw B) (h : reLaw B (kaO3 B) (kaE3 B) = 0) (hR : RightP (kaX B) (kaA B) (kaB B) (kaC B) (kaS B) (kaD B) (kaZ B) (kaY B)) (hE : pkBLaw (kaX B) (kaA B) (kaB B) (kaC B) (kaS B) (kaD B) (kaZ B) (kaY B) ≠ B) : List.map byteOf (pkBLaw (kaX B) (kaA B) (kaB B) (kaC B) (kaS B) (kaD B) (kaZ B) (kaY B)) ≠ List.map byteOf B := fun hm => hE (nBytes_inj (fun c hc => by
  obtain ⟨h4, hk⟩ := ka_canon hb h
  rw [(pk_in hR).1] at hc
  unfold offerLaw at hc
  rw [one_eq, num12] at hc
  simp only [List.append_assoc] at hc
  have hB := by_of hb
  rcases List.mem_append.1 hc with h1 | h1
  · simp at h1; omega
  rcases List.mem_append.1 h1 with h1 | h1
  · simp at h1; omega
  · exact hB c (by rw [hk]; exact List.mem_append_right _ h1)) (by_of hb) hm)
def gkXLaw (B : List Int) : List Int := if kaOK B then kaX B else []
def gkALaw (B : List Int) : List Int := if kaOK B then kaA B else []
def gkBLaw (B : List Int) : List Int := if kaOK B then kaB B else []
def gkCLaw (B : List Int) : List Int := if kaOK B then kaC B else []
def gkDLaw (B : List Int) : List Int := if kaOK B then kaD B else []
def gkZLaw (B : List Int) : List Int := if kaOK B then kaZ B else []
def gkYLaw (B : List Int) : List Int := if kaOK B then kaY B else []
def gkSLaw (B : List Int) : Int := if kaOK B then kaS B else 0
def gkELaw (B : List Int) : Int := if kaOK B then 0 else 21
end Go.Abs
