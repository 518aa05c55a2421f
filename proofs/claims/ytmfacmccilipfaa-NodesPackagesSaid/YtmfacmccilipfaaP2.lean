/- What functions of the given program come to, by the abstract machine: texts of a proof. -/
import Derived.Test.YtmfacmccilipfaaP1
set_option linter.unusedVariables false
set_option linter.unusedSimpArgs false
set_option maxRecDepth 100000
set_option maxHeartbeats 4000000
namespace Go.Abs
open Go.Proofs Go.Proofs.Try
/-! ### the document's: vectors, a leaf that may be, its bytes -/
theorem vec_v1 {n : Nat} {a : List Int} (h : n ≤ a.length) (h2 : n ≤ 65536) : vecLaw (subLaw a 0 n) = v1Law n a := by
  have hl : (List.take n a).length = n := by rw [List.length_take]; omega
  unfold vecLaw subLaw v1Law vec1Law
  rw [List.drop_zero, hl, if_pos h2]
noncomputable def eM7 : Env := eN0 [(88, S21c)]
theorem eM7_ok : EnvOk eM7 := envOf_ok tysN_ok (SumsOk.cons (fn := f88) S21c_ok (by kernel_rfl) (by kernel_rfl) (by kernel_rfl) trivial)
noncomputable def nR66a (a : List Int) (g1 : Nat) (n1 : Nat) (c1 : Option Nat) (gO : Nat) (ow : Bool) (ow1 : Bool) : Res := resG 2 [0, 1, 3] (runF eM7 f66 [] 400 [.slice 1 0 gO 0 1 (some 1)] [some ⟨.agg [.slice 1 1 g1 0 n1 c1], gO, ow, 22⟩, some ⟨.ints .u8 a, g1, ow1, 5⟩] [])
theorem nR66a_ok {a : List Int} {g1 : Nat} {n1 : Nat} {c1 : Option Nat} {gO : Nat} {ow : Bool} {ow1 : Bool} (h : allP [.eqN gO gO, .eqN gO gO, .eqN gO gO, .eqN g1 g1, .eqN g1 g1, .leN (0 + n1) a.length, .leN (vecLaw (subLaw a 0 n1)).length 140737488355328, .eqN (if n1 ≤ 65536 then (lenLaw (↑n1 : Int)).length - 1 + 1 else 0) (if n1 ≤ 65536 then (lenLaw (↑n1 : Int)).length - 1 + 1 else 0), .leN (0 +
 (vecLaw (subLaw a 0 n1)).length) (vecLaw (subLaw a 0 n1)).length, .eqN gO gO]) : OkR (nR66a a g1 n1 c1 gO ow ow1) := OkR.dem (fl := bitsF 15 12332) (by kernel_rfl) (by kernel_rfl) (by kernel_rfl) h
theorem nR66a_val {a : List Int} {g1 : Nat} {n1 : Nat} {c1 : Option Nat} {gO : Nat} {ow : Bool} {ow1 : Bool} : (nR66a a g1 n1 c1 gO ow ow1).val = .slice 1 2 0 0 (vecLaw (subLaw a 0 n1)).length none := by kernel_rfl
theorem nR66a_tab {a : List Int} {g1 : Nat} {n1 : Nat} {c1 : Option Nat} {gO : Nat} {ow : Bool} {ow1 : Bool} : (nR66a a g1 n1 c1 gO ow ow1).tab = [some ⟨.agg [.slice 1 1 g1 0 n1 c1], gO, ow, 22⟩, some ⟨.ints .u8 a, g1, ow1, 5⟩, some ⟨.ints .u8 ([] ++ List.take (vecLaw (subLaw a 0 n1)).length (vecLaw (subLaw a 0 n1))), 0, true, 5⟩] := by kernel_rfl
noncomputable def nR66c (a : List Int) (b : List Int) (c : List Int) (g1 : Nat) (g2 : Nat) (g3 : Nat) (n1 : Nat) (n2 : Nat) (n3 : Nat) (c1 : Option Nat) (c2 : Option Nat) (c3 : Option Nat) (gO : Nat) (ow : Bool) (o1 : Bool) (o2 : Bool) (o3 : Bool) : Res := resG 4 [0, 1, 2, 3, 5] (runF eM7 f66 [] 400 [.slice 1 0 gO 0 3 (some 3)] [some ⟨.agg [.slice 1 1 g1 0 n1 c1, .slice 1 2 g2 0 n2 c2, .slice 1 3 g3 0 n3 c3], gO, ow, 22⟩, some ⟨.ints .u8 a, g1, o1, 5⟩, some ⟨.ints .u8 b, g2, o2, 5⟩, some ⟨.ints .u8 c, g3, o3, 5⟩] [])
theorem nR66c_ok {a : List Int} {b : List Int} {c : List Int} {g1 : Nat} {g2 : Nat} {g3 : Nat} {n1 : Nat} {n2 : Nat} {n3 : Nat} {c1 : Option Nat} {c2 : Option Nat} {c3 : Option Nat} {gO : Nat} {ow : Bool} {o1 : Bool} {o2 : Bool} {o3 : Bool} (h : allP [.eqN gO gO, .eqN gO gO, .eqN gO gO, .eqN g1 g1, .eqN g1 g1, .leN (0 + n1) a.length, .leN (vecLaw (subLaw a 0 n1)).length 140737488355328, .eqN (if n1
 ≤ 65536 then (lenLaw (↑n1 : Int)).length - 1 + 1 else 0) (if n1 ≤ 65536 then (lenLaw (↑n1 : Int)).length - 1 + 1 else 0), .leN (0 + (vecLaw (subLaw a 0 n1)).length) (vecLaw (subLaw a 0 n1)).length, .eqN gO gO, .eqN gO gO, .eqN gO gO, .eqN g2 g2, .eqN g2 g2, .leN (0 + n2) b.length, .leN (0 + (vecLaw (subLaw a 0 n1)).length) ([] ++ List.take (vecLaw (subLaw a 0 n1)).length (vecLaw (subLaw a 0
 n1))).length, .leN (addO (vecLaw (subLaw a 0 n1)).length (vecLaw (subLaw b 0 n2)).length) 140737488355328, .eqN (if n2 ≤ 65536 then (lenLaw (↑n2 : Int)).length - 1 + 1 else 0) (if n2 ≤ 65536 then (lenLaw (↑n2 : Int)).length - 1 + 1 else 0), .leN (0 + (vecLaw (subLaw b 0 n2)).length) (vecLaw (subLaw b 0 n2)).length, .eqN gO gO, .eqN gO gO, .eqN gO gO, .eqN g3 g3, .eqN g3 g3, .leN (0 + n3) c.length,
 .leN (0 + addO (vecLaw (subLaw a 0 n1)).length (vecLaw (subLaw b 0 n2)).length) (List.take (vecLaw (subLaw a 0 n1)).length ([] ++ List.take (vecLaw (subLaw a 0 n1)).length (vecLaw (subLaw a 0 n1))) ++ List.take (vecLaw (subLaw b 0 n2)).length (vecLaw (subLaw b 0 n2))).length, .leN (addO (addO (vecLaw (subLaw a 0 n1)).length (vecLaw (subLaw b 0 n2)).length) (vecLaw (subLaw c 0 n3)).length)
 140737488355328, .eqN (if n3 ≤ 65536 then (lenLaw (↑n3 : Int)).length - 1 + 1 else 0) (if n3 ≤ 65536 then (lenLaw (↑n3 : Int)).length - 1 + 1 else 0), .leN (0 + (vecLaw (subLaw c 0 n3)).length) (vecLaw (subLaw c 0 n3)).length, .eqN gO gO]) : OkR (nR66c a b c g1 g2 g3 n1 n2 n3 c1 c2 c3 gO ow o1 o2 o3) := OkR.dem (fl := bitsF 47 53374373015596) (by kernel_rfl) (by kernel_rfl) (by kernel_rfl) h
theorem nR66c_val {a : List Int} {b : List Int} {c : List Int} {g1 : Nat} {g2 : Nat} {g3 : Nat} {n1 : Nat} {n2 : Nat} {n3 : Nat} {c1 : Option Nat} {c2 : Option Nat} {c3 : Option Nat} {gO : Nat} {ow : Bool} {o1 : Bool} {o2 : Bool} {o3 : Bool} : (nR66c a b c g1 g2 g3 n1 n2 n3 c1 c2 c3 gO ow o1 o2 o3).val = .slice 1 4 2 0 (addO (addO (vecLaw (subLaw a 0 n1)).length (vecLaw (subLaw b 0 n2)).length)
 (vecLaw (subLaw c 0 n3)).length) none := by kernel_rfl
theorem nR66c_tab {a : List Int} {b : List Int} {c : List Int} {g1 : Nat} {g2 : Nat} {g3 : Nat} {n1 : Nat} {n2 : Nat} {n3 : Nat} {c1 : Option Nat} {c2 : Option Nat} {c3 : Option Nat} {gO : Nat} {ow : Bool} {o1 : Bool} {o2 : Bool} {o3 : Bool} : (nR66c a b c g1 g2 g3 n1 n2 n3 c1 c2 c3 gO ow o1 o2 o3).tab = [some ⟨.agg [.slice 1 1 g1 0 n1 c1, .slice 1 2 g2 0 n2 c2, .slice 1 3 g3 0 n3 c3], gO, ow, 22⟩,
 some ⟨.ints .u8 a, g1, o1, 5⟩, some ⟨.ints .u8 b, g2, o2, 5⟩, some ⟨.ints .u8 c, g3, o3, 5⟩, some ⟨.ints .u8 (List.take (addO (vecLaw (subLaw a 0 n1)).length (vecLaw (subLaw b 0 n2)).length) (List.take (vecLaw (subLaw a 0 n1)).length ([] ++ List.take (vecLaw (subLaw a 0 n1)).length (vecLaw (subLaw a 0 n1))) ++ List.take (vecLaw (subLaw b 0 n2)).length (vecLaw (subLaw b 0 n2))) ++ List.take (vecLaw
 (subLaw c 0 n3)).length (vecLaw (subLaw c 0 n3))), 2, true, 5⟩] := by kernel_rfl
noncomputable def nR40a (a : List Int) (b : List Int) (c : List Int) (d : List Int) (z : List Int) (g1 : Nat) (g2 : Nat) (g3 : Nat) (g4 : Nat) (g5 : Nat) (n1 : Nat) (n2 : Nat) (n3 : Nat) (n4 : Nat) (n5 : Nat) (c1 : Option Nat) (c2 : Option Nat) (c3 : Option Nat) (c4 : Option Nat) (c5 : Option Nat) (o1 : Bool) (o2 : Bool) (o3 : Bool) (o4 : Bool) (o5 : Bool) (s : Int) : Res := resG 5 [0, 1, 2, 3, 4] (runF (eN0 []) f40 [] 400 [.agg [.slice 1 0 g1 0 n1 c1, .slice 1 1 g2 0 n2 c2, .slice 1 2 g3 0 n3 c3, .int .i64 s, .slice 1 3 g4 0 n4 c4, .slice 1 4 g5 0 n5 c5]] [some ⟨.ints .u8 a, g1, o1, 5⟩, some ⟨.ints .u8 b, g2, o2, 5⟩, some ⟨.ints .u8 c, g3, o3, 5⟩, some ⟨.ints .u8 d, g4, o4, 5⟩, some ⟨.ints .u8 z, g5, o5, 5⟩] [some true])
theorem nR40a_ok {a : List Int} {b : List Int} {c : List Int} {d : List Int} {z : List Int} {g1 : Nat} {g2 : Nat} {g3 : Nat} {g4 : Nat} {g5 : Nat} {n1 : Nat} {n2 : Nat} {n3 : Nat} {n4 : Nat} {n5 : Nat} {c1 : Option Nat} {c2 : Option Nat} {c3 : Option Nat} {c4 : Option Nat} {c5 : Option Nat} {o1 : Bool} {o2 : Bool} {o3 : Bool} {o4 : Bool} {o5 : Bool} {s : Int} (h : allP [.eqN g1 g1, .p (((↑n1 : Int)
 != 32) = true)]) : OkR (nR40a a b c d z g1 g2 g3 g4 g5 n1 n2 n3 n4 n5 c1 c2 c3 c4 c5 o1 o2 o3 o4 o5 s) := OkR.dem (fl := [true, true, true, false, false]) (by kernel_rfl) (by kernel_rfl) (by kernel_rfl) h
theorem nR40a_val {a : List Int} {b : List Int} {c : List Int} {d : List Int} {z : List Int} {g1 : Nat} {g2 : Nat} {g3 : Nat} {g4 : Nat} {g5 : Nat} {n1 : Nat} {n2 : Nat} {n3 : Nat} {n4 : Nat} {n5 : Nat} {c1 : Option Nat} {c2 : Option Nat} {c3 : Option Nat} {c4 : Option Nat} {c5 : Option Nat} {o1 : Bool} {o2 : Bool} {o3 : Bool} {o4 : Bool} {o5 : Bool} {s : Int} : (nR40a a b c d z g1 g2 g3 g4 g5 n1
 n2 n3 n4 n5 c1 c2 c3 c4 c5 o1 o2 o3 o4 o5 s).val = .bool false := by kernel_rfl
theorem nR40a_tab {a : List Int} {b : List Int} {c : List Int} {d : List Int} {z : List Int} {g1 : Nat} {g2 : Nat} {g3 : Nat} {g4 : Nat} {g5 : Nat} {n1 : Nat} {n2 : Nat} {n3 : Nat} {n4 : Nat} {n5 : Nat} {c1 : Option Nat} {c2 : Option Nat} {c3 : Option Nat} {c4 : Option Nat} {c5 : Option Nat} {o1 : Bool} {o2 : Bool} {o3 : Bool} {o4 : Bool} {o5 : Bool} {s : Int} : (nR40a a b c d z g1 g2 g3 g4 g5 n1
 n2 n3 n4 n5 c1 c2 c3 c4 c5 o1 o2 o3 o4 o5 s).tab = [some ⟨.ints .u8 a, g1, o1, 5⟩, some ⟨.ints .u8 b, g2, o2, 5⟩, some ⟨.ints .u8 c, g3, o3, 5⟩, some ⟨.ints .u8 d, g4, o4, 5⟩, some ⟨.ints .u8 z, g5, o5, 5⟩] := by kernel_rfl
noncomputable def nR40b (a : List Int) (b : List Int) (c : List Int) (d : List Int) (z : List Int) (g1 : Nat) (g2 : Nat) (g3 : Nat) (g4 : Nat) (g5 : Nat) (n1 : Nat) (n2 : Nat) (n3 : Nat) (n4 : Nat) (n5 : Nat) (c1 : Option Nat) (c2 : Option Nat) (c3 : Option Nat) (c4 : Option Nat) (c5 : Option Nat) (o1 : Bool) (o2 : Bool) (o3 : Bool) (o4 : Bool) (o5 : Bool) (s : Int) : Res := resG 5 [0, 1, 2, 3, 4] (runF (eN0 []) f40 [] 400 [.agg [.slice 1 0 g1 0 n1 c1, .slice 1 1 g2 0 n2 c2, .slice 1 2 g3 0 n3 c3, .int .i64 s, .slice 1 3 g4 0 n4 c4, .slice 1 4 g5 0 n5 c5]] [some ⟨.ints .u8 a, g1, o1, 5⟩, some ⟨.ints .u8 b, g2, o2, 5⟩, some ⟨.ints .u8 c, g3, o3, 5⟩, some ⟨.ints .u8 d, g4, o4, 5⟩, some ⟨.ints .u8 z, g5, o5, 5⟩] [some false, some true])
theorem nR40b_ok {a : List Int} {b : List Int} {c : List Int} {d : List Int} {z : List Int} {g1 : Nat} {g2 : Nat} {g3 : Nat} {g4 : Nat} {g5 : Nat} {n1 : Nat} {n2 : Nat} {n3 : Nat} {n4 : Nat} {n5 : Nat} {c1 : Option Nat} {c2 : Option Nat} {c3 : Option Nat} {c4 : Option Nat} {c5 : Option Nat} {o1 : Bool} {o2 : Bool} {o3 : Bool} {o4 : Bool} {o5 : Bool} {s : Int} (h : allP [.eqN g1 g1, .p (((↑n1 : Int)
 != 32) = false), .eqN g2 g2, .p (((↑n2 : Int) != 32) = true)]) : OkR (nR40b a b c d z g1 g2 g3 g4 g5 n1 n2 n3 n4 n5 c1 c2 c3 c4 c5 o1 o2 o3 o4 o5 s) := OkR.dem (fl := [true, true, true, false, false, true, true, true, false, false]) (by kernel_rfl) (by kernel_rfl) (by kernel_rfl) h
theorem nR40b_val {a : List Int} {b : List Int} {c : List Int} {d : List Int} {z : List Int} {g1 : Nat} {g2 : Nat} {g3 : Nat} {g4 : Nat} {g5 : Nat} {n1 : Nat} {n2 : Nat} {n3 : Nat} {n4 : Nat} {n5 : Nat} {c1 : Option Nat} {c2 : Option Nat} {c3 : Option Nat} {c4 : Option Nat} {c5 : Option Nat} {o1 : Bool} {o2 : Bool} {o3 : Bool} {o4 : Bool} {o5 : Bool} {s : Int} : (nR40b a b c d z g1 g2 g3 g4 g5 n1
 n2 n3 n4 n5 c1 c2 c3 c4 c5 o1 o2 o3 o4 o5 s).val = .bool false := by kernel_rfl
theorem nR40b_tab {a : List Int} {b : List Int} {c : List Int} {d : List Int} {z : List Int} {g1 : Nat} {g2 : Nat} {g3 : Nat} {g4 : Nat} {g5 : Nat} {n1 : Nat} {n2 : Nat} {n3 : Nat} {n4 : Nat} {n5 : Nat} {c1 : Option Nat} {c2 : Option Nat} {c3 : Option Nat} {c4 : Option Nat} {c5 : Option Nat} {o1 : Bool} {o2 : Bool} {o3 : Bool} {o4 : Bool} {o5 : Bool} {s : Int} : (nR40b a b c d z g1 g2 g3 g4 g5 n1
 n2 n3 n4 n5 c1 c2 c3 c4 c5 o1 o2 o3 o4 o5 s).tab = [some ⟨.ints .u8 a, g1, o1, 5⟩, some ⟨.ints .u8 b, g2, o2, 5⟩, some ⟨.ints .u8 c, g3, o3, 5⟩, some ⟨.ints .u8 d, g4, o4, 5⟩, some ⟨.ints .u8 z, g5, o5, 5⟩] := by kernel_rfl
noncomputable def nR40c (a : List Int) (b : List Int) (c : List Int) (d : List Int) (z : List Int) (g1 : Nat) (g2 : Nat) (g3 : Nat) (g4 : Nat) (g5 : Nat) (n1 : Nat) (n2 : Nat) (n3 : Nat) (n4 : Nat) (n5 : Nat) (c1 : Option Nat) (c2 : Option Nat) (c3 : Option Nat) (c4 : Option Nat) (c5 : Option Nat) (o1 : Bool) (o2 : Bool) (o3 : Bool) (o4 : Bool) (o5 : Bool) (s : Int) : Res := resG 5 [0, 1, 2, 3, 4] (runF (eN0 []) f40 [] 400 [.agg [.slice 1 0 g1 0 n1 c1, .slice 1 1 g2 0 n2 c2, .slice 1 2 g3 0 n3 c3, .int .i64 s, .slice 1 3 g4 0 n4 c4, .slice 1 4 g5 0 n5 c5]] [some ⟨.ints .u8 a, g1, o1, 5⟩, some ⟨.ints .u8 b, g2, o2, 5⟩, some ⟨.ints .u8 c, g3, o3, 5⟩, some ⟨.ints .u8 d, g4, o4, 5⟩, some ⟨.ints .u8 z, g5, o5, 5⟩] [some false, some false, some true])
theorem nR40c_ok {a : List Int} {b : List Int} {c : List Int} {d : List Int} {z : List Int} {g1 : Nat} {g2 : Nat} {g3 : Nat} {g4 : Nat} {g5 : Nat} {n1 : Nat} {n2 : Nat} {n3 : Nat} {n4 : Nat} {n5 : Nat} {c1 : Option Nat} {c2 : Option Nat} {c3 : Option Nat} {c4 : Option Nat} {c5 : Option Nat} {o1 : Bool} {o2 : Bool} {o3 : Bool} {o4 : Bool} {o5 : Bool} {s : Int} (h : allP [.eqN g1 g1, .p (((↑n1 : Int)
 != 32) = false), .eqN g2 g2, .p (((↑n2 : Int) != 32) = false), .eqN g3 g3, .p (decide ((↑n3 : Int) < 1) = true)]) : OkR (nR40c a b c d z g1 g2 g3 g4 g5 n1 n2 n3 n4 n5 c1 c2 c3 c4 c5 o1 o2 o3 o4 o5 s) := OkR.dem (fl := bitsF 15 7399) (by kernel_rfl) (by kernel_rfl) (by kernel_rfl) h
theorem nR40c_val {a : List Int} {b : List Int} {c : List Int} {d : List Int} {z : List Int} {g1 : Nat} {g2 : Nat} {g3 : Nat} {g4 : Nat} {g5 : Nat} {n1 : Nat} {n2 : Nat} {n3 : Nat} {n4 : Nat} {n5 : Nat} {c1 : Option Nat} {c2 : Option Nat} {c3 : Option Nat} {c4 : Option Nat} {c5 : Option Nat} {o1 : Bool} {o2 : Bool} {o3 : Bool} {o4 : Bool} {o5 : Bool} {s : Int} : (nR40c a b c d z g1 g2 g3 g4 g5 n1
 n2 n3 n4 n5 c1 c2 c3 c4 c5 o1 o2 o3 o4 o5 s).val = .bool false := by kernel_rfl
theorem nR40c_tab {a : List Int} {b : List Int} {c : List Int} {d : List Int} {z : List Int} {g1 : Nat} {g2 : Nat} {g3 : Nat} {g4 : Nat} {g5 : Nat} {n1 : Nat} {n2 : Nat} {n3 : Nat} {n4 : Nat} {n5 : Nat} {c1 : Option Nat} {c2 : Option Nat} {c3 : Option Nat} {c4 : Option Nat} {c5 : Option Nat} {o1 : Bool} {o2 : Bool} {o3 : Bool} {o4 : Bool} {o5 : Bool} {s : Int} : (nR40c a b c d z g1 g2 g3 g4 g5 n1
 n2 n3 n4 n5 c1 c2 c3 c4 c5 o1 o2 o3 o4 o5 s).tab = [some ⟨.ints .u8 a, g1, o1, 5⟩, some ⟨.ints .u8 b, g2, o2, 5⟩, some ⟨.ints .u8 c, g3, o3, 5⟩, some ⟨.ints .u8 d, g4, o4, 5⟩, some ⟨.ints .u8 z, g5, o5, 5⟩] := by kernel_rfl
noncomputable def nR40d (a : List Int) (b : List Int) (c : List Int) (d : List Int) (z : List Int) (g1 : Nat) (g2 : Nat) (g3 : Nat) (g4 : Nat) (g5 : Nat) (n1 : Nat) (n2 : Nat) (n3 : Nat) (n4 : Nat) (n5 : Nat) (c1 : Option Nat) (c2 : Option Nat) (c3 : Option Nat) (c4 : Option Nat) (c5 : Option Nat) (o1 : Bool) (o2 : Bool) (o3 : Bool) (o4 : Bool) (o5 : Bool) (s : Int) : Res := resG 5 [0, 1, 2, 3, 4] (runF (eN0 []) f40 [] 400 [.agg [.slice 1 0 g1 0 n1 c1, .slice 1 1 g2 0 n2 c2, .slice 1 2 g3 0 n3 c3, .int .i64 s, .slice 1 3 g4 0 n4 c4, .slice 1 4 g5 0 n5 c5]] [some ⟨.ints .u8 a, g1, o1, 5⟩, some ⟨.ints .u8 b, g2, o2, 5⟩, some ⟨.ints .u8 c, g3, o3, 5⟩, some ⟨.ints .u8 d, g4, o4, 5⟩, some ⟨.ints .u8 z, g5, o5, 5⟩] [some false, some false, some false, some true])
theorem nR40d_ok {a : List Int} {b : List Int} {c : List Int} {d : List Int} {z : List Int} {g1 : Nat} {g2 : Nat} {g3 : Nat} {g4 : Nat} {g5 : Nat} {n1 : Nat} {n2 : Nat} {n3 : Nat} {n4 : Nat} {n5 : Nat} {c1 : Option Nat} {c2 : Option Nat} {c3 : Option Nat} {c4 : Option Nat} {c5 : Option Nat} {o1 : Bool} {o2 : Bool} {o3 : Bool} {o4 : Bool} {o5 : Bool} {s : Int} (h : allP [.eqN g1 g1, .p (((↑n1 : Int)
 != 32) = false), .eqN g2 g2, .p (((↑n2 : Int) != 32) = false), .eqN g3 g3, .p (decide ((↑n3 : Int) < 1) = false), .eqN g3 g3, .p (decide (64 < (↑n3 : Int)) = true)]) : OkR (nR40d a b c d z g1 g2 g3 g4 g5 n1 n2 n3 n4 n5 c1 c2 c3 c4 c5 o1 o2 o3 o4 o5 s) := OkR.dem (fl := bitsF 20 236775) (by kernel_rfl) (by kernel_rfl) (by kernel_rfl) h
theorem nR40d_val {a : List Int} {b : List Int} {c : List Int} {d : List Int} {z : List Int} {g1 : Nat} {g2 : Nat} {g3 : Nat} {g4 : Nat} {g5 : Nat} {n1 : Nat} {n2 : Nat} {n3 : Nat} {n4 : Nat} {n5 : Nat} {c1 : Option Nat} {c2 : Option Nat} {c3 : Option Nat} {c4 : Option Nat} {c5 : Option Nat} {o1 : Bool} {o2 : Bool} {o3 : Bool} {o4 : Bool} {o5 : Bool} {s : Int} : (nR40d a b c d z g1 g2 g3 g4 g5 n1
 n2 n3 n4 n5 c1 c2 c3 c4 c5 o1 o2 o3 o4 o5 s).val = .bool false := by kernel_rfl
theorem nR40d_tab {a : List Int} {b : List Int} {c : List Int} {d : List Int} {z : List Int} {g1 : Nat} {g2 : Nat} {g3 : Nat} {g4 : Nat} {g5 : Nat} {n1 : Nat} {n2 : Nat} {n3 : Nat} {n4 : Nat} {n5 : Nat} {c1 : Option Nat} {c2 : Option Nat} {c3 : Option Nat} {c4 : Option Nat} {c5 : Option Nat} {o1 : Bool} {o2 : Bool} {o3 : Bool} {o4 : Bool} {o5 : Bool} {s : Int} : (nR40d a b c d z g1 g2 g3 g4 g5 n1
 n2 n3 n4 n5 c1 c2 c3 c4 c5 o1 o2 o3 o4 o5 s).tab = [some ⟨.ints .u8 a, g1, o1, 5⟩, some ⟨.ints .u8 b, g2, o2, 5⟩, some ⟨.ints .u8 c, g3, o3, 5⟩, some ⟨.ints .u8 d, g4, o4, 5⟩, some ⟨.ints .u8 z, g5, o5, 5⟩] := by kernel_rfl
noncomputable def nR40e (a : List Int) (b : List Int) (c : List Int) (d : List Int) (z : List Int) (g1 : Nat) (g2 : Nat) (g3 : Nat) (g4 : Nat) (g5 : Nat) (n1 : Nat) (n2 : Nat) (n3 : Nat) (n4 : Nat) (n5 : Nat) (c1 : Option Nat) (c2 : Option Nat) (c3 : Option Nat) (c4 : Option Nat) (c5 : Option Nat) (o1 : Bool) (o2 : Bool) (o3 : Bool) (o4 : Bool) (o5 : Bool) (s : Int) : Res := resG 5 [0, 1, 2, 3, 4] (runF (eN0 []) f40 [] 400 [.agg [.slice 1 0 g1 0 n1 c1, .slice 1 1 g2 0 n2 c2, .slice 1 2 g3 0 n3 c3, .int .i64 s, .slice 1 3 g4 0 n4 c4, .slice 1 4 g5 0 n5 c5]] [some ⟨.ints .u8 a, g1, o1, 5⟩, some ⟨.ints .u8 b, g2, o2, 5⟩, some ⟨.ints .u8 c, g3, o3, 5⟩, some ⟨.ints .u8 d, g4, o4, 5⟩, some ⟨.ints .u8 z, g5, o5, 5⟩] [some false, some false, some false, some false, some true])
theorem nR40e_ok {a : List Int} {b : List Int} {c : List Int} {d : List Int} {z : List Int} {g1 : Nat} {g2 : Nat} {g3 : Nat} {g4 : Nat} {g5 : Nat} {n1 : Nat} {n2 : Nat} {n3 : Nat} {n4 : Nat} {n5 : Nat} {c1 : Option Nat} {c2 : Option Nat} {c3 : Option Nat} {c4 : Option Nat} {c5 : Option Nat} {o1 : Bool} {o2 : Bool} {o3 : Bool} {o4 : Bool} {o5 : Bool} {s : Int} (h : allP [.eqN g1 g1, .p (((↑n1 : Int)
 != 32) = false), .eqN g2 g2, .p (((↑n2 : Int) != 32) = false), .eqN g3 g3, .p (decide ((↑n3 : Int) < 1) = false), .eqN g3 g3, .p (decide (64 < (↑n3 : Int)) = false), .p (decide (s < 1) = true)]) : OkR (nR40e a b c d z g1 g2 g3 g4 g5 n1 n2 n3 n4 n5 c1 c2 c3 c4 c5 o1 o2 o3 o4 o5 s) := OkR.dem (fl := bitsF 24 7576807) (by kernel_rfl) (by kernel_rfl) (by kernel_rfl) h
theorem nR40e_val {a : List Int} {b : List Int} {c : List Int} {d : List Int} {z : List Int} {g1 : Nat} {g2 : Nat} {g3 : Nat} {g4 : Nat} {g5 : Nat} {n1 : Nat} {n2 : Nat} {n3 : Nat} {n4 : Nat} {n5 : Nat} {c1 : Option Nat} {c2 : Option Nat} {c3 : Option Nat} {c4 : Option Nat} {c5 : Option Nat} {o1 : Bool} {o2 : Bool} {o3 : Bool} {o4 : Bool} {o5 : Bool} {s : Int} : (nR40e a b c d z g1 g2 g3 g4 g5 n1
 n2 n3 n4 n5 c1 c2 c3 c4 c5 o1 o2 o3 o4 o5 s).val = .bool false := by kernel_rfl
theorem nR40e_tab {a : List Int} {b : List Int} {c : List Int} {d : List Int} {z : List Int} {g1 : Nat} {g2 : Nat} {g3 : Nat} {g4 : Nat} {g5 : Nat} {n1 : Nat} {n2 : Nat} {n3 : Nat} {n4 : Nat} {n5 : Nat} {c1 : Option Nat} {c2 : Option Nat} {c3 : Option Nat} {c4 : Option Nat} {c5 : Option Nat} {o1 : Bool} {o2 : Bool} {o3 : Bool} {o4 : Bool} {o5 : Bool} {s : Int} : (nR40e a b c d z g1 g2 g3 g4 g5 n1
 n2 n3 n4 n5 c1 c2 c3 c4 c5 o1 o2 o3 o4 o5 s).tab = [some ⟨.ints .u8 a, g1, o1, 5⟩, some ⟨.ints .u8 b, g2, o2, 5⟩, some ⟨.ints .u8 c, g3, o3, 5⟩, some ⟨.ints .u8 d, g4, o4, 5⟩, some ⟨.ints .u8 z, g5, o5, 5⟩] := by kernel_rfl
noncomputable def nR40f (a : List Int) (b : List Int) (c : List Int) (d : List Int) (z : List Int) (g1 : Nat) (g2 : Nat) (g3 : Nat) (g4 : Nat) (g5 : Nat) (n1 : Nat) (n2 : Nat) (n3 : Nat) (n4 : Nat) (n5 : Nat) (c1 : Option Nat) (c2 : Option Nat) (c3 : Option Nat) (c4 : Option Nat) (c5 : Option Nat) (o1 : Bool) (o2 : Bool) (o3 : Bool) (o4 : Bool) (o5 : Bool) (s : Int) : Res := resG 5 [0, 1, 2, 3, 4] (runF (eN0 []) f40 [] 400 [.agg [.slice 1 0 g1 0 n1 c1, .slice 1 1 g2 0 n2 c2, .slice 1 2 g3 0 n3 c3, .int .i64 s, .slice 1 3 g4 0 n4 c4, .slice 1 4 g5 0 n5 c5]] [some ⟨.ints .u8 a, g1, o1, 5⟩, some ⟨.ints .u8 b, g2, o2, 5⟩, some ⟨.ints .u8 c, g3, o3, 5⟩, some ⟨.ints .u8 d, g4, o4, 5⟩, some ⟨.ints .u8 z, g5, o5, 5⟩] [some false, some false, some false, some false, some false, some true])
theorem nR40f_ok {a : List Int} {b : List Int} {c : List Int} {d : List Int} {z : List Int} {g1 : Nat} {g2 : Nat} {g3 : Nat} {g4 : Nat} {g5 : Nat} {n1 : Nat} {n2 : Nat} {n3 : Nat} {n4 : Nat} {n5 : Nat} {c1 : Option Nat} {c2 : Option Nat} {c3 : Option Nat} {c4 : Option Nat} {c5 : Option Nat} {o1 : Bool} {o2 : Bool} {o3 : Bool} {o4 : Bool} {o5 : Bool} {s : Int} (h : allP [.eqN g1 g1, .p (((↑n1 : Int)
 != 32) = false), .eqN g2 g2, .p (((↑n2 : Int) != 32) = false), .eqN g3 g3, .p (decide ((↑n3 : Int) < 1) = false), .eqN g3 g3, .p (decide (64 < (↑n3 : Int)) = false), .p (decide (s < 1) = false), .p (decide (3 < s) = true)]) : OkR (nR40f a b c d z g1 g2 g3 g4 g5 n1 n2 n3 n4 n5 c1 c2 c3 c4 c5 o1 o2 o3 o4 o5 s) := OkR.dem (fl := bitsF 28 125017319) (by kernel_rfl) (by kernel_rfl) (by kernel_rfl) h
theorem nR40f_val {a : List Int} {b : List Int} {c : List Int} {d : List Int} {z : List Int} {g1 : Nat} {g2 : Nat} {g3 : Nat} {g4 : Nat} {g5 : Nat} {n1 : Nat} {n2 : Nat} {n3 : Nat} {n4 : Nat} {n5 : Nat} {c1 : Option Nat} {c2 : Option Nat} {c3 : Option Nat} {c4 : Option Nat} {c5 : Option Nat} {o1 : Bool} {o2 : Bool} {o3 : Bool} {o4 : Bool} {o5 : Bool} {s : Int} : (nR40f a b c d z g1 g2 g3 g4 g5 n1
 n2 n3 n4 n5 c1 c2 c3 c4 c5 o1 o2 o3 o4 o5 s).val = .bool false := by kernel_rfl
theorem nR40f_tab {a : List Int} {b : List Int} {c : List Int} {d : List Int} {z : List Int} {g1 : Nat} {g2 : Nat} {g3 : Nat} {g4 : Nat} {g5 : Nat} {n1 : Nat} {n2 : Nat} {n3 : Nat} {n4 : Nat} {n5 : Nat} {c1 : Option Nat} {c2 : Option Nat} {c3 : Option Nat} {c4 : Option Nat} {c5 : Option Nat} {o1 : Bool} {o2 : Bool} {o3 : Bool} {o4 : Bool} {o5 : Bool} {s : Int} : (nR40f a b c d z g1 g2 g3 g4 g5 n1
 n2 n3 n4 n5 c1 c2 c3 c4 c5 o1 o2 o3 o4 o5 s).tab = [some ⟨.ints .u8 a, g1, o1, 5⟩, some ⟨.ints .u8 b, g2, o2, 5⟩, some ⟨.ints .u8 c, g3, o3, 5⟩, some ⟨.ints .u8 d, g4, o4, 5⟩, some ⟨.ints .u8 z, g5, o5, 5⟩] := by kernel_rfl
noncomputable def nR40g (a : List Int) (b : List Int) (c : List Int) (d : List Int) (z : List Int) (g1 : Nat) (g2 : Nat) (g3 : Nat) (g4 : Nat) (g5 : Nat) (n1 : Nat) (n2 : Nat) (n3 : Nat) (n4 : Nat) (n5 : Nat) (c1 : Option Nat) (c2 : Option Nat) (c3 : Option Nat) (c4 : Option Nat) (c5 : Option Nat) (o1 : Bool) (o2 : Bool) (o3 : Bool) (o4 : Bool) (o5 : Bool) (s : Int) : Res := resG 5 [0, 1, 2, 3, 4] (runF (eN0 []) f40 [] 400 [.agg [.slice 1 0 g1 0 n1 c1, .slice 1 1 g2 0 n2 c2, .slice 1 2 g3 0 n3 c3, .int .i64 s, .slice 1 3 g4 0 n4 c4, .slice 1 4 g5 0 n5 c5]] [some ⟨.ints .u8 a, g1, o1, 5⟩, some ⟨.ints .u8 b, g2, o2, 5⟩, some ⟨.ints .u8 c, g3, o3, 5⟩, some ⟨.ints .u8 d, g4, o4, 5⟩, some ⟨.ints .u8 z, g5, o5, 5⟩] [some false, some false, some false, some false, some false, some false, some true])
theorem nR40g_ok {a : List Int} {b : List Int} {c : List Int} {d : List Int} {z : List Int} {g1 : Nat} {g2 : Nat} {g3 : Nat} {g4 : Nat} {g5 : Nat} {n1 : Nat} {n2 : Nat} {n3 : Nat} {n4 : Nat} {n5 : Nat} {c1 : Option Nat} {c2 : Option Nat} {c3 : Option Nat} {c4 : Option Nat} {c5 : Option Nat} {o1 : Bool} {o2 : Bool} {o3 : Bool} {o4 : Bool} {o5 : Bool} {s : Int} (h : allP [.eqN g1 g1, .p (((↑n1 : Int)
 != 32) = false), .eqN g2 g2, .p (((↑n2 : Int) != 32) = false), .eqN g3 g3, .p (decide ((↑n3 : Int) < 1) = false), .eqN g3 g3, .p (decide (64 < (↑n3 : Int)) = false), .p (decide (s < 1) = false), .p (decide (3 < s) = false), .eqN g5 g5, .p (((↑n5 : Int) != 64) = true)]) : OkR (nR40g a b c d z g1 g2 g3 g4 g5 n1 n2 n3 n4 n5 c1 c2 c3 c4 c5 o1 o2 o3 o4 o5 s) := OkR.dem (fl := bitsF 33 2004065511) (by
 kernel_rfl) (by kernel_rfl) (by kernel_rfl) h
theorem nR40g_val {a : List Int} {b : List Int} {c : List Int} {d : List Int} {z : List Int} {g1 : Nat} {g2 : Nat} {g3 : Nat} {g4 : Nat} {g5 : Nat} {n1 : Nat} {n2 : Nat} {n3 : Nat} {n4 : Nat} {n5 : Nat} {c1 : Option Nat} {c2 : Option Nat} {c3 : Option Nat} {c4 : Option Nat} {c5 : Option Nat} {o1 : Bool} {o2 : Bool} {o3 : Bool} {o4 : Bool} {o5 : Bool} {s : Int} : (nR40g a b c d z g1 g2 g3 g4 g5 n1
 n2 n3 n4 n5 c1 c2 c3 c4 c5 o1 o2 o3 o4 o5 s).val = .bool false := by kernel_rfl
theorem nR40g_tab {a : List Int} {b : List Int} {c : List Int} {d : List Int} {z : List Int} {g1 : Nat} {g2 : Nat} {g3 : Nat} {g4 : Nat} {g5 : Nat} {n1 : Nat} {n2 : Nat} {n3 : Nat} {n4 : Nat} {n5 : Nat} {c1 : Option Nat} {c2 : Option Nat} {c3 : Option Nat} {c4 : Option Nat} {c5 : Option Nat} {o1 : Bool} {o2 : Bool} {o3 : Bool} {o4 : Bool} {o5 : Bool} {s : Int} : (nR40g a b c d z g1 g2 g3 g4 g5 n1
 n2 n3 n4 n5 c1 c2 c3 c4 c5 o1 o2 o3 o4 o5 s).tab = [some ⟨.ints .u8 a, g1, o1, 5⟩, some ⟨.ints .u8 b, g2, o2, 5⟩, some ⟨.ints .u8 c, g3, o3, 5⟩, some ⟨.ints .u8 d, g4, o4, 5⟩, some ⟨.ints .u8 z, g5, o5, 5⟩] := by kernel_rfl
noncomputable def nR40h (a : List Int) (b : List Int) (c : List Int) (d : List Int) (z : List Int) (g1 : Nat) (g2 : Nat) (g3 : Nat) (g4 : Nat) (g5 : Nat) (n1 : Nat) (n2 : Nat) (n3 : Nat) (n4 : Nat) (n5 : Nat) (c1 : Option Nat) (c2 : Option Nat) (c3 : Option Nat) (c4 : Option Nat) (c5 : Option Nat) (o1 : Bool) (o2 : Bool) (o3 : Bool) (o4 : Bool) (o5 : Bool) (s : Int) : Res := resG 5 [0, 1, 2, 3, 4] (runF (eN0 []) f40 [] 400 [.agg [.slice 1 0 g1 0 n1 c1, .slice 1 1 g2 0 n2 c2, .slice 1 2 g3 0 n3 c3, .int .i64 s, .slice 1 3 g4 0 n4 c4, .slice 1 4 g5 0 n5 c5]] [some ⟨.ints .u8 a, g1, o1, 5⟩, some ⟨.ints .u8 b, g2, o2, 5⟩, some ⟨.ints .u8 c, g3, o3, 5⟩, some ⟨.ints .u8 d, g4, o4, 5⟩, some ⟨.ints .u8 z, g5, o5, 5⟩] [some false, some false, some false, some false, some false, some false, some false, some true])
theorem nR40h_ok {a : List Int} {b : List Int} {c : List Int} {d : List Int} {z : List Int} {g1 : Nat} {g2 : Nat} {g3 : Nat} {g4 : Nat} {g5 : Nat} {n1 : Nat} {n2 : Nat} {n3 : Nat} {n4 : Nat} {n5 : Nat} {c1 : Option Nat} {c2 : Option Nat} {c3 : Option Nat} {c4 : Option Nat} {c5 : Option Nat} {o1 : Bool} {o2 : Bool} {o3 : Bool} {o4 : Bool} {o5 : Bool} {s : Int} (h : allP [.eqN g1 g1, .p (((↑n1 : Int)
 != 32) = false), .eqN g2 g2, .p (((↑n2 : Int) != 32) = false), .eqN g3 g3, .p (decide ((↑n3 : Int) < 1) = false), .eqN g3 g3, .p (decide (64 < (↑n3 : Int)) = false), .p (decide (s < 1) = false), .p (decide (3 < s) = false), .eqN g5 g5, .p (((↑n5 : Int) != 64) = false), .eqN g4 g4, .p (((↑n4 : Int) == 0) = true)]) : OkR (nR40h a b c d z g1 g2 g3 g4 g5 n1 n2 n3 n4 n5 c1 c2 c3 c4 c5 o1 o2 o3 o4 o5 s)
 := OkR.dem (fl := bitsF 38 62133607655) (by kernel_rfl) (by kernel_rfl) (by kernel_rfl) h
theorem nR40h_val {a : List Int} {b : List Int} {c : List Int} {d : List Int} {z : List Int} {g1 : Nat} {g2 : Nat} {g3 : Nat} {g4 : Nat} {g5 : Nat} {n1 : Nat} {n2 : Nat} {n3 : Nat} {n4 : Nat} {n5 : Nat} {c1 : Option Nat} {c2 : Option Nat} {c3 : Option Nat} {c4 : Option Nat} {c5 : Option Nat} {o1 : Bool} {o2 : Bool} {o3 : Bool} {o4 : Bool} {o5 : Bool} {s : Int} : (nR40h a b c d z g1 g2 g3 g4 g5 n1
 n2 n3 n4 n5 c1 c2 c3 c4 c5 o1 o2 o3 o4 o5 s).val = .bool true := by kernel_rfl
theorem nR40h_tab {a : List Int} {b : List Int} {c : List Int} {d : List Int} {z : List Int} {g1 : Nat} {g2 : Nat} {g3 : Nat} {g4 : Nat} {g5 : Nat} {n1 : Nat} {n2 : Nat} {n3 : Nat} {n4 : Nat} {n5 : Nat} {c1 : Option Nat} {c2 : Option Nat} {c3 : Option Nat} {c4 : Option Nat} {c5 : Option Nat} {o1 : Bool} {o2 : Bool} {o3 : Bool} {o4 : Bool} {o5 : Bool} {s : Int} : (nR40h a b c d z g1 g2 g3 g4 g5 n1
 n2 n3 n4 n5 c1 c2 c3 c4 c5 o1 o2 o3 o4 o5 s).tab = [some ⟨.ints .u8 a, g1, o1, 5⟩, some ⟨.ints .u8 b, g2, o2, 5⟩, some ⟨.ints .u8 c, g3, o3, 5⟩, some ⟨.ints .u8 d, g4, o4, 5⟩, some ⟨.ints .u8 z, g5, o5, 5⟩] := by kernel_rfl
noncomputable def nR40i (a : List Int) (b : List Int) (c : List Int) (d : List Int) (z : List Int) (g1 : Nat) (g2 : Nat) (g3 : Nat) (g4 : Nat) (g5 : Nat) (n1 : Nat) (n2 : Nat) (n3 : Nat) (n4 : Nat) (n5 : Nat) (c1 : Option Nat) (c2 : Option Nat) (c3 : Option Nat) (c4 : Option Nat) (c5 : Option Nat) (o1 : Bool) (o2 : Bool) (o3 : Bool) (o4 : Bool) (o5 : Bool) (s : Int) : Res := resG 5 [0, 1, 2, 3, 4] (runF (eN0 []) f40 [] 400 [.agg [.slice 1 0 g1 0 n1 c1, .slice 1 1 g2 0 n2 c2, .slice 1 2 g3 0 n3 c3, .int .i64 s, .slice 1 3 g4 0 n4 c4, .slice 1 4 g5 0 n5 c5]] [some ⟨.ints .u8 a, g1, o1, 5⟩, some ⟨.ints .u8 b, g2, o2, 5⟩, some ⟨.ints .u8 c, g3, o3, 5⟩, some ⟨.ints .u8 d, g4, o4, 5⟩, some ⟨.ints .u8 z, g5, o5, 5⟩] [some false, some false, some false, some false, some false, some false, some false, some false, some false])
theorem nR40i_ok {a : List Int} {b : List Int} {c : List Int} {d : List Int} {z : List Int} {g1 : Nat} {g2 : Nat} {g3 : Nat} {g4 : Nat} {g5 : Nat} {n1 : Nat} {n2 : Nat} {n3 : Nat} {n4 : Nat} {n5 : Nat} {c1 : Option Nat} {c2 : Option Nat} {c3 : Option Nat} {c4 : Option Nat} {c5 : Option Nat} {o1 : Bool} {o2 : Bool} {o3 : Bool} {o4 : Bool} {o5 : Bool} {s : Int} (h : allP [.eqN g1 g1, .p (((↑n1 : Int)
 != 32) = false), .eqN g2 g2, .p (((↑n2 : Int) != 32) = false), .eqN g3 g3, .p (decide ((↑n3 : Int) < 1) = false), .eqN g3 g3, .p (decide (64 < (↑n3 : Int)) = false), .p (decide (s < 1) = false), .p (decide (3 < s) = false), .eqN g5 g5, .p (((↑n5 : Int) != 64) = false), .eqN g4 g4, .p (((↑n4 : Int) == 0) = false), .eqN g4 g4, .p (((↑n4 : Int) == 32) = false)]) : OkR (nR40i a b c d z g1 g2 g3 g4 g5
 n1 n2 n3 n4 n5 c1 c2 c3 c4 c5 o1 o2 o3 o4 o5 s) := OkR.dem (fl := bitsF 43 1986278956263) (by kernel_rfl) (by kernel_rfl) (by kernel_rfl) h
theorem nR40i_val {a : List Int} {b : List Int} {c : List Int} {d : List Int} {z : List Int} {g1 : Nat} {g2 : Nat} {g3 : Nat} {g4 : Nat} {g5 : Nat} {n1 : Nat} {n2 : Nat} {n3 : Nat} {n4 : Nat} {n5 : Nat} {c1 : Option Nat} {c2 : Option Nat} {c3 : Option Nat} {c4 : Option Nat} {c5 : Option Nat} {o1 : Bool} {o2 : Bool} {o3 : Bool} {o4 : Bool} {o5 : Bool} {s : Int} : (nR40i a b c d z g1 g2 g3 g4 g5 n1
 n2 n3 n4 n5 c1 c2 c3 c4 c5 o1 o2 o3 o4 o5 s).val = .bool false := by kernel_rfl
theorem nR40i_tab {a : List Int} {b : List Int} {c : List Int} {d : List Int} {z : List Int} {g1 : Nat} {g2 : Nat} {g3 : Nat} {g4 : Nat} {g5 : Nat} {n1 : Nat} {n2 : Nat} {n3 : Nat} {n4 : Nat} {n5 : Nat} {c1 : Option Nat} {c2 : Option Nat} {c3 : Option Nat} {c4 : Option Nat} {c5 : Option Nat} {o1 : Bool} {o2 : Bool} {o3 : Bool} {o4 : Bool} {o5 : Bool} {s : Int} : (nR40i a b c d z g1 g2 g3 g4 g5 n1
 n2 n3 n4 n5 c1 c2 c3 c4 c5 o1 o2 o3 o4 o5 s).tab = [some ⟨.ints .u8 a, g1, o1, 5⟩, some ⟨.ints .u8 b, g2, o2, 5⟩, some ⟨.ints .u8 c, g3, o3, 5⟩, some ⟨.ints .u8 d, g4, o4, 5⟩, some ⟨.ints .u8 z, g5, o5, 5⟩] := by kernel_rfl
noncomputable def nR40j (a : List Int) (b : List Int) (c : List Int) (d : List Int) (z : List Int) (g1 : Nat) (g2 : Nat) (g3 : Nat) (g4 : Nat) (g5 : Nat) (n1 : Nat) (n2 : Nat) (n3 : Nat) (n4 : Nat) (n5 : Nat) (c1 : Option Nat) (c2 : Option Nat) (c3 : Option Nat) (c4 : Option Nat) (c5 : Option Nat) (o1 : Bool) (o2 : Bool) (o3 : Bool) (o4 : Bool) (o5 : Bool) (s : Int) : Res := resG 5 [0, 1, 2, 3, 4] (runF (eN0 []) f40 [] 400 [.agg [.slice 1 0 g1 0 n1 c1, .slice 1 1 g2 0 n2 c2, .slice 1 2 g3 0 n3 c3, .int .i64 s, .slice 1 3 g4 0 n4 c4, .slice 1 4 g5 0 n5 c5]] [some ⟨.ints .u8 a, g1, o1, 5⟩, some ⟨.ints .u8 b, g2, o2, 5⟩, some ⟨.ints .u8 c, g3, o3, 5⟩, some ⟨.ints .u8 d, g4, o4, 5⟩, some ⟨.ints .u8 z, g5, o5, 5⟩] [some false, some false, some false, some false, some false, some false, some false, some false, some true])
theorem nR40j_ok {a : List Int} {b : List Int} {c : List Int} {d : List Int} {z : List Int} {g1 : Nat} {g2 : Nat} {g3 : Nat} {g4 : Nat} {g5 : Nat} {n1 : Nat} {n2 : Nat} {n3 : Nat} {n4 : Nat} {n5 : Nat} {c1 : Option Nat} {c2 : Option Nat} {c3 : Option Nat} {c4 : Option Nat} {c5 : Option Nat} {o1 : Bool} {o2 : Bool} {o3 : Bool} {o4 : Bool} {o5 : Bool} {s : Int} (h : allP [.eqN g1 g1, .p (((↑n1 : Int)
 != 32) = false), .eqN g2 g2, .p (((↑n2 : Int) != 32) = false), .eqN g3 g3, .p (decide ((↑n3 : Int) < 1) = false), .eqN g3 g3, .p (decide (64 < (↑n3 : Int)) = false), .p (decide (s < 1) = false), .p (decide (3 < s) = false), .eqN g5 g5, .p (((↑n5 : Int) != 64) = false), .eqN g4 g4, .p (((↑n4 : Int) == 0) = false), .eqN g4 g4, .p (((↑n4 : Int) == 32) = true)]) : OkR (nR40j a b c d z g1 g2 g3 g4 g5 n1
 n2 n3 n4 n5 c1 c2 c3 c4 c5 o1 o2 o3 o4 o5 s) := OkR.dem (fl := bitsF 46 63558930111719) (by kernel_rfl) (by kernel_rfl) (by kernel_rfl) h
theorem nR40j_val {a : List Int} {b : List Int} {c : List Int} {d : List Int} {z : List Int} {g1 : Nat} {g2 : Nat} {g3 : Nat} {g4 : Nat} {g5 : Nat} {n1 : Nat} {n2 : Nat} {n3 : Nat} {n4 : Nat} {n5 : Nat} {c1 : Option Nat} {c2 : Option Nat} {c3 : Option Nat} {c4 : Option Nat} {c5 : Option Nat} {o1 : Bool} {o2 : Bool} {o3 : Bool} {o4 : Bool} {o5 : Bool} {s : Int} : (nR40j a b c d z g1 g2 g3 g4 g5 n1
 n2 n3 n4 n5 c1 c2 c3 c4 c5 o1 o2 o3 o4 o5 s).val = .bool (s == 3) := by kernel_rfl
theorem nR40j_tab {a : List Int} {b : List Int} {c : List Int} {d : List Int} {z : List Int} {g1 : Nat} {g2 : Nat} {g3 : Nat} {g4 : Nat} {g5 : Nat} {n1 : Nat} {n2 : Nat} {n3 : Nat} {n4 : Nat} {n5 : Nat} {c1 : Option Nat} {c2 : Option Nat} {c3 : Option Nat} {c4 : Option Nat} {c5 : Option Nat} {o1 : Bool} {o2 : Bool} {o3 : Bool} {o4 : Bool} {o5 : Bool} {s : Int} : (nR40j a b c d z g1 g2 g3 g4 g5 n1
 n2 n3 n4 n5 c1 c2 c3 c4 c5 o1 o2 o3 o4 o5 s).tab = [some ⟨.ints .u8 a, g1, o1, 5⟩, some ⟨.ints .u8 b, g2, o2, 5⟩, some ⟨.ints .u8 c, g3, o3, 5⟩, some ⟨.ints .u8 d, g4, o4, 5⟩, some ⟨.ints .u8 z, g5, o5, 5⟩] := by kernel_rfl
noncomputable def nsm66ac (args : List AVal) (T : Tab) (a : List Int) (g1 : Nat) (n1 : Nat) (c1 : Option Nat) (gO : Nat) (ow : Bool) (ow1 : Bool) : Res := ⟨[.tab T [some ⟨.agg [.slice 1 1 g1 0 n1 c1], gO, ow, 22⟩, some ⟨.ints .u8 a, g1, ow1, 5⟩], .val (.tuple args) (.tuple [.slice 1 0 gO 0 1 (some 1)]), .leN n1 a.length, .leN n1 65536], .slice 1 2 0 0 (v1Law n1 a).length none, [some ⟨.agg [.slice 1 1 g1 0 n1 c1], gO, ow, 22⟩, some ⟨.ints .u8 a, g1, ow1, 5⟩, some ⟨.ints .u8 (v1Law n1 a), 0, true, 5⟩]⟩
theorem nsm66ac_ok {args : List AVal} {T : Tab} {a : List Int} {g1 : Nat} {n1 : Nat} {c1 : Option Nat} {gO : Nat} {ow : Bool} {ow1 : Bool} (h : allP (nsm66ac args T a g1 n1 c1 gO ow ow1).cs) : Small prog (fun _ => none) 66 args T (nsm66ac args T a g1 n1 c1 gO ow ow1).val (nsm66ac args T a g1 n1 c1 gO ow ow1).tab := by
  obtain ⟨hT, hv, h1, h2, _⟩ := h
  simp only [Con.h] at hT hv h1 h2
  injection hv with hv
  subst hT hv
  show Small prog (fun _ => none) 66 [.slice 1 0 gO 0 1 (some 1)] [some ⟨.agg [.slice 1 1 g1 0 n1 c1], gO, ow, 22⟩, some ⟨.ints .u8 a, g1, ow1, 5⟩] (.slice 1 2 0 0 (v1Law n1 a).length none) [some ⟨.agg [.slice 1 1 g1 0 n1 c1], gO, ow, 22⟩, some ⟨.ints .u8 a, g1, ow1, 5⟩, some ⟨.ints .u8 (v1Law n1 a), 0, true, 5⟩]
  have hL := lenLaw_len (n1 : Int)
  have hv := v1_len h1
  have hq := vec_v1 h1 h2
  refine small_ofG (R := nR66a a g1 n1 c1 gO ow ow1) eM7_ok hmN (f := 66) (fn := f66) (by kernel_rfl) (by kernel_rfl) FnOrc.nil rfl (nR66a_ok ?_) ?_ ?_
  · simp only [hq, allP, Con.h, eq_self, true_and, and_true, beq_iff_eq, beq_eq_false_iff_ne, ne_eq, decide_eq_true_eq, decide_eq_false_iff_not, addO_eq, Nat.zero_add, List.nil_append, List.length_append, List.take_length, List.length_take, Nat.min_self]
    omega
  · rw [nR66a_val, hq]
  · rw [nR66a_tab, hq]
    simp (disch := (simp only [List.length_append, List.length_take, addO_eq, List.length_nil]; omega)) only [List.take_length, List.take_of_length_le, addO_eq, List.nil_append]
noncomputable def nsm66a : Summary := fun args T => nsm66ac args T (xsAt T 1) (gAt T 1) (lenOf ((dAt T 0).get 0)) (capOf ((dAt T 0).get 0)) (gAt T 0) (owAt T 0) (owAt T 1)
theorem nsm66a_ok : SmOk prog (fun _ => none) 66 nsm66a := fun args T h => nsm66ac_ok h
noncomputable def nsm66cc (args : List AVal) (T : Tab) (a : List Int) (b : List Int) (c : List Int) (g1 : Nat) (g2 : Nat) (g3 : Nat) (n1 : Nat) (n2 : Nat) (n3 : Nat) (c1 : Option Nat) (c2 : Option Nat) (c3 : Option Nat) (gO : Nat) (ow : Bool) (o1 : Bool) (o2 : Bool) (o3 : Bool) : Res := ⟨[.tab T [some ⟨.agg [.slice 1 1 g1 0 n1 c1, .slice 1 2 g2 0 n2 c2, .slice 1 3 g3 0 n3 c3], gO, ow, 22⟩, some ⟨.ints .u8 a, g1, o1, 5⟩, some ⟨.ints .u8 b, g2, o2, 5⟩, some ⟨.ints .u8 c, g3, o3, 5⟩], .val (.tuple args) (.tuple [.slice 1 0 gO 0 3 (some 3)]), .leN n1 a.length, .leN n2 b.length, .leN n3 c.length, .leN n1 65536, .leN n2 65536, .leN n3 65536], .slice 1 4 2 0 (jn3Law (List.take n1 a) (List.take n2 b) (List.take n3 c)).length none, [some ⟨.agg [.slice 1 1 g1 0 n1 c1, .slice 1 2 g2 0 n2 c2, .slice 1 3 g3 0 n3 c3], gO, ow, 22⟩, some ⟨.ints .u8 a, g1, o1, 5⟩, some ⟨.ints .u8 b, g2, o2, 5⟩, some ⟨.ints .u8 c, g3, o3, 5⟩, some ⟨.ints .u8 (jn3Law (List.take n1 a) (List.take n2 b) (List.take n3 c)), 2, true, 5⟩]⟩
theorem nsm66cc_ok {args : List AVal} {T : Tab} {a : List Int} {b : List Int} {c : List Int} {g1 : Nat} {g2 : Nat} {g3 : Nat} {n1 : Nat} {n2 : Nat} {n3 : Nat} {c1 : Option Nat} {c2 : Option Nat} {c3 : Option Nat} {gO : Nat} {ow : Bool} {o1 : Bool} {o2 : Bool} {o3 : Bool} (h : allP (nsm66cc args T a b c g1 g2 g3 n1 n2 n3 c1 c2 c3 gO ow o1 o2 o3).cs) : Small prog (fun _ => none) 66 args T (nsm66cc args T a b c g1 g2 g3 n1 n2 n3 c1 c2 c3 gO ow o1 o2 o3).val (nsm66cc args T a b c g1 g2 g3 n1 n2 n3 c1 c2 c3 gO ow o1 o2 o3).tab := by
  obtain ⟨hT, hv, h1, h2, h3, h4, h5, h6, _⟩ := h
  simp only [Con.h] at hT hv h1 h2 h3 h4 h5 h6
  injection hv with hv
  subst hT hv
  show Small prog (fun _ => none) 66 [.slice 1 0 gO 0 3 (some 3)] [some ⟨.agg [.slice 1 1 g1 0 n1 c1, .slice 1 2 g2 0 n2 c2, .slice 1 3 g3 0 n3 c3], gO, ow, 22⟩, some ⟨.ints .u8 a, g1, o1, 5⟩, some ⟨.ints .u8 b, g2, o2, 5⟩, some ⟨.ints .u8 c, g3, o3, 5⟩] (.slice 1 4 2 0 (jn3Law (List.take n1 a) (List.take n2 b) (List.take n3 c)).length none) [some ⟨.agg [.slice 1 1 g1 0 n1 c1, .slice 1 2 g2 0 n2 c2, .slice 1 3 g3 0 n3 c3], gO, ow, 22⟩, some ⟨.ints .u8 a, g1, o1, 5⟩, some ⟨.ints .u8 b, g2, o2, 5⟩, some ⟨.ints .u8 c, g3, o3, 5⟩, some ⟨.ints .u8 (jn3Law (List.take n1 a) (List.take n2 b) (List.take n3 c)), 2, true, 5⟩]
  have hL := lenLaw_len (n1 : Int)
  have hL2 := lenLaw_len (n2 : Int)
  have hL3 := lenLaw_len (n3 : Int)
  have hv := v1_len h1
  have hv2 := v1_len h2
  have hv3 := v1_len h3
  have hq := vec_v1 h1 h4
  have hq2 := vec_v1 h2 h5
  have hq3 := vec_v1 h3 h6
  have hj : jn3Law (List.take n1 a) (List.take n2 b) (List.take n3 c) = v1Law n1 a ++ (v1Law n2 b ++ v1Law n3 c) := rfl
  rw [hj]
  refine small_ofG (R := nR66c a b c g1 g2 g3 n1 n2 n3 c1 c2 c3 gO ow o1 o2 o3) eM7_ok hmN (f := 66) (fn := f66) (by kernel_rfl) (by kernel_rfl) FnOrc.nil rfl (nR66c_ok ?_) ?_ ?_
  · simp (disch := (first | (simp only [List.length_append, List.length_take, addO_eq, List.length_nil, List.length_cons]; omega) | simp)) only [hq, hq2, hq3, allP, Con.h, eq_self, true_and, and_true, beq_iff_eq, beq_eq_false_iff_ne, ne_eq, decide_eq_true_eq, decide_eq_false_iff_not, addO_eq, Nat.zero_add, List.nil_append, List.length_append, List.take_length, List.length_take, Nat.min_self, List.take_of_length_le]
    omega
  · rw [nR66c_val, hq, hq2, hq3]
    simp only [addO_eq, List.length_append, Nat.add_assoc]
  · rw [nR66c_tab, hq, hq2, hq3]
    simp (disch := (first | (simp only [List.length_append, List.length_take, addO_eq, List.length_nil, List.length_cons]; omega) | simp)) only [List.take_length, List.take_of_length_le, addO_eq, List.nil_append, List.append_assoc]
noncomputable def nsm66c : Summary := fun args T => nsm66cc args T (xsAt T 1) (xsAt T 2) (xsAt T 3) (gAt T 1) (gAt T 2) (gAt T 3) (lenOf ((dAt T 0).get 0)) (lenOf ((dAt T 0).get 1)) (lenOf ((dAt T 0).get 2)) (capOf ((dAt T 0).get 0)) (capOf ((dAt T 0).get 1)) (capOf ((dAt T 0).get 2)) (gAt T 0) (owAt T 0) (owAt T 1) (owAt T 2) (owAt T 3)
theorem nsm66c_ok : SmOk prog (fun _ => none) 66 nsm66c := fun args T h => nsm66cc_ok h
noncomputable def nS66 : Summary := fun args T => match lenOf (vAt args 0) with
  | 1 => callR nsm66a [] args T
  | 3 => callR nsm66c [] args T
  | _ => fail
theorem nS66_ok : SumOk prog (fun _ => none) 66 nS66 := by
  intro args T hc
  unfold nS66 at hc ⊢
  split at hc
  · exact callR_ok nsm66a_ok [] args T hc
  · exact callR_ok nsm66c_ok [] args T hc
  · exact absurd hc nofail
noncomputable def nsm40c (args : List AVal) (T : Tab) (a : List Int) (b : List Int) (c : List Int) (d : List Int) (z : List Int) (g1 : Nat) (g2 : Nat) (g3 : Nat) (g4 : Nat) (g5 : Nat) (n1 : Nat) (n2 : Nat) (n3 : Nat) (n4 : Nat) (n5 : Nat) (c1 : Option Nat) (c2 : Option Nat) (c3 : Option Nat) (c4 : Option Nat) (c5 : Option Nat) (o1 : Bool) (o2 : Bool) (o3 : Bool) (o4 : Bool) (o5 : Bool) (s : Int) : Res := ⟨[.tab T [some ⟨.ints .u8 a, g1, o1, 5⟩, some ⟨.ints .u8 b, g2, o2, 5⟩, some ⟨.ints .u8 c, g3, o3, 5⟩, some ⟨.ints .u8 d, g4, o4, 5⟩, some ⟨.ints .u8 z, g5, o5, 5⟩], .val (.tuple args) (.tuple [.agg [.slice 1 0 g1 0 n1 c1, .slice 1 1 g2 0 n2 c2, .slice 1 2 g3 0 n3 c3, .int .i64 s, .slice 1 3 g4 0 n4 c4, .slice 1 4 g5 0 n5 c5]])], .bool (decide (RightN n1 n2 n3 s n4 n5)), [some ⟨.ints .u8 a, g1, o1, 5⟩, some ⟨.ints .u8 b, g2, o2, 5⟩, some ⟨.ints .u8 c, g3, o3, 5⟩, some ⟨.ints .u8 d, g4, o4, 5⟩, some ⟨.ints .u8 z, g5, o5, 5⟩]⟩
theorem nsm40c_ok {args : List AVal} {T : Tab} {a : List Int} {b : List Int} {c : List Int} {d : List Int} {z : List Int} {g1 : Nat} {g2 : Nat} {g3 : Nat} {g4 : Nat} {g5 : Nat} {n1 : Nat} {n2 : Nat} {n3 : Nat} {n4 : Nat} {n5 : Nat} {c1 : Option Nat} {c2 : Option Nat} {c3 : Option Nat} {c4 : Option Nat} {c5 : Option Nat} {o1 : Bool} {o2 : Bool} {o3 : Bool} {o4 : Bool} {o5 : Bool} {s : Int} (h : allP (nsm40c args T a b c d z g1 g2 g3 g4 g5 n1 n2 n3 n4 n5 c1 c2 c3 c4 c5 o1 o2 o3 o4 o5 s).cs) : Small prog (fun _ => none) 40 args T (nsm40c args T a b c d z g1 g2 g3 g4 g5 n1 n2 n3 n4 n5 c1 c2 c3 c4 c5 o1 o2 o3 o4 o5 s).val (nsm40c args T a b c d z g1 g2 g3 g4 g5 n1 n2 n3 n4 n5 c1 c2 c3 c4 c5 o1 o2 o3 o4 o5 s).tab := by
  obtain ⟨hT, hv, _⟩ := h
  simp only [Con.h] at hT hv
  injection hv with hv
  subst hT hv
  show Small prog (fun _ => none) 40 [.agg [.slice 1 0 g1 0 n1 c1, .slice 1 1 g2 0 n2 c2, .slice 1 2 g3 0 n3 c3, .int .i64 s, .slice 1 3 g4 0 n4 c4, .slice 1 4 g5 0 n5 c5]] [some ⟨.ints .u8 a, g1, o1, 5⟩, some ⟨.ints .u8 b, g2, o2, 5⟩, some ⟨.ints .u8 c, g3, o3, 5⟩, some ⟨.ints .u8 d, g4, o4, 5⟩, some ⟨.ints .u8 z, g5, o5, 5⟩] (.bool (decide (RightN n1 n2 n3 s n4 n5))) [some ⟨.ints .u8 a, g1, o1, 5⟩, some ⟨.ints .u8 b, g2, o2, 5⟩, some ⟨.ints .u8 c, g3, o3, 5⟩, some ⟨.ints .u8 d, g4, o4, 5⟩, some ⟨.ints .u8 z, g5, o5, 5⟩]
  by_cases qa : (n1 : Int) = 32
  rotate_left
  · rw [show decide (RightN n1 n2 n3 s n4 n5) = false from decide_eq_false (by unfold RightN; omega)]
    exact small_ofG (R := nR40a a b c d z g1 g2 g3 g4 g5 n1 n2 n3 n4 n5 c1 c2 c3 c4 c5 o1 o2 o3 o4 o5 s) eN0_ok hmN (f := 40) (fn := f40) (by kernel_rfl) (by kernel_rfl) FnOrc.nil rfl (nR40a_ok (by
      simp only [allP, Con.h, eq_self, true_and, and_true, beq_iff_eq, beq_eq_false_iff_ne, ne_eq, decide_eq_true_eq, decide_eq_false_iff_not, bne_iff_ne, bne_eq_false_iff_eq]
      omega)) nR40a_val nR40a_tab
  by_cases qb : (n2 : Int) = 32
  rotate_left
  · rw [show decide (RightN n1 n2 n3 s n4 n5) = false from decide_eq_false (by unfold RightN; omega)]
    exact small_ofG (R := nR40b a b c d z g1 g2 g3 g4 g5 n1 n2 n3 n4 n5 c1 c2 c3 c4 c5 o1 o2 o3 o4 o5 s) eN0_ok hmN (f := 40) (fn := f40) (by kernel_rfl) (by kernel_rfl) FnOrc.nil rfl (nR40b_ok (by
      simp only [allP, Con.h, eq_self, true_and, and_true, beq_iff_eq, beq_eq_false_iff_ne, ne_eq, decide_eq_true_eq, decide_eq_false_iff_not, bne_iff_ne, bne_eq_false_iff_eq]
      omega)) nR40b_val nR40b_tab
  by_cases qc : (1 : Int) ≤ n3
  rotate_left
  · rw [show decide (RightN n1 n2 n3 s n4 n5) = false from decide_eq_false (by unfold RightN; omega)]
    exact small_ofG (R := nR40c a b c d z g1 g2 g3 g4 g5 n1 n2 n3 n4 n5 c1 c2 c3 c4 c5 o1 o2 o3 o4 o5 s) eN0_ok hmN (f := 40) (fn := f40) (by kernel_rfl) (by kernel_rfl) FnOrc.nil rfl (nR40c_ok (by
      simp only [allP, Con.h, eq_self, true_and, and_true, beq_iff_eq, beq_eq_false_iff_ne, ne_eq, decide_eq_true_eq, decide_eq_false_iff_not, bne_iff_ne, bne_eq_false_iff_eq]
      omega)) nR40c_val nR40c_tab
  by_cases qd : (n3 : Int) ≤ 64
  rotate_left
  · rw [show decide (RightN n1 n2 n3 s n4 n5) = false from decide_eq_false (by unfold RightN; omega)]
    exact small_ofG (R := nR40d a b c d z g1 g2 g3 g4 g5 n1 n2 n3 n4 n5 c1 c2 c3 c4 c5 o1 o2 o3 o4 o5 s) eN0_ok hmN (f := 40) (fn := f40) (by kernel_rfl) (by kernel_rfl) FnOrc.nil rfl (nR40d_ok (by
      simp only [allP, Con.h, eq_self, true_and, and_true, beq_iff_eq, beq_eq_false_iff_ne, ne_eq, decide_eq_true_eq, decide_eq_false_iff_not, bne_iff_ne, bne_eq_false_iff_eq]
      omega)) nR40d_val nR40d_tab
  by_cases qe : 1 ≤ s
  rotate_left
  · rw [show decide (RightN n1 n2 n3 s n4 n5) = false from decide_eq_false (by unfold RightN; omega)]
    exact small_ofG (R := nR40e a b c d z g1 g2 g3 g4 g5 n1 n2 n3 n4 n5 c1 c2 c3 c4 c5 o1 o2 o3 o4 o5 s) eN0_ok hmN (f := 40) (fn := f40) (by kernel_rfl) (by kernel_rfl) FnOrc.nil rfl (nR40e_ok (by
      simp only [allP, Con.h, eq_self, true_and, and_true, beq_iff_eq, beq_eq_false_iff_ne, ne_eq, decide_eq_true_eq, decide_eq_false_iff_not, bne_iff_ne, bne_eq_false_iff_eq]
      omega)) nR40e_val nR40e_tab
  by_cases qf : s ≤ 3
  rotate_left
  · rw [show decide (RightN n1 n2 n3 s n4 n5) = false from decide_eq_false (by unfold RightN; omega)]
    exact small_ofG (R := nR40f a b c d z g1 g2 g3 g4 g5 n1 n2 n3 n4 n5 c1 c2 c3 c4 c5 o1 o2 o3 o4 o5 s) eN0_ok hmN (f := 40) (fn := f40) (by kernel_rfl) (by kernel_rfl) FnOrc.nil rfl (nR40f_ok (by
      simp only [allP, Con.h, eq_self, true_and, and_true, beq_iff_eq, beq_eq_false_iff_ne, ne_eq, decide_eq_true_eq, decide_eq_false_iff_not, bne_iff_ne, bne_eq_false_iff_eq]
      omega)) nR40f_val nR40f_tab
  by_cases qg : (n5 : Int) = 64
  rotate_left
  · rw [show decide (RightN n1 n2 n3 s n4 n5) = false from decide_eq_false (by unfold RightN; omega)]
    exact small_ofG (R := nR40g a b c d z g1 g2 g3 g4 g5 n1 n2 n3 n4 n5 c1 c2 c3 c4 c5 o1 o2 o3 o4 o5 s) eN0_ok hmN (f := 40) (fn := f40) (by kernel_rfl) (by kernel_rfl) FnOrc.nil rfl (nR40g_ok (by
      simp only [allP, Con.h, eq_self, true_and, and_true, beq_iff_eq, beq_eq_false_iff_ne, ne_eq, decide_eq_true_eq, decide_eq_false_iff_not, bne_iff_ne, bne_eq_false_iff_eq]
      omega)) nR40g_val nR40g_tab
  by_cases qh : (n4 : Int) = 0
  · rw [show decide (RightN n1 n2 n3 s n4 n5) = true from decide_eq_true (by unfold RightN; omega)]
    exact small_ofG (R := nR40h a b c d z g1 g2 g3 g4 g5 n1 n2 n3 n4 n5 c1 c2 c3 c4 c5 o1 o2 o3 o4 o5 s) eN0_ok hmN (f := 40) (fn := f40) (by kernel_rfl) (by kernel_rfl) FnOrc.nil rfl (nR40h_ok (by
      simp only [allP, Con.h, eq_self, true_and, and_true, beq_iff_eq, beq_eq_false_iff_ne, ne_eq, decide_eq_true_eq, decide_eq_false_iff_not, bne_iff_ne, bne_eq_false_iff_eq]
      omega)) nR40h_val nR40h_tab
  by_cases qi : (n4 : Int) = 32
  rotate_left
  · rw [show decide (RightN n1 n2 n3 s n4 n5) = false from decide_eq_false (by unfold RightN; omega)]
    exact small_ofG (R := nR40i a b c d z g1 g2 g3 g4 g5 n1 n2 n3 n4 n5 c1 c2 c3 c4 c5 o1 o2 o3 o4 o5 s) eN0_ok hmN (f := 40) (fn := f40) (by kernel_rfl) (by kernel_rfl) FnOrc.nil rfl (nR40i_ok (by
      simp only [allP, Con.h, eq_self, true_and, and_true, beq_iff_eq, beq_eq_false_iff_ne, ne_eq, decide_eq_true_eq, decide_eq_false_iff_not, bne_iff_ne, bne_eq_false_iff_eq]
      omega)) nR40i_val nR40i_tab
  refine small_ofG (R := nR40j a b c d z g1 g2 g3 g4 g5 n1 n2 n3 n4 n5 c1 c2 c3 c4 c5 o1 o2 o3 o4 o5 s) eN0_ok hmN (f := 40) (fn := f40) (by kernel_rfl) (by kernel_rfl) FnOrc.nil rfl (nR40j_ok (by
      simp only [allP, Con.h, eq_self, true_and, and_true, beq_iff_eq, beq_eq_false_iff_ne, ne_eq, decide_eq_true_eq, decide_eq_false_iff_not, bne_iff_ne, bne_eq_false_iff_eq]
      omega)) ?_ nR40j_tab
  rw [nR40j_val]
  by_cases qj : s = 3
  · rw [show decide (RightN n1 n2 n3 s n4 n5) = true from decide_eq_true (by unfold RightN; omega)]
    subst qj
    rfl
  · rw [show decide (RightN n1 n2 n3 s n4 n5) = false from decide_eq_false (by unfold RightN; omega)]
    rw [beq_eq_false_iff_ne.2 qj]
noncomputable def nsm40 : Summary := fun args T => nsm40c args T (xsAt T 0) (xsAt T 1) (xsAt T 2) (xsAt T 3) (xsAt T 4) (gAt T 0) (gAt T 1) (gAt T 2) (gAt T 3) (gAt T 4) (lenOf ((vAt args 0).get 0)) (lenOf ((vAt args 0).get 1)) (lenOf ((vAt args 0).get 2)) (lenOf ((vAt args 0).get 4)) (lenOf ((vAt args 0).get 5)) (capOf ((vAt args 0).get 0)) (capOf ((vAt args 0).get 1)) (capOf ((vAt args 0).get 2)) (capOf ((vAt args 0).get 4)) (capOf ((vAt args 0).get 5)) (owAt T 0) (owAt T 1) (owAt T 2) (owAt T 3) (owAt T 4) (iOf ((vAt args 0).get 3))
theorem nsm40_ok : SmOk prog (fun _ => none) 40 nsm40 := fun args T h => nsm40c_ok h
noncomputable def nS40 : Summary := callR nsm40 []
theorem nS40_ok : SumOk prog (fun _ => none) 40 nS40 := callR_ok nsm40_ok _
noncomputable def eM8 : Env := eN0 [(66, nS66)]
theorem eM8_ok : EnvOk eM8 := envOf_ok tysN_ok (SumsOk.cons (fn := f66) nS66_ok (by kernel_rfl) (by kernel_rfl) (by kernel_rfl) trivial)
def bareG2Law (s : Int) : Nat := if s = 3 then 4 else 3
theorem num1 {s : Int} (h : 0 ≤ s) (h2 : s < 256) : numLaw s 1 = [s % 256] := by
  rw [(num_in (n := s) (size := 1) (by decide) ⟨h, h2⟩).1]
  have e : beLaw s (Int.toNat 1) = [s / 1 % 256] := by kernel_rfl
  rw [e, Int.ediv_one]
noncomputable def nR65y (a : List Int) (b : List Int) (c : List Int) (d : List Int) (z : List Int) (g1 : Nat) (g2 : Nat) (g3 : Nat) (g4 : Nat) (g5 : Nat) (n1 : Nat) (n2 : Nat) (n3 : Nat) (n4 : Nat) (n5 : Nat) (c1 : Option Nat) (c2 : Option Nat) (c3 : Option Nat) (c4 : Option Nat) (c5 : Option Nat) (o1 : Bool) (o2 : Bool) (o3 : Bool) (o4 : Bool) (o5 : Bool) (s : Int) : Res := resG 5 [0, 1, 2, 3, 4, 8] (runF eM8 f65 [] 400 [.agg [.slice 1 0 g1 0 n1 c1, .slice 1 1 g2 0 n2 c2, .slice 1 2 g3 0 n3 c3, .int .i64 s, .slice 1 3 g4 0 n4 c4, .slice 1 4 g5 0 n5 c5]] [some ⟨.ints .u8 a, g1, o1, 5⟩, some ⟨.ints .u8 b, g2, o2, 5⟩, some ⟨.ints .u8 c, g3, o3, 5⟩, some ⟨.ints .u8 d, g4, o4, 5⟩, some ⟨.ints .u8 z, g5, o5, 5⟩] [some true])
theorem nR65y_ok {a : List Int} {b : List Int} {c : List Int} {d : List Int} {z : List Int} {g1 : Nat} {g2 : Nat} {g3 : Nat} {g4 : Nat} {g5 : Nat} {n1 : Nat} {n2 : Nat} {n3 : Nat} {n4 : Nat} {n5 : Nat} {c1 : Option Nat} {c2 : Option Nat} {c3 : Option Nat} {c4 : Option Nat} {c5 : Option Nat} {o1 : Bool} {o2 : Bool} {o3 : Bool} {o4 : Bool} {o5 : Bool} {s : Int} (h : allP [.eqN g1 g1, .eqN g2 g2, .eqN
 g3 g3, .leN n1 a.length, .leN n2 b.length, .leN n3 c.length, .leN n1 65536, .leN n2 65536, .leN n3 65536, .leN (0 + (jn3Law (List.take n1 a) (List.take n2 b) (List.take n3 c)).length) (jn3Law (List.take n1 a) (List.take n2 b) (List.take n3 c)).length, .leN (addO (jn3Law (List.take n1 a) (List.take n2 b) (List.take n3 c)).length 1) 140737488355328, .p ((s == 3) = true), .eqN g4 g4, .leN n4 d.length,
 .leN n4 65536, .leN (0 + addO (jn3Law (List.take n1 a) (List.take n2 b) (List.take n3 c)).length 1) (List.take (jn3Law (List.take n1 a) (List.take n2 b) (List.take n3 c)).length (jn3Law (List.take n1 a) (List.take n2 b) (List.take n3 c)) ++ [s % 256]).length, .leN (addO (addO (jn3Law (List.take n1 a) (List.take n2 b) (List.take n3 c)).length 1) (v1Law n4 d).length) 140737488355328, .leN (0 + (v1Law
 n4 d).length) (v1Law n4 d).length]) : OkR (nR65y a b c d z g1 g2 g3 g4 g5 n1 n2 n3 n4 n5 c1 c2 c3 c4 c5 o1 o2 o3 o4 o5 s) := OkR.dem (fl := bitsF 78 193763983451152158425086) (by kernel_rfl) (by kernel_rfl) (by kernel_rfl) h
theorem nR65y_val {a : List Int} {b : List Int} {c : List Int} {d : List Int} {z : List Int} {g1 : Nat} {g2 : Nat} {g3 : Nat} {g4 : Nat} {g5 : Nat} {n1 : Nat} {n2 : Nat} {n3 : Nat} {n4 : Nat} {n5 : Nat} {c1 : Option Nat} {c2 : Option Nat} {c3 : Option Nat} {c4 : Option Nat} {c5 : Option Nat} {o1 : Bool} {o2 : Bool} {o3 : Bool} {o4 : Bool} {o5 : Bool} {s : Int} : (nR65y a b c d z g1 g2 g3 g4 g5 n1
 n2 n3 n4 n5 c1 c2 c3 c4 c5 o1 o2 o3 o4 o5 s).val = .slice 1 5 4 0 (addO (addO (jn3Law (List.take n1 a) (List.take n2 b) (List.take n3 c)).length 1) (v1Law n4 d).length) none := by kernel_rfl
theorem nR65y_tab {a : List Int} {b : List Int} {c : List Int} {d : List Int} {z : List Int} {g1 : Nat} {g2 : Nat} {g3 : Nat} {g4 : Nat} {g5 : Nat} {n1 : Nat} {n2 : Nat} {n3 : Nat} {n4 : Nat} {n5 : Nat} {c1 : Option Nat} {c2 : Option Nat} {c3 : Option Nat} {c4 : Option Nat} {c5 : Option Nat} {o1 : Bool} {o2 : Bool} {o3 : Bool} {o4 : Bool} {o5 : Bool} {s : Int} : (nR65y a b c d z g1 g2 g3 g4 g5 n1
 n2 n3 n4 n5 c1 c2 c3 c4 c5 o1 o2 o3 o4 o5 s).tab = [some ⟨.ints .u8 a, g1, o1, 5⟩, some ⟨.ints .u8 b, g2, o2, 5⟩, some ⟨.ints .u8 c, g3, o3, 5⟩, some ⟨.ints .u8 d, g4, o4, 5⟩, some ⟨.ints .u8 z, g5, o5, 5⟩, some ⟨.ints .u8 (List.take (addO (jn3Law (List.take n1 a) (List.take n2 b) (List.take n3 c)).length 1) (List.take (jn3Law (List.take n1 a) (List.take n2 b) (List.take n3 c)).length (jn3Law
 (List.take n1 a) (List.take n2 b) (List.take n3 c)) ++ [s % 256]) ++ List.take (v1Law n4 d).length (v1Law n4 d)), 4, true, 5⟩] := by kernel_rfl
noncomputable def nR65n (a : List Int) (b : List Int) (c : List Int) (d : List Int) (z : List Int) (g1 : Nat) (g2 : Nat) (g3 : Nat) (g4 : Nat) (g5 : Nat) (n1 : Nat) (n2 : Nat) (n3 : Nat) (n4 : Nat) (n5 : Nat) (c1 : Option Nat) (c2 : Option Nat) (c3 : Option Nat) (c4 : Option Nat) (c5 : Option Nat) (o1 : Bool) (o2 : Bool) (o3 : Bool) (o4 : Bool) (o5 : Bool) (s : Int) : Res := resG 5 [0, 1, 2, 3, 4, 8] (runF eM8 f65 [] 400 [.agg [.slice 1 0 g1 0 n1 c1, .slice 1 1 g2 0 n2 c2, .slice 1 2 g3 0 n3 c3, .int .i64 s, .slice 1 3 g4 0 n4 c4, .slice 1 4 g5 0 n5 c5]] [some ⟨.ints .u8 a, g1, o1, 5⟩, some ⟨.ints .u8 b, g2, o2, 5⟩, some ⟨.ints .u8 c, g3, o3, 5⟩, some ⟨.ints .u8 d, g4, o4, 5⟩, some ⟨.ints .u8 z, g5, o5, 5⟩] [some false])
theorem nR65n_ok {a : List Int} {b : List Int} {c : List Int} {d : List Int} {z : List Int} {g1 : Nat} {g2 : Nat} {g3 : Nat} {g4 : Nat} {g5 : Nat} {n1 : Nat} {n2 : Nat} {n3 : Nat} {n4 : Nat} {n5 : Nat} {c1 : Option Nat} {c2 : Option Nat} {c3 : Option Nat} {c4 : Option Nat} {c5 : Option Nat} {o1 : Bool} {o2 : Bool} {o3 : Bool} {o4 : Bool} {o5 : Bool} {s : Int} (h : allP [.eqN g1 g1, .eqN g2 g2, .eqN
 g3 g3, .leN n1 a.length, .leN n2 b.length, .leN n3 c.length, .leN n1 65536, .leN n2 65536, .leN n3 65536, .leN (0 + (jn3Law (List.take n1 a) (List.take n2 b) (List.take n3 c)).length) (jn3Law (List.take n1 a) (List.take n2 b) (List.take n3 c)).length, .leN (addO (jn3Law (List.take n1 a) (List.take n2 b) (List.take n3 c)).length 1) 140737488355328, .p ((s == 3) = false)]) : OkR (nR65n a b c d z g1
 g2 g3 g4 g5 n1 n2 n3 n4 n5 c1 c2 c3 c4 c5 o1 o2 o3 o4 o5 s) := OkR.dem (fl := bitsF 60 536622411635097598) (by kernel_rfl) (by kernel_rfl) (by kernel_rfl) h
theorem nR65n_val {a : List Int} {b : List Int} {c : List Int} {d : List Int} {z : List Int} {g1 : Nat} {g2 : Nat} {g3 : Nat} {g4 : Nat} {g5 : Nat} {n1 : Nat} {n2 : Nat} {n3 : Nat} {n4 : Nat} {n5 : Nat} {c1 : Option Nat} {c2 : Option Nat} {c3 : Option Nat} {c4 : Option Nat} {c5 : Option Nat} {o1 : Bool} {o2 : Bool} {o3 : Bool} {o4 : Bool} {o5 : Bool} {s : Int} : (nR65n a b c d z g1 g2 g3 g4 g5 n1
 n2 n3 n4 n5 c1 c2 c3 c4 c5 o1 o2 o3 o4 o5 s).val = .slice 1 5 3 0 (addO (jn3Law (List.take n1 a) (List.take n2 b) (List.take n3 c)).length 1) none := by kernel_rfl
theorem nR65n_tab {a : List Int} {b : List Int} {c : List Int} {d : List Int} {z : List Int} {g1 : Nat} {g2 : Nat} {g3 : Nat} {g4 : Nat} {g5 : Nat} {n1 : Nat} {n2 : Nat} {n3 : Nat} {n4 : Nat} {n5 : Nat} {c1 : Option Nat} {c2 : Option Nat} {c3 : Option Nat} {c4 : Option Nat} {c5 : Option Nat} {o1 : Bool} {o2 : Bool} {o3 : Bool} {o4 : Bool} {o5 : Bool} {s : Int} : (nR65n a b c d z g1 g2 g3 g4 g5 n1
 n2 n3 n4 n5 c1 c2 c3 c4 c5 o1 o2 o3 o4 o5 s).tab = [some ⟨.ints .u8 a, g1, o1, 5⟩, some ⟨.ints .u8 b, g2, o2, 5⟩, some ⟨.ints .u8 c, g3, o3, 5⟩, some ⟨.ints .u8 d, g4, o4, 5⟩, some ⟨.ints .u8 z, g5, o5, 5⟩, some ⟨.ints .u8 (List.take (jn3Law (List.take n1 a) (List.take n2 b) (List.take n3 c)).length (jn3Law (List.take n1 a) (List.take n2 b) (List.take n3 c)) ++ [s % 256]), 3, true, 5⟩] := by
 kernel_rfl
noncomputable def nsm65c (args : List AVal) (T : Tab) (a : List Int) (b : List Int) (c : List Int) (d : List Int) (z : List Int) (g1 : Nat) (g2 : Nat) (g3 : Nat) (g4 : Nat) (g5 : Nat) (n1 : Nat) (n2 : Nat) (n3 : Nat) (n4 : Nat) (n5 : Nat) (c1 : Option Nat) (c2 : Option Nat) (c3 : Option Nat) (c4 : Option Nat) (c5 : Option Nat) (o1 : Bool) (o2 : Bool) (o3 : Bool) (o4 : Bool) (o5 : Bool) (s : Int) : Res := ⟨[.tab T [some ⟨.ints .u8 a, g1, o1, 5⟩, some ⟨.ints .u8 b, g2, o2, 5⟩, some ⟨.ints .u8 c, g3, o3, 5⟩, some ⟨.ints .u8 d, g4, o4, 5⟩, some ⟨.ints .u8 z, g5, o5, 5⟩], .val (.tuple args) (.tuple [.agg [.slice 1 0 g1 0 n1 c1, .slice 1 1 g2 0 n2 c2, .slice 1 2 g3 0 n3 c3, .int .i64 s, .slice 1 3 g4 0 n4 c4, .slice 1 4 g5 0 n5 c5]]), .leN n1 a.length, .leN n2 b.length, .leN n3 c.length, .leN n4 d.length, .leN n5 z.length, .p (RightN n1 n2 n3 s n4 n5)], .slice 1 5 (bareG2Law s) 0 (bareLaw (List.take n1 a) (List.take n2 b) (List.take n3 c) s (List.take n4 d)).length none, [some ⟨.ints .u8 a, g1, o1, 5⟩, some ⟨.ints .u8 b, g2, o2, 5⟩, some ⟨.ints .u8 c, g3, o3, 5⟩, some ⟨.ints .u8 d, g4, o4, 5⟩, some ⟨.ints .u8 z, g5, o5, 5⟩, some ⟨.ints .u8 (bareLaw (List.take n1 a) (List.take n2 b) (List.take n3 c) s (List.take n4 d)), bareG2Law s, true, 5⟩]⟩
theorem nsm65c_ok {args : List AVal} {T : Tab} {a : List Int} {b : List Int} {c : List Int} {d : List Int} {z : List Int} {g1 : Nat} {g2 : Nat} {g3 : Nat} {g4 : Nat} {g5 : Nat} {n1 : Nat} {n2 : Nat} {n3 : Nat} {n4 : Nat} {n5 : Nat} {c1 : Option Nat} {c2 : Option Nat} {c3 : Option Nat} {c4 : Option Nat} {c5 : Option Nat} {o1 : Bool} {o2 : Bool} {o3 : Bool} {o4 : Bool} {o5 : Bool} {s : Int} (h : allP (nsm65c args T a b c d z g1 g2 g3 g4 g5 n1 n2 n3 n4 n5 c1 c2 c3 c4 c5 o1 o2 o3 o4 o5 s).cs) : Small prog (fun _ => none) 65 args T (nsm65c args T a b c d z g1 g2 g3 g4 g5 n1 n2 n3 n4 n5 c1 c2 c3 c4 c5 o1 o2 o3 o4 o5 s).val (nsm65c args T a b c d z g1 g2 g3 g4 g5 n1 n2 n3 n4 n5 c1 c2 c3 c4 c5 o1 o2 o3 o4 o5 s).tab := by
  obtain ⟨hT, hv, h1, h2, h3, h4, h5, h6, _⟩ := h
  simp only [Con.h] at hT hv h1 h2 h3 h4 h5 h6
  injection hv with hv
  subst hT hv
  show Small prog (fun _ => none) 65 [.agg [.slice 1 0 g1 0 n1 c1, .slice 1 1 g2 0 n2 c2, .slice 1 2 g3 0 n3 c3, .int .i64 s, .slice 1 3 g4 0 n4 c4, .slice 1 4 g5 0 n5 c5]] [some ⟨.ints .u8 a, g1, o1, 5⟩, some ⟨.ints .u8 b, g2, o2, 5⟩, some ⟨.ints .u8 c, g3, o3, 5⟩, some ⟨.ints .u8 d, g4, o4, 5⟩, some ⟨.ints .u8 z, g5, o5, 5⟩] (.slice 1 5 (bareG2Law s) 0 (bareLaw (List.take n1 a) (List.take n2 b) (List.take n3 c) s (List.take n4 d)).length none) [some ⟨.ints .u8 a, g1, o1, 5⟩, some ⟨.ints .u8 b, g2, o2, 5⟩, some ⟨.ints .u8 c, g3, o3, 5⟩, some ⟨.ints .u8 d, g4, o4, 5⟩, some ⟨.ints .u8 z, g5, o5, 5⟩, some ⟨.ints .u8 (bareLaw (List.take n1 a) (List.take n2 b) (List.take n3 c) s (List.take n4 d)), bareG2Law s, true, 5⟩]
  have h6 : RightN n1 n2 n3 s n4 n5 := h6
  have hR := h6
  obtain ⟨q1, q2, q3, q4, q5, q6, q7, q8⟩ := h6
  have l1 : (List.take n1 a).length = n1 := by rw [List.length_take]; omega
  have l2 : (List.take n2 b).length = n2 := by rw [List.length_take]; omega
  have l3 : (List.take n3 c).length = n3 := by rw [List.length_take]; omega
  have l4 : (List.take n4 d).length = n4 := by rw [List.length_take]; omega
  have l5 : (List.take n5 z).length = n5 := by rw [List.length_take]; omega
  have hb := bare_len (List.take n1 a) (List.take n2 b) (List.take n3 c) s (List.take n4 d)
  rw [l1, l2, l3, l4] at hb
  have hn := num1 (s := s) (by omega) (by omega)
  have hj := jn3_len (List.take n1 a) (List.take n2 b) (List.take n3 c)
  rw [l1, l2, l3] at hj
  have hA := lenLaw_len (n1 : Int)
  have hB := lenLaw_len (n2 : Int)
  have hC := lenLaw_len (n3 : Int)
  have hD := lenLaw_len (n4 : Int)
  have hv := v1_len h4
  by_cases hs : s = 3
  · have e := bare3 (List.take n1 a) (List.take n2 b) (List.take n3 c) (List.take n4 d) hs
    rw [e.1, hn, show bareG2Law s = 4 from if_pos hs]
    have hv1 : vec1Law (List.take n4 d) = v1Law n4 d := rfl
    rw [hv1]
    refine small_ofG (R := nR65y a b c d z g1 g2 g3 g4 g5 n1 n2 n3 n4 n5 c1 c2 c3 c4 c5 o1 o2 o3 o4 o5 s) eM8_ok hmN (f := 65) (fn := f65) (by kernel_rfl) (by kernel_rfl) FnOrc.nil rfl (nR65y_ok ?_) ?_ ?_
    · simp (disch := (first | (simp only [List.length_append, List.length_take, addO_eq, List.length_nil, List.length_cons]; omega) | simp)) only [allP, Con.h, eq_self, true_and, and_true, beq_iff_eq, beq_eq_false_iff_ne, ne_eq, decide_eq_true_eq, decide_eq_false_iff_not, addO_eq, Nat.zero_add, List.nil_append, List.length_append, List.take_length, List.length_take, Nat.min_self, List.length_cons, List.length_nil, List.take_of_length_le]
      omega
    · rw [nR65y_val]
      simp only [addO_eq, List.length_append, List.length_cons, List.length_nil, Nat.zero_add, Nat.add_assoc]
    · rw [nR65y_tab]
      simp (disch := (first | (simp only [List.length_append, List.length_take, addO_eq, List.length_nil, List.length_cons]; omega) | simp)) only [List.take_length, List.take_of_length_le, addO_eq, List.nil_append, List.append_assoc]
  · have e := bareN (List.take n1 a) (List.take n2 b) (List.take n3 c) (List.take n4 d) hs
    rw [e.1, hn, show bareG2Law s = 3 from if_neg hs]
    refine small_ofG (R := nR65n a b c d z g1 g2 g3 g4 g5 n1 n2 n3 n4 n5 c1 c2 c3 c4 c5 o1 o2 o3 o4 o5 s) eM8_ok hmN (f := 65) (fn := f65) (by kernel_rfl) (by kernel_rfl) FnOrc.nil rfl (nR65n_ok ?_) ?_ ?_
    · simp (disch := (first | (simp only [List.length_append, List.length_take, addO_eq, List.length_nil, List.length_cons]; omega) | simp)) only [allP, Con.h, eq_self, true_and, and_true, beq_iff_eq, beq_eq_false_iff_ne, ne_eq, decide_eq_true_eq, decide_eq_false_iff_not, addO_eq, Nat.zero_add, List.nil_append, List.length_append, List.take_length, List.length_take, Nat.min_self, List.length_cons, List.length_nil, List.take_of_length_le]
      omega
    · rw [nR65n_val]
      simp only [addO_eq, List.length_append, List.length_cons, List.length_nil, Nat.zero_add, Nat.add_assoc]
    · rw [nR65n_tab]
      simp (disch := (first | (simp only [List.length_append, List.length_take, addO_eq, List.length_nil, List.length_cons]; omega) | simp)) only [List.take_length, List.take_of_length_le, addO_eq, List.nil_append, List.append_assoc]
noncomputable def nsm65 : Summary := fun args T => nsm65c args T (xsAt T 0) (xsAt T 1) (xsAt T 2) (xsAt T 3) (xsAt T 4) (gAt T 0) (gAt T 1) (gAt T 2) (gAt T 3) (gAt T 4) (lenOf ((vAt args 0).get 0)) (lenOf ((vAt args 0).get 1)) (lenOf ((vAt args 0).get 2)) (lenOf ((vAt args 0).get 4)) (lenOf ((vAt args 0).get 5)) (capOf ((vAt args 0).get 0)) (capOf ((vAt args 0).get 1)) (capOf ((vAt args 0).get 2)) (capOf ((vAt args 0).get 4)) (capOf ((vAt args 0).get 5)) (owAt T 0) (owAt T 1) (owAt T 2) (owAt T 3) (owAt T 4) (iOf ((vAt args 0).get 3))
theorem nsm65_ok : SmOk prog (fun _ => none) 65 nsm65 := fun args T h => nsm65c_ok h
noncomputable def nS65 : Summary := callR nsm65 []
theorem nS65_ok : SumOk prog (fun _ => none) 65 nS65 := callR_ok nsm65_ok _
noncomputable def eM9 : Env := eN0 [(65, nS65), (66, nS66)]
theorem eM9_ok : EnvOk eM9 := envOf_ok tysN_ok (SumsOk.cons (fn := f65) nS65_ok (by kernel_rfl) (by kernel_rfl) (by kernel_rfl) (SumsOk.cons (fn := f66) nS66_ok (by kernel_rfl) (by kernel_rfl) (by kernel_rfl) trivial))
noncomputable def nR41 (a : List Int) (b : List Int) (c : List Int) (d : List Int) (z : List Int) (g1 : Nat) (g2 : Nat) (g3 : Nat) (g4 : Nat) (g5 : Nat) (n1 : Nat) (n2 : Nat) (n3 : Nat) (n4 : Nat) (n5 : Nat) (c1 : Option Nat) (c2 : Option Nat) (c3 : Option Nat) (c4 : Option Nat) (c5 : Option Nat) (o1 : Bool) (o2 : Bool) (o3 : Bool) (o4 : Bool) (o5 : Bool) (s : Int) : Res := resG 5 [0, 1, 2, 3, 4, 7] (runF eM9 f41 [] 400 [.agg [.slice 1 0 g1 0 n1 c1, .slice 1 1 g2 0 n2 c2, .slice 1 2 g3 0 n3 c3, .int .i64 s, .slice 1 3 g4 0 n4 c4, .slice 1 4 g5 0 n5 c5]] [some ⟨.ints .u8 a, g1, o1, 5⟩, some ⟨.ints .u8 b, g2, o2, 5⟩, some ⟨.ints .u8 c, g3, o3, 5⟩, some ⟨.ints .u8 d, g4, o4, 5⟩, some ⟨.ints .u8 z, g5, o5, 5⟩] [])
theorem nR41_ok {a : List Int} {b : List Int} {c : List Int} {d : List Int} {z : List Int} {g1 : Nat} {g2 : Nat} {g3 : Nat} {g4 : Nat} {g5 : Nat} {n1 : Nat} {n2 : Nat} {n3 : Nat} {n4 : Nat} {n5 : Nat} {c1 : Option Nat} {c2 : Option Nat} {c3 : Option Nat} {c4 : Option Nat} {c5 : Option Nat} {o1 : Bool} {o2 : Bool} {o3 : Bool} {o4 : Bool} {o5 : Bool} {s : Int} (h : allP [.eqN g1 g1, .eqN g2 g2, .eqN
 g3 g3, .eqN g4 g4, .eqN g5 g5, .leN n1 a.length, .leN n2 b.length, .leN n3 c.length, .leN n4 d.length, .leN n5 z.length, .p (n1 = 32 ∧ n2 = 32 ∧ n5 = 64 ∧ 1 ≤ n3 ∧ n3 ≤ 64 ∧ 1 ≤ s ∧ s ≤ 3 ∧ (n4 = 0 ∨ n4 = 32 ∧ s = 3)), .eqN g5 g5, .leN n5 z.length, .leN n5 65536, .eqN (bareG2Law s) (bareG2Law s), .leN (0 + (bareLaw (List.take n1 a) (List.take n2 b) (List.take n3 c) s (List.take n4 d)).length)
 (bareLaw (List.take n1 a) (List.take n2 b) (List.take n3 c) s (List.take n4 d)).length, .leN (addO (bareLaw (List.take n1 a) (List.take n2 b) (List.take n3 c) s (List.take n4 d)).length (v1Law n5 z).length) 140737488355328, .leN (0 + (v1Law n5 z).length) (v1Law n5 z).length]) : OkR (nR41 a b c d z g1 g2 g3 g4 g5 n1 n2 n3 n4 n5 c1 c2 c3 c4 c5 o1 o2 o3 o4 o5 s) := OkR.dem (fl := bitsF 48
 87982119190534) (by kernel_rfl) (by kernel_rfl) (by kernel_rfl) h
theorem nR41_val {a : List Int} {b : List Int} {c : List Int} {d : List Int} {z : List Int} {g1 : Nat} {g2 : Nat} {g3 : Nat} {g4 : Nat} {g5 : Nat} {n1 : Nat} {n2 : Nat} {n3 : Nat} {n4 : Nat} {n5 : Nat} {c1 : Option Nat} {c2 : Option Nat} {c3 : Option Nat} {c4 : Option Nat} {c5 : Option Nat} {o1 : Bool} {o2 : Bool} {o3 : Bool} {o4 : Bool} {o5 : Bool} {s : Int} : (nR41 a b c d z g1 g2 g3 g4 g5 n1 n2
 n3 n4 n5 c1 c2 c3 c4 c5 o1 o2 o3 o4 o5 s).val = .slice 1 5 (bareG2Law s + 1) 0 (addO (bareLaw (List.take n1 a) (List.take n2 b) (List.take n3 c) s (List.take n4 d)).length (v1Law n5 z).length) none := by kernel_rfl
theorem nR41_tab {a : List Int} {b : List Int} {c : List Int} {d : List Int} {z : List Int} {g1 : Nat} {g2 : Nat} {g3 : Nat} {g4 : Nat} {g5 : Nat} {n1 : Nat} {n2 : Nat} {n3 : Nat} {n4 : Nat} {n5 : Nat} {c1 : Option Nat} {c2 : Option Nat} {c3 : Option Nat} {c4 : Option Nat} {c5 : Option Nat} {o1 : Bool} {o2 : Bool} {o3 : Bool} {o4 : Bool} {o5 : Bool} {s : Int} : (nR41 a b c d z g1 g2 g3 g4 g5 n1 n2
 n3 n4 n5 c1 c2 c3 c4 c5 o1 o2 o3 o4 o5 s).tab = [some ⟨.ints .u8 a, g1, o1, 5⟩, some ⟨.ints .u8 b, g2, o2, 5⟩, some ⟨.ints .u8 c, g3, o3, 5⟩, some ⟨.ints .u8 d, g4, o4, 5⟩, some ⟨.ints .u8 z, g5, o5, 5⟩, some ⟨.ints .u8 (List.take (bareLaw (List.take n1 a) (List.take n2 b) (List.take n3 c) s (List.take n4 d)).length (bareLaw (List.take n1 a) (List.take n2 b) (List.take n3 c) s (List.take n4 d)) ++
 List.take (v1Law n5 z).length (v1Law n5 z)), bareG2Law s + 1, true, 5⟩] := by kernel_rfl
noncomputable def nsm41c (args : List AVal) (T : Tab) (a : List Int) (b : List Int) (c : List Int) (d : List Int) (z : List Int) (g1 : Nat) (g2 : Nat) (g3 : Nat) (g4 : Nat) (g5 : Nat) (n1 : Nat) (n2 : Nat) (n3 : Nat) (n4 : Nat) (n5 : Nat) (c1 : Option Nat) (c2 : Option Nat) (c3 : Option Nat) (c4 : Option Nat) (c5 : Option Nat) (o1 : Bool) (o2 : Bool) (o3 : Bool) (o4 : Bool) (o5 : Bool) (s : Int) : Res := ⟨[.tab T [some ⟨.ints .u8 a, g1, o1, 5⟩, some ⟨.ints .u8 b, g2, o2, 5⟩, some ⟨.ints .u8 c, g3, o3, 5⟩, some ⟨.ints .u8 d, g4, o4, 5⟩, some ⟨.ints .u8 z, g5, o5, 5⟩], .val (.tuple args) (.tuple [.agg [.slice 1 0 g1 0 n1 c1, .slice 1 1 g2 0 n2 c2, .slice 1 2 g3 0 n3 c3, .int .i64 s, .slice 1 3 g4 0 n4 c4, .slice 1 4 g5 0 n5 c5]]), .leN n1 a.length, .leN n2 b.length, .leN n3 c.length, .leN n4 d.length, .leN n5 z.length, .p (RightN n1 n2 n3 s n4 n5)], .slice 1 5 (bareG2Law s + 1) 0 ((bareLaw (List.take n1 a) (List.take n2 b) (List.take n3 c) s (List.take n4 d)) ++ v1Law n5 z).length none, [some ⟨.ints .u8 a, g1, o1, 5⟩, some ⟨.ints .u8 b, g2, o2, 5⟩, some ⟨.ints .u8 c, g3, o3, 5⟩, some ⟨.ints .u8 d, g4, o4, 5⟩, some ⟨.ints .u8 z, g5, o5, 5⟩, some ⟨.ints .u8 ((bareLaw (List.take n1 a) (List.take n2 b) (List.take n3 c) s (List.take n4 d)) ++ v1Law n5 z), bareG2Law s + 1, true, 5⟩]⟩
theorem nsm41c_ok {args : List AVal} {T : Tab} {a : List Int} {b : List Int} {c : List Int} {d : List Int} {z : List Int} {g1 : Nat} {g2 : Nat} {g3 : Nat} {g4 : Nat} {g5 : Nat} {n1 : Nat} {n2 : Nat} {n3 : Nat} {n4 : Nat} {n5 : Nat} {c1 : Option Nat} {c2 : Option Nat} {c3 : Option Nat} {c4 : Option Nat} {c5 : Option Nat} {o1 : Bool} {o2 : Bool} {o3 : Bool} {o4 : Bool} {o5 : Bool} {s : Int} (h : allP (nsm41c args T a b c d z g1 g2 g3 g4 g5 n1 n2 n3 n4 n5 c1 c2 c3 c4 c5 o1 o2 o3 o4 o5 s).cs) : Small prog (fun _ => none) 41 args T (nsm41c args T a b c d z g1 g2 g3 g4 g5 n1 n2 n3 n4 n5 c1 c2 c3 c4 c5 o1 o2 o3 o4 o5 s).val (nsm41c args T a b c d z g1 g2 g3 g4 g5 n1 n2 n3 n4 n5 c1 c2 c3 c4 c5 o1 o2 o3 o4 o5 s).tab := by
  obtain ⟨hT, hv, h1, h2, h3, h4, h5, h6, _⟩ := h
  simp only [Con.h] at hT hv h1 h2 h3 h4 h5 h6
  injection hv with hv
  subst hT hv
  show Small prog (fun _ => none) 41 [.agg [.slice 1 0 g1 0 n1 c1, .slice 1 1 g2 0 n2 c2, .slice 1 2 g3 0 n3 c3, .int .i64 s, .slice 1 3 g4 0 n4 c4, .slice 1 4 g5 0 n5 c5]] [some ⟨.ints .u8 a, g1, o1, 5⟩, some ⟨.ints .u8 b, g2, o2, 5⟩, some ⟨.ints .u8 c, g3, o3, 5⟩, some ⟨.ints .u8 d, g4, o4, 5⟩, some ⟨.ints .u8 z, g5, o5, 5⟩] (.slice 1 5 (bareG2Law s + 1) 0 ((bareLaw (List.take n1 a) (List.take n2 b) (List.take n3 c) s (List.take n4 d)) ++ v1Law n5 z).length none) [some ⟨.ints .u8 a, g1, o1, 5⟩, some ⟨.ints .u8 b, g2, o2, 5⟩, some ⟨.ints .u8 c, g3, o3, 5⟩, some ⟨.ints .u8 d, g4, o4, 5⟩, some ⟨.ints .u8 z, g5, o5, 5⟩, some ⟨.ints .u8 ((bareLaw (List.take n1 a) (List.take n2 b) (List.take n3 c) s (List.take n4 d)) ++ v1Law n5 z), bareG2Law s + 1, true, 5⟩]
  have h6 : RightN n1 n2 n3 s n4 n5 := h6
  have hR := h6
  obtain ⟨q1, q2, q3, q4, q5, q6, q7, q8⟩ := h6
  have l1 : (List.take n1 a).length = n1 := by rw [List.length_take]; omega
  have l2 : (List.take n2 b).length = n2 := by rw [List.length_take]; omega
  have l3 : (List.take n3 c).length = n3 := by rw [List.length_take]; omega
  have l4 : (List.take n4 d).length = n4 := by rw [List.length_take]; omega
  have l5 : (List.take n5 z).length = n5 := by rw [List.length_take]; omega
  have hb := bare_len (List.take n1 a) (List.take n2 b) (List.take n3 c) s (List.take n4 d)
  rw [l1, l2, l3, l4] at hb
  have hD := lenLaw_len (n5 : Int)
  have hv := v1_len h5
  refine small_ofG (R := nR41 a b c d z g1 g2 g3 g4 g5 n1 n2 n3 n4 n5 c1 c2 c3 c4 c5 o1 o2 o3 o4 o5 s) eM9_ok hmN (f := 41) (fn := f41) (by kernel_rfl) (by kernel_rfl) FnOrc.nil rfl (nR41_ok ?_) ?_ ?_
  · simp (disch := (first | (simp only [List.length_append, List.length_take, addO_eq, List.length_nil, List.length_cons]; omega) | simp)) only [allP, Con.h, eq_self, true_and, and_true, beq_iff_eq, beq_eq_false_iff_ne, ne_eq, decide_eq_true_eq, decide_eq_false_iff_not, addO_eq, Nat.zero_add, List.nil_append, List.length_append, List.take_length, List.length_take, Nat.min_self, List.length_cons, List.length_nil, List.take_of_length_le, hR]
    omega
  · rw [nR41_val]
    simp only [addO_eq, List.length_append]
  · rw [nR41_tab]
    simp (disch := (first | (simp only [List.length_append, List.length_take, addO_eq, List.length_nil, List.length_cons]; omega) | simp)) only [List.take_length, List.take_of_length_le, addO_eq, List.nil_append, List.append_assoc]
noncomputable def nsm41 : Summary := fun args T => nsm41c args T (xsAt T 0) (xsAt T 1) (xsAt T 2) (xsAt T 3) (xsAt T 4) (gAt T 0) (gAt T 1) (gAt T 2) (gAt T 3) (gAt T 4) (lenOf ((vAt args 0).get 0)) (lenOf ((vAt args 0).get 1)) (lenOf ((vAt args 0).get 2)) (lenOf ((vAt args 0).get 4)) (lenOf ((vAt args 0).get 5)) (capOf ((vAt args 0).get 0)) (capOf ((vAt args 0).get 1)) (capOf ((vAt args 0).get 2)) (capOf ((vAt args 0).get 4)) (capOf ((vAt args 0).get 5)) (owAt T 0) (owAt T 1) (owAt T 2) (owAt T 3) (owAt T 4) (iOf ((vAt args 0).get 3))
theorem nsm41_ok : SmOk prog (fun _ => none) 41 nsm41 := fun args T h => nsm41c_ok h
noncomputable def nS41 : Summary := callR nsm41 []
theorem nS41_ok : SumOk prog (fun _ => none) 41 nS41 := callR_ok nsm41_ok _
end Go.Abs

set_option linter.unusedVariables false
set_option linter.unusedSimpArgs false
set_option maxRecDepth 100000
set_option maxHeartbeats 4000000
namespace Go.Abs
open Go.Proofs Go.Proofs.Try
end Go.Abs

set_option linter.unusedVariables false
set_option linter.unusedSimpArgs false
set_option maxRecDepth 100000
set_option maxHeartbeats 4000000
namespace Go.Abs
open Go.Proofs Go.Proofs.Try
end Go.Abs

set_option linter.unusedVariables false
set_option linter.unusedSimpArgs false
set_option maxRecDepth 100000
set_option maxHeartbeats 4000000
namespace Go.Abs
open Go.Proofs Go.Proofs.Try
end Go.Abs

set_option linter.unusedVariables false
set_option linter.unusedSimpArgs false
set_option maxRecDepth 100000
set_option maxHeartbeats 4000000
namespace Go.Abs
open Go.Proofs Go.Proofs.Try
end Go.Abs

set_option linter.unusedVariables false
set_option linter.unusedSimpArgs false
set_option maxRecDepth 100000
set_option maxHeartbeats 4000000
namespace Go.Abs
open Go.Proofs Go.Proofs.Try
end Go.Abs

set_option linter.unusedVariables false
set_option linter.unusedSimpArgs false
set_option maxRecDepth 100000
set_option maxHeartbeats 4000000
namespace Go.Abs
open Go.Proofs Go.Proofs.Try
theorem by_mem {C : List Int} (h : ∀ c ∈ C, 0 ≤ c ∧ c < 256) : ByLaw C := fun i => by
  rw [List.getD_eq_getElem?_getD]
  rcases Nat.lt_or_ge i C.length with hi | hi
  · rw [List.getElem?_eq_getElem hi]; exact h _ (List.getElem_mem hi)
  · rw [List.getElem?_eq_none hi]; exact ⟨Int.le_refl 0, by decide⟩
end Go.Abs

set_option linter.unusedVariables false
set_option linter.unusedSimpArgs false
set_option maxRecDepth 100000
set_option maxHeartbeats 4000000
namespace Go.Abs
open Go.Proofs Go.Proofs.Try
/-! ### a leaf, read -/
def s1O (B : List Int) (off : Nat) (e : Int) : Nat := rvOLaw B off e
def s1E (B : List Int) (off : Nat) (e : Int) : Int := rvELaw B off e
def s2O (B : List Int) (off : Nat) (e : Int) : Nat := rvOLaw B (s1O B off e) (s1E B off e)
def s2E (B : List Int) (off : Nat) (e : Int) : Int := rvELaw B (s1O B off e) (s1E B off e)
def s3O (B : List Int) (off : Nat) (e : Int) : Nat := rvOLaw B (s2O B off e) (s2E B off e)
def s3E (B : List Int) (off : Nat) (e : Int) : Int := rvELaw B (s2O B off e) (s2E B off e)
def s4O (B : List Int) (off : Nat) (e : Int) : Nat := rnOLaw B (s3O B off e) (s3E B off e) 1
def s4E (B : List Int) (off : Nat) (e : Int) : Int := rnELaw B (s3O B off e) (s3E B off e) 1
def lfALaw (B : List Int) (off : Nat) (e : Int) : List Int := rvVLaw B off e
def lfBLaw (B : List Int) (off : Nat) (e : Int) : List Int := rvVLaw B (s1O B off e) (s1E B off e)
def lfCLaw (B : List Int) (off : Nat) (e : Int) : List Int := rvVLaw B (s2O B off e) (s2E B off e)
def lfSLaw (B : List Int) (off : Nat) (e : Int) : Int := rnVLaw B (s3O B off e) (s3E B off e) 1
def lfDLaw (B : List Int) (off : Nat) (e : Int) : List Int := if lfSLaw B off e = 3 then rvVLaw B (s4O B off e) (s4E B off e) else []
def s5O (B : List Int) (off : Nat) (e : Int) : Nat := if lfSLaw B off e = 3 then rvOLaw B (s4O B off e) (s4E B off e) else s4O B off e
def s5E (B : List Int) (off : Nat) (e : Int) : Int := if lfSLaw B off e = 3 then rvELaw B (s4O B off e) (s4E B off e) else s4E B off e
def lfZLaw (B : List Int) (off : Nat) (e : Int) : List Int := rvVLaw B (s5O B off e) (s5E B off e)
def lfOLaw (B : List Int) (off : Nat) (e : Int) : Nat := rvOLaw B (s5O B off e) (s5E B off e)
def lfELaw (B : List Int) (off : Nat) (e : Int) : Int := rvELaw B (s5O B off e) (s5E B off e)
theorem lf_off {B : List Int} {off : Nat} (h : off ≤ B.length) (e : Int) : lfOLaw B off e ≤ B.length := by
  have k1 : s1O B off e ≤ B.length := (rv_off h e).2
  have k2 : s2O B off e ≤ B.length := (rv_off k1 _).2
  have k3 : s3O B off e ≤ B.length := (rv_off k2 _).2
  have k4 : s4O B off e ≤ B.length := (rn_off k3 _ 1).2
  have k5 : s5O B off e ≤ B.length := by
    unfold s5O
    split
    · exact (rv_off k4 _).2
    · exact k4
  exact (rv_off k5 _).2
/-- nothing, within a value, told as a slice of an empty object -/
theorem small_nilA {P : Program} {gl : Nat → Option AVal} {f : FuncId} {args : List AVal} {T0 T1 : Tab} {vs : List AVal} (j : Nat) (gg : Nat) (h : Small P gl f args T0 (.agg vs) T1) (hj : vs[j]? = some .nilSlice) :
    Small P gl f args T0 (.agg (vs.set j (.slice 1 T1.length gg 0 0 none))) (T1 ++ [some ⟨.ints .u8 [], gg, true, 5⟩]) := by
  intro ν w xs hr hvs
  refine (h ν w xs hr hvs).mono ?_
  rintro e w' ⟨x, ν', rfl, h1, h2, h3, h4⟩
  obtain ⟨l0, g1, g2, g3, g4, g5⟩ := h2.pushEmptyG .u8 5 gg
  refine ⟨x, upd ν' T1.length l0, rfl, ?_, g3, h3.trans (g4.b _), h4.sub g5⟩
  have h1' := h1.mono g4
  cases h1' with
  | agg e1 e2 =>
    have hd : vs.getD j un = .nilSlice := by simp [List.getD, hj]
    have hv := VRs.set1 (v := .slice 1 T1.length gg 0 0 none) (j := j) (⟨by rw [Array.length_toList]; exact e1, fun i hi => by simpa using e2 i hi⟩ : VRs (upd ν' T1.length l0) vs _) (fun y hy => by
      rw [hd] at hy
      cases hy
      exact .sliceZ none (upd_same _ _ _) g1.symm (.inr ⟨rfl, by rw [g2]; exact Nat.le_refl _⟩))
    exact .agg (by simpa using hv.1) (fun i hi => by simpa using hv.2 i hi)
noncomputable def eL1 : Env := eN0 [(52, S29r), (54, S25r)]
theorem eL1_ok : EnvOk eL1 := envOf_ok tysN_ok (SumsOk.cons (fn := f52) S29r_ok (by kernel_rfl) (by kernel_rfl) (by kernel_rfl) (SumsOk.cons (fn := f54) S25r_ok (by kernel_rfl) (by kernel_rfl) (by kernel_rfl) trivial))
noncomputable def eL2 : Env := eN0 [(64, S30r), (63, S26r)]
theorem eL2_ok : EnvOk eL2 := envOf_ok tysN_ok (SumsOk.cons (fn := f64) S30r_ok (by kernel_rfl) (by kernel_rfl) (by kernel_rfl) (SumsOk.cons (fn := f63) S26r_ok (by kernel_rfl) (by kernel_rfl) (by kernel_rfl) trivial))
noncomputable def nR44y (B : List Int) (g : Nat) (gR : Nat) (off : Nat) (n : Nat) (e : Int) : Res := resG 2 [0, 1, 4, 5, 6, 8, 7] (runF eL1 f44 [] 400 [.var 0 gR] [some ⟨.agg [.slice 1 1 g off n none, .int .i64 e, .bool true], gR, true, 115⟩, some ⟨.ints .u8 B, g, false, 5⟩] [some true])
theorem nR44y_ok {B : List Int} {g : Nat} {gR : Nat} {off : Nat} {n : Nat} {e : Int} (h : allP [.eqN g g, .eqN n (B.length - off), .leN off B.length, .p (ByLaw B), .leN B.length 140737488355000, .eqN g g, .eqN (B.length - rvOLaw B off e) (B.length - rvOLaw B off e), .leN (rvOLaw B off e) B.length, .p (ByLaw B), .leN B.length 140737488355000, .eqN g g, .eqN (B.length - rvOLaw B (rvOLaw B off e)
 (rvELaw B off e)) (B.length - rvOLaw B (rvOLaw B off e) (rvELaw B off e)), .leN (rvOLaw B (rvOLaw B off e) (rvELaw B off e)) B.length, .p (ByLaw B), .leN B.length 140737488355000, .eqN g g, .eqN (B.length - rvOLaw B (rvOLaw B (rvOLaw B off e) (rvELaw B off e)) (rvELaw B (rvOLaw B off e) (rvELaw B off e))) (B.length - rvOLaw B (rvOLaw B (rvOLaw B off e) (rvELaw B off e)) (rvELaw B (rvOLaw B off e)
 (rvELaw B off e))), .leN (rvOLaw B (rvOLaw B (rvOLaw B off e) (rvELaw B off e)) (rvELaw B (rvOLaw B off e) (rvELaw B off e))) B.length, .p (ByLaw B), .p ((rnVLaw B (rvOLaw B (rvOLaw B (rvOLaw B off e) (rvELaw B off e)) (rvELaw B (rvOLaw B off e) (rvELaw B off e))) (rvELaw B (rvOLaw B (rvOLaw B off e) (rvELaw B off e)) (rvELaw B (rvOLaw B off e) (rvELaw B off e))) 1 == 3) = true), .eqN g g, .eqN
 (B.length - rnOLaw B (rvOLaw B (rvOLaw B (rvOLaw B off e) (rvELaw B off e)) (rvELaw B (rvOLaw B off e) (rvELaw B off e))) (rvELaw B (rvOLaw B (rvOLaw B off e) (rvELaw B off e)) (rvELaw B (rvOLaw B off e) (rvELaw B off e))) 1) (B.length - rnOLaw B (rvOLaw B (rvOLaw B (rvOLaw B off e) (rvELaw B off e)) (rvELaw B (rvOLaw B off e) (rvELaw B off e))) (rvELaw B (rvOLaw B (rvOLaw B off e) (rvELaw B off
 e)) (rvELaw B (rvOLaw B off e) (rvELaw B off e))) 1), .leN (rnOLaw B (rvOLaw B (rvOLaw B (rvOLaw B off e) (rvELaw B off e)) (rvELaw B (rvOLaw B off e) (rvELaw B off e))) (rvELaw B (rvOLaw B (rvOLaw B off e) (rvELaw B off e)) (rvELaw B (rvOLaw B off e) (rvELaw B off e))) 1) B.length, .p (ByLaw B), .leN B.length 140737488355000, .eqN g g, .eqN (B.length - rvOLaw B (rnOLaw B (rvOLaw B (rvOLaw B
 (rvOLaw B off e) (rvELaw B off e)) (rvELaw B (rvOLaw B off e) (rvELaw B off e))) (rvELaw B (rvOLaw B (rvOLaw B off e) (rvELaw B off e)) (rvELaw B (rvOLaw B off e) (rvELaw B off e))) 1) (rnELaw B (rvOLaw B (rvOLaw B (rvOLaw B off e) (rvELaw B off e)) (rvELaw B (rvOLaw B off e) (rvELaw B off e))) (rvELaw B (rvOLaw B (rvOLaw B off e) (rvELaw B off e)) (rvELaw B (rvOLaw B off e) (rvELaw B off e))) 1))
 (B.length - rvOLaw B (rnOLaw B (rvOLaw B (rvOLaw B (rvOLaw B off e) (rvELaw B off e)) (rvELaw B (rvOLaw B off e) (rvELaw B off e))) (rvELaw B (rvOLaw B (rvOLaw B off e) (rvELaw B off e)) (rvELaw B (rvOLaw B off e) (rvELaw B off e))) 1) (rnELaw B (rvOLaw B (rvOLaw B (rvOLaw B off e) (rvELaw B off e)) (rvELaw B (rvOLaw B off e) (rvELaw B off e))) (rvELaw B (rvOLaw B (rvOLaw B off e) (rvELaw B off e))
 (rvELaw B (rvOLaw B off e) (rvELaw B off e))) 1)), .leN (rvOLaw B (rnOLaw B (rvOLaw B (rvOLaw B (rvOLaw B off e) (rvELaw B off e)) (rvELaw B (rvOLaw B off e) (rvELaw B off e))) (rvELaw B (rvOLaw B (rvOLaw B off e) (rvELaw B off e)) (rvELaw B (rvOLaw B off e) (rvELaw B off e))) 1) (rnELaw B (rvOLaw B (rvOLaw B (rvOLaw B off e) (rvELaw B off e)) (rvELaw B (rvOLaw B off e) (rvELaw B off e))) (rvELaw B
 (rvOLaw B (rvOLaw B off e) (rvELaw B off e)) (rvELaw B (rvOLaw B off e) (rvELaw B off e))) 1)) B.length, .p (ByLaw B), .leN B.length 140737488355000]) : OkR (nR44y B g gR off n e) := OkR.dem (fl := bitsF 75 37774355084233758736384) (by kernel_rfl) (by kernel_rfl) (by kernel_rfl) h
theorem nR44y_val {B : List Int} {g : Nat} {gR : Nat} {off : Nat} {n : Nat} {e : Int} : (nR44y B g gR off n e).val = .agg [.slice 1 2 1 0 (rvVLaw B off e).length none, .slice 1 3 1 0 (rvVLaw B (rvOLaw B off e) (rvELaw B off e)).length none, .slice 1 4 1 0 (rvVLaw B (rvOLaw B (rvOLaw B off e) (rvELaw B off e)) (rvELaw B (rvOLaw B off e) (rvELaw B off e))).length none, .int .i64 (rnVLaw B (rvOLaw B
 (rvOLaw B (rvOLaw B off e) (rvELaw B off e)) (rvELaw B (rvOLaw B off e) (rvELaw B off e))) (rvELaw B (rvOLaw B (rvOLaw B off e) (rvELaw B off e)) (rvELaw B (rvOLaw B off e) (rvELaw B off e))) 1), .slice 1 6 1 0 (rvVLaw B (rnOLaw B (rvOLaw B (rvOLaw B (rvOLaw B off e) (rvELaw B off e)) (rvELaw B (rvOLaw B off e) (rvELaw B off e))) (rvELaw B (rvOLaw B (rvOLaw B off e) (rvELaw B off e)) (rvELaw B
 (rvOLaw B off e) (rvELaw B off e))) 1) (rnELaw B (rvOLaw B (rvOLaw B (rvOLaw B off e) (rvELaw B off e)) (rvELaw B (rvOLaw B off e) (rvELaw B off e))) (rvELaw B (rvOLaw B (rvOLaw B off e) (rvELaw B off e)) (rvELaw B (rvOLaw B off e) (rvELaw B off e))) 1)).length none, .slice 1 5 1 0 (rvVLaw B (rvOLaw B (rnOLaw B (rvOLaw B (rvOLaw B (rvOLaw B off e) (rvELaw B off e)) (rvELaw B (rvOLaw B off e)
 (rvELaw B off e))) (rvELaw B (rvOLaw B (rvOLaw B off e) (rvELaw B off e)) (rvELaw B (rvOLaw B off e) (rvELaw B off e))) 1) (rnELaw B (rvOLaw B (rvOLaw B (rvOLaw B off e) (rvELaw B off e)) (rvELaw B (rvOLaw B off e) (rvELaw B off e))) (rvELaw B (rvOLaw B (rvOLaw B off e) (rvELaw B off e)) (rvELaw B (rvOLaw B off e) (rvELaw B off e))) 1)) (rvELaw B (rnOLaw B (rvOLaw B (rvOLaw B (rvOLaw B off e)
 (rvELaw B off e)) (rvELaw B (rvOLaw B off e) (rvELaw B off e))) (rvELaw B (rvOLaw B (rvOLaw B off e) (rvELaw B off e)) (rvELaw B (rvOLaw B off e) (rvELaw B off e))) 1) (rnELaw B (rvOLaw B (rvOLaw B (rvOLaw B off e) (rvELaw B off e)) (rvELaw B (rvOLaw B off e) (rvELaw B off e))) (rvELaw B (rvOLaw B (rvOLaw B off e) (rvELaw B off e)) (rvELaw B (rvOLaw B off e) (rvELaw B off e))) 1))).length none] :=
 by kernel_rfl
theorem nR44y_tab {B : List Int} {g : Nat} {gR : Nat} {off : Nat} {n : Nat} {e : Int} : (nR44y B g gR off n e).tab = [some ⟨.agg [.slice 1 1 g (rvOLaw B (rvOLaw B (rnOLaw B (rvOLaw B (rvOLaw B (rvOLaw B off e) (rvELaw B off e)) (rvELaw B (rvOLaw B off e) (rvELaw B off e))) (rvELaw B (rvOLaw B (rvOLaw B off e) (rvELaw B off e)) (rvELaw B (rvOLaw B off e) (rvELaw B off e))) 1) (rnELaw B (rvOLaw B
 (rvOLaw B (rvOLaw B off e) (rvELaw B off e)) (rvELaw B (rvOLaw B off e) (rvELaw B off e))) (rvELaw B (rvOLaw B (rvOLaw B off e) (rvELaw B off e)) (rvELaw B (rvOLaw B off e) (rvELaw B off e))) 1)) (rvELaw B (rnOLaw B (rvOLaw B (rvOLaw B (rvOLaw B off e) (rvELaw B off e)) (rvELaw B (rvOLaw B off e) (rvELaw B off e))) (rvELaw B (rvOLaw B (rvOLaw B off e) (rvELaw B off e)) (rvELaw B (rvOLaw B off e)
 (rvELaw B off e))) 1) (rnELaw B (rvOLaw B (rvOLaw B (rvOLaw B off e) (rvELaw B off e)) (rvELaw B (rvOLaw B off e) (rvELaw B off e))) (rvELaw B (rvOLaw B (rvOLaw B off e) (rvELaw B off e)) (rvELaw B (rvOLaw B off e) (rvELaw B off e))) 1))) (B.length - rvOLaw B (rvOLaw B (rnOLaw B (rvOLaw B (rvOLaw B (rvOLaw B off e) (rvELaw B off e)) (rvELaw B (rvOLaw B off e) (rvELaw B off e))) (rvELaw B (rvOLaw B
 (rvOLaw B off e) (rvELaw B off e)) (rvELaw B (rvOLaw B off e) (rvELaw B off e))) 1) (rnELaw B (rvOLaw B (rvOLaw B (rvOLaw B off e) (rvELaw B off e)) (rvELaw B (rvOLaw B off e) (rvELaw B off e))) (rvELaw B (rvOLaw B (rvOLaw B off e) (rvELaw B off e)) (rvELaw B (rvOLaw B off e) (rvELaw B off e))) 1)) (rvELaw B (rnOLaw B (rvOLaw B (rvOLaw B (rvOLaw B off e) (rvELaw B off e)) (rvELaw B (rvOLaw B off e)
 (rvELaw B off e))) (rvELaw B (rvOLaw B (rvOLaw B off e) (rvELaw B off e)) (rvELaw B (rvOLaw B off e) (rvELaw B off e))) 1) (rnELaw B (rvOLaw B (rvOLaw B (rvOLaw B off e) (rvELaw B off e)) (rvELaw B (rvOLaw B off e) (rvELaw B off e))) (rvELaw B (rvOLaw B (rvOLaw B off e) (rvELaw B off e)) (rvELaw B (rvOLaw B off e) (rvELaw B off e))) 1))) none, .int .i64 (rvELaw B (rvOLaw B (rnOLaw B (rvOLaw B
 (rvOLaw B (rvOLaw B off e) (rvELaw B off e)) (rvELaw B (rvOLaw B off e) (rvELaw B off e))) (rvELaw B (rvOLaw B (rvOLaw B off e) (rvELaw B off e)) (rvELaw B (rvOLaw B off e) (rvELaw B off e))) 1) (rnELaw B (rvOLaw B (rvOLaw B (rvOLaw B off e) (rvELaw B off e)) (rvELaw B (rvOLaw B off e) (rvELaw B off e))) (rvELaw B (rvOLaw B (rvOLaw B off e) (rvELaw B off e)) (rvELaw B (rvOLaw B off e) (rvELaw B off
 e))) 1)) (rvELaw B (rnOLaw B (rvOLaw B (rvOLaw B (rvOLaw B off e) (rvELaw B off e)) (rvELaw B (rvOLaw B off e) (rvELaw B off e))) (rvELaw B (rvOLaw B (rvOLaw B off e) (rvELaw B off e)) (rvELaw B (rvOLaw B off e) (rvELaw B off e))) 1) (rnELaw B (rvOLaw B (rvOLaw B (rvOLaw B off e) (rvELaw B off e)) (rvELaw B (rvOLaw B off e) (rvELaw B off e))) (rvELaw B (rvOLaw B (rvOLaw B off e) (rvELaw B off e))
 (rvELaw B (rvOLaw B off e) (rvELaw B off e))) 1))), .bool true], gR, true, 115⟩, some ⟨.ints .u8 B, g, false, 5⟩, some ⟨.ints .u8 (rvVLaw B off e), 1, true, 5⟩, some ⟨.ints .u8 (rvVLaw B (rvOLaw B off e) (rvELaw B off e)), 1, true, 5⟩, some ⟨.ints .u8 (rvVLaw B (rvOLaw B (rvOLaw B off e) (rvELaw B off e)) (rvELaw B (rvOLaw B off e) (rvELaw B off e))), 1, true, 5⟩, some ⟨.ints .u8 (rvVLaw B (rvOLaw
 B (rnOLaw B (rvOLaw B (rvOLaw B (rvOLaw B off e) (rvELaw B off e)) (rvELaw B (rvOLaw B off e) (rvELaw B off e))) (rvELaw B (rvOLaw B (rvOLaw B off e) (rvELaw B off e)) (rvELaw B (rvOLaw B off e) (rvELaw B off e))) 1) (rnELaw B (rvOLaw B (rvOLaw B (rvOLaw B off e) (rvELaw B off e)) (rvELaw B (rvOLaw B off e) (rvELaw B off e))) (rvELaw B (rvOLaw B (rvOLaw B off e) (rvELaw B off e)) (rvELaw B (rvOLaw
 B off e) (rvELaw B off e))) 1)) (rvELaw B (rnOLaw B (rvOLaw B (rvOLaw B (rvOLaw B off e) (rvELaw B off e)) (rvELaw B (rvOLaw B off e) (rvELaw B off e))) (rvELaw B (rvOLaw B (rvOLaw B off e) (rvELaw B off e)) (rvELaw B (rvOLaw B off e) (rvELaw B off e))) 1) (rnELaw B (rvOLaw B (rvOLaw B (rvOLaw B off e) (rvELaw B off e)) (rvELaw B (rvOLaw B off e) (rvELaw B off e))) (rvELaw B (rvOLaw B (rvOLaw B off
 e) (rvELaw B off e)) (rvELaw B (rvOLaw B off e) (rvELaw B off e))) 1))), 1, true, 5⟩, some ⟨.ints .u8 (rvVLaw B (rnOLaw B (rvOLaw B (rvOLaw B (rvOLaw B off e) (rvELaw B off e)) (rvELaw B (rvOLaw B off e) (rvELaw B off e))) (rvELaw B (rvOLaw B (rvOLaw B off e) (rvELaw B off e)) (rvELaw B (rvOLaw B off e) (rvELaw B off e))) 1) (rnELaw B (rvOLaw B (rvOLaw B (rvOLaw B off e) (rvELaw B off e)) (rvELaw B
 (rvOLaw B off e) (rvELaw B off e))) (rvELaw B (rvOLaw B (rvOLaw B off e) (rvELaw B off e)) (rvELaw B (rvOLaw B off e) (rvELaw B off e))) 1)), 1, true, 5⟩] := by kernel_rfl
noncomputable def nR44n (B : List Int) (g : Nat) (gR : Nat) (off : Nat) (n : Nat) (e : Int) : Res := resG 2 [0, 1, 4, 5, 6, 7] (runF eL1 f44 [] 400 [.var 0 gR] [some ⟨.agg [.slice 1 1 g off n none, .int .i64 e, .bool true], gR, true, 115⟩, some ⟨.ints .u8 B, g, false, 5⟩] [some false])
theorem nR44n_ok {B : List Int} {g : Nat} {gR : Nat} {off : Nat} {n : Nat} {e : Int} (h : allP [.eqN g g, .eqN n (B.length - off), .leN off B.length, .p (ByLaw B), .leN B.length 140737488355000, .eqN g g, .eqN (B.length - rvOLaw B off e) (B.length - rvOLaw B off e), .leN (rvOLaw B off e) B.length, .p (ByLaw B), .leN B.length 140737488355000, .eqN g g, .eqN (B.length - rvOLaw B (rvOLaw B off e)
 (rvELaw B off e)) (B.length - rvOLaw B (rvOLaw B off e) (rvELaw B off e)), .leN (rvOLaw B (rvOLaw B off e) (rvELaw B off e)) B.length, .p (ByLaw B), .leN B.length 140737488355000, .eqN g g, .eqN (B.length - rvOLaw B (rvOLaw B (rvOLaw B off e) (rvELaw B off e)) (rvELaw B (rvOLaw B off e) (rvELaw B off e))) (B.length - rvOLaw B (rvOLaw B (rvOLaw B off e) (rvELaw B off e)) (rvELaw B (rvOLaw B off e)
 (rvELaw B off e))), .leN (rvOLaw B (rvOLaw B (rvOLaw B off e) (rvELaw B off e)) (rvELaw B (rvOLaw B off e) (rvELaw B off e))) B.length, .p (ByLaw B), .p ((rnVLaw B (rvOLaw B (rvOLaw B (rvOLaw B off e) (rvELaw B off e)) (rvELaw B (rvOLaw B off e) (rvELaw B off e))) (rvELaw B (rvOLaw B (rvOLaw B off e) (rvELaw B off e)) (rvELaw B (rvOLaw B off e) (rvELaw B off e))) 1 == 3) = false), .eqN g g, .eqN
 (B.length - rnOLaw B (rvOLaw B (rvOLaw B (rvOLaw B off e) (rvELaw B off e)) (rvELaw B (rvOLaw B off e) (rvELaw B off e))) (rvELaw B (rvOLaw B (rvOLaw B off e) (rvELaw B off e)) (rvELaw B (rvOLaw B off e) (rvELaw B off e))) 1) (B.length - rnOLaw B (rvOLaw B (rvOLaw B (rvOLaw B off e) (rvELaw B off e)) (rvELaw B (rvOLaw B off e) (rvELaw B off e))) (rvELaw B (rvOLaw B (rvOLaw B off e) (rvELaw B off
 e)) (rvELaw B (rvOLaw B off e) (rvELaw B off e))) 1), .leN (rnOLaw B (rvOLaw B (rvOLaw B (rvOLaw B off e) (rvELaw B off e)) (rvELaw B (rvOLaw B off e) (rvELaw B off e))) (rvELaw B (rvOLaw B (rvOLaw B off e) (rvELaw B off e)) (rvELaw B (rvOLaw B off e) (rvELaw B off e))) 1) B.length, .p (ByLaw B), .leN B.length 140737488355000]) : OkR (nR44n B g gR off n e) := OkR.dem (fl := bitsF 63
 9222250534860226560) (by kernel_rfl) (by kernel_rfl) (by kernel_rfl) h
theorem nR44n_val {B : List Int} {g : Nat} {gR : Nat} {off : Nat} {n : Nat} {e : Int} : (nR44n B g gR off n e).val = .agg [.slice 1 2 1 0 (rvVLaw B off e).length none, .slice 1 3 1 0 (rvVLaw B (rvOLaw B off e) (rvELaw B off e)).length none, .slice 1 4 1 0 (rvVLaw B (rvOLaw B (rvOLaw B off e) (rvELaw B off e)) (rvELaw B (rvOLaw B off e) (rvELaw B off e))).length none, .int .i64 (rnVLaw B (rvOLaw B
 (rvOLaw B (rvOLaw B off e) (rvELaw B off e)) (rvELaw B (rvOLaw B off e) (rvELaw B off e))) (rvELaw B (rvOLaw B (rvOLaw B off e) (rvELaw B off e)) (rvELaw B (rvOLaw B off e) (rvELaw B off e))) 1), .nilSlice, .slice 1 5 1 0 (rvVLaw B (rnOLaw B (rvOLaw B (rvOLaw B (rvOLaw B off e) (rvELaw B off e)) (rvELaw B (rvOLaw B off e) (rvELaw B off e))) (rvELaw B (rvOLaw B (rvOLaw B off e) (rvELaw B off e))
 (rvELaw B (rvOLaw B off e) (rvELaw B off e))) 1) (rnELaw B (rvOLaw B (rvOLaw B (rvOLaw B off e) (rvELaw B off e)) (rvELaw B (rvOLaw B off e) (rvELaw B off e))) (rvELaw B (rvOLaw B (rvOLaw B off e) (rvELaw B off e)) (rvELaw B (rvOLaw B off e) (rvELaw B off e))) 1)).length none] := by kernel_rfl
theorem nR44n_tab {B : List Int} {g : Nat} {gR : Nat} {off : Nat} {n : Nat} {e : Int} : (nR44n B g gR off n e).tab = [some ⟨.agg [.slice 1 1 g (rvOLaw B (rnOLaw B (rvOLaw B (rvOLaw B (rvOLaw B off e) (rvELaw B off e)) (rvELaw B (rvOLaw B off e) (rvELaw B off e))) (rvELaw B (rvOLaw B (rvOLaw B off e) (rvELaw B off e)) (rvELaw B (rvOLaw B off e) (rvELaw B off e))) 1) (rnELaw B (rvOLaw B (rvOLaw B
 (rvOLaw B off e) (rvELaw B off e)) (rvELaw B (rvOLaw B off e) (rvELaw B off e))) (rvELaw B (rvOLaw B (rvOLaw B off e) (rvELaw B off e)) (rvELaw B (rvOLaw B off e) (rvELaw B off e))) 1)) (B.length - rvOLaw B (rnOLaw B (rvOLaw B (rvOLaw B (rvOLaw B off e) (rvELaw B off e)) (rvELaw B (rvOLaw B off e) (rvELaw B off e))) (rvELaw B (rvOLaw B (rvOLaw B off e) (rvELaw B off e)) (rvELaw B (rvOLaw B off e)
 (rvELaw B off e))) 1) (rnELaw B (rvOLaw B (rvOLaw B (rvOLaw B off e) (rvELaw B off e)) (rvELaw B (rvOLaw B off e) (rvELaw B off e))) (rvELaw B (rvOLaw B (rvOLaw B off e) (rvELaw B off e)) (rvELaw B (rvOLaw B off e) (rvELaw B off e))) 1)) none, .int .i64 (rvELaw B (rnOLaw B (rvOLaw B (rvOLaw B (rvOLaw B off e) (rvELaw B off e)) (rvELaw B (rvOLaw B off e) (rvELaw B off e))) (rvELaw B (rvOLaw B
 (rvOLaw B off e) (rvELaw B off e)) (rvELaw B (rvOLaw B off e) (rvELaw B off e))) 1) (rnELaw B (rvOLaw B (rvOLaw B (rvOLaw B off e) (rvELaw B off e)) (rvELaw B (rvOLaw B off e) (rvELaw B off e))) (rvELaw B (rvOLaw B (rvOLaw B off e) (rvELaw B off e)) (rvELaw B (rvOLaw B off e) (rvELaw B off e))) 1)), .bool true], gR, true, 115⟩, some ⟨.ints .u8 B, g, false, 5⟩, some ⟨.ints .u8 (rvVLaw B off e), 1,
 true, 5⟩, some ⟨.ints .u8 (rvVLaw B (rvOLaw B off e) (rvELaw B off e)), 1, true, 5⟩, some ⟨.ints .u8 (rvVLaw B (rvOLaw B (rvOLaw B off e) (rvELaw B off e)) (rvELaw B (rvOLaw B off e) (rvELaw B off e))), 1, true, 5⟩, some ⟨.ints .u8 (rvVLaw B (rnOLaw B (rvOLaw B (rvOLaw B (rvOLaw B off e) (rvELaw B off e)) (rvELaw B (rvOLaw B off e) (rvELaw B off e))) (rvELaw B (rvOLaw B (rvOLaw B off e) (rvELaw B
 off e)) (rvELaw B (rvOLaw B off e) (rvELaw B off e))) 1) (rnELaw B (rvOLaw B (rvOLaw B (rvOLaw B off e) (rvELaw B off e)) (rvELaw B (rvOLaw B off e) (rvELaw B off e))) (rvELaw B (rvOLaw B (rvOLaw B off e) (rvELaw B off e)) (rvELaw B (rvOLaw B off e) (rvELaw B off e))) 1)), 1, true, 5⟩] := by kernel_rfl
noncomputable def nR46y (B : List Int) (g : Nat) (gR : Nat) (off : Nat) (nB : Nat) (e : Int) : Res := resG 2 [0, 1, 4, 5, 6, 8, 7] (runF eL2 f46 [] 400 [.var 0 gR] [some ⟨.agg [.slice 1 1 g 0 nB none, .int .i64 (off : Nat), .int .i64 e], gR, true, 118⟩, some ⟨.ints .u8 B, g, false, 5⟩] [some true])
theorem nR46y_ok {B : List Int} {g : Nat} {gR : Nat} {off : Nat} {nB : Nat} {e : Int} (h : allP [.eqN g g, .eqN nB B.length, .leN off B.length, .p (ByLaw B), .leN B.length 140737488355000, .eqN g g, .eqN nB B.length, .leN (rvOLaw B off e) B.length, .p (ByLaw B), .leN B.length 140737488355000, .eqN g g, .eqN nB B.length, .leN (rvOLaw B (rvOLaw B off e) (rvELaw B off e)) B.length, .p (ByLaw B), .leN
 B.length 140737488355000, .eqN g g, .eqN nB B.length, .leN (rvOLaw B (rvOLaw B (rvOLaw B off e) (rvELaw B off e)) (rvELaw B (rvOLaw B off e) (rvELaw B off e))) B.length, .p (ByLaw B), .leN B.length 140737488355000, .p ((rnVLaw B (rvOLaw B (rvOLaw B (rvOLaw B off e) (rvELaw B off e)) (rvELaw B (rvOLaw B off e) (rvELaw B off e))) (rvELaw B (rvOLaw B (rvOLaw B off e) (rvELaw B off e)) (rvELaw B
 (rvOLaw B off e) (rvELaw B off e))) 1 == 3) = true), .eqN g g, .eqN nB B.length, .leN (rnOLaw B (rvOLaw B (rvOLaw B (rvOLaw B off e) (rvELaw B off e)) (rvELaw B (rvOLaw B off e) (rvELaw B off e))) (rvELaw B (rvOLaw B (rvOLaw B off e) (rvELaw B off e)) (rvELaw B (rvOLaw B off e) (rvELaw B off e))) 1) B.length, .p (ByLaw B), .leN B.length 140737488355000, .eqN g g, .eqN nB B.length, .leN (rvOLaw B
 (rnOLaw B (rvOLaw B (rvOLaw B (rvOLaw B off e) (rvELaw B off e)) (rvELaw B (rvOLaw B off e) (rvELaw B off e))) (rvELaw B (rvOLaw B (rvOLaw B off e) (rvELaw B off e)) (rvELaw B (rvOLaw B off e) (rvELaw B off e))) 1) (rnELaw B (rvOLaw B (rvOLaw B (rvOLaw B off e) (rvELaw B off e)) (rvELaw B (rvOLaw B off e) (rvELaw B off e))) (rvELaw B (rvOLaw B (rvOLaw B off e) (rvELaw B off e)) (rvELaw B (rvOLaw B
 off e) (rvELaw B off e))) 1)) B.length, .p (ByLaw B), .leN B.length 140737488355000]) : OkR (nR46y B g gR off nB e) := OkR.dem (fl := bitsF 85 38680939606238047375466368) (by kernel_rfl) (by kernel_rfl) (by kernel_rfl) h
theorem nR46y_val {B : List Int} {g : Nat} {gR : Nat} {off : Nat} {nB : Nat} {e : Int} : (nR46y B g gR off nB e).val = .agg [.slice 1 2 1 0 (rvVLaw B off e).length none, .slice 1 3 1 0 (rvVLaw B (rvOLaw B off e) (rvELaw B off e)).length none, .slice 1 4 1 0 (rvVLaw B (rvOLaw B (rvOLaw B off e) (rvELaw B off e)) (rvELaw B (rvOLaw B off e) (rvELaw B off e))).length none, .int .i64 (rnVLaw B (rvOLaw B
 (rvOLaw B (rvOLaw B off e) (rvELaw B off e)) (rvELaw B (rvOLaw B off e) (rvELaw B off e))) (rvELaw B (rvOLaw B (rvOLaw B off e) (rvELaw B off e)) (rvELaw B (rvOLaw B off e) (rvELaw B off e))) 1), .slice 1 6 1 0 (rvVLaw B (rnOLaw B (rvOLaw B (rvOLaw B (rvOLaw B off e) (rvELaw B off e)) (rvELaw B (rvOLaw B off e) (rvELaw B off e))) (rvELaw B (rvOLaw B (rvOLaw B off e) (rvELaw B off e)) (rvELaw B
 (rvOLaw B off e) (rvELaw B off e))) 1) (rnELaw B (rvOLaw B (rvOLaw B (rvOLaw B off e) (rvELaw B off e)) (rvELaw B (rvOLaw B off e) (rvELaw B off e))) (rvELaw B (rvOLaw B (rvOLaw B off e) (rvELaw B off e)) (rvELaw B (rvOLaw B off e) (rvELaw B off e))) 1)).length none, .slice 1 5 1 0 (rvVLaw B (rvOLaw B (rnOLaw B (rvOLaw B (rvOLaw B (rvOLaw B off e) (rvELaw B off e)) (rvELaw B (rvOLaw B off e)
 (rvELaw B off e))) (rvELaw B (rvOLaw B (rvOLaw B off e) (rvELaw B off e)) (rvELaw B (rvOLaw B off e) (rvELaw B off e))) 1) (rnELaw B (rvOLaw B (rvOLaw B (rvOLaw B off e) (rvELaw B off e)) (rvELaw B (rvOLaw B off e) (rvELaw B off e))) (rvELaw B (rvOLaw B (rvOLaw B off e) (rvELaw B off e)) (rvELaw B (rvOLaw B off e) (rvELaw B off e))) 1)) (rvELaw B (rnOLaw B (rvOLaw B (rvOLaw B (rvOLaw B off e)
 (rvELaw B off e)) (rvELaw B (rvOLaw B off e) (rvELaw B off e))) (rvELaw B (rvOLaw B (rvOLaw B off e) (rvELaw B off e)) (rvELaw B (rvOLaw B off e) (rvELaw B off e))) 1) (rnELaw B (rvOLaw B (rvOLaw B (rvOLaw B off e) (rvELaw B off e)) (rvELaw B (rvOLaw B off e) (rvELaw B off e))) (rvELaw B (rvOLaw B (rvOLaw B off e) (rvELaw B off e)) (rvELaw B (rvOLaw B off e) (rvELaw B off e))) 1))).length none] :=
 by kernel_rfl
theorem nR46y_tab {B : List Int} {g : Nat} {gR : Nat} {off : Nat} {nB : Nat} {e : Int} : (nR46y B g gR off nB e).tab = [some ⟨.agg [.slice 1 1 g 0 nB none, .int .i64 (↑(rvOLaw B (rvOLaw B (rnOLaw B (rvOLaw B (rvOLaw B (rvOLaw B off e) (rvELaw B off e)) (rvELaw B (rvOLaw B off e) (rvELaw B off e))) (rvELaw B (rvOLaw B (rvOLaw B off e) (rvELaw B off e)) (rvELaw B (rvOLaw B off e) (rvELaw B off e)))
 1) (rnELaw B (rvOLaw B (rvOLaw B (rvOLaw B off e) (rvELaw B off e)) (rvELaw B (rvOLaw B off e) (rvELaw B off e))) (rvELaw B (rvOLaw B (rvOLaw B off e) (rvELaw B off e)) (rvELaw B (rvOLaw B off e) (rvELaw B off e))) 1)) (rvELaw B (rnOLaw B (rvOLaw B (rvOLaw B (rvOLaw B off e) (rvELaw B off e)) (rvELaw B (rvOLaw B off e) (rvELaw B off e))) (rvELaw B (rvOLaw B (rvOLaw B off e) (rvELaw B off e))
 (rvELaw B (rvOLaw B off e) (rvELaw B off e))) 1) (rnELaw B (rvOLaw B (rvOLaw B (rvOLaw B off e) (rvELaw B off e)) (rvELaw B (rvOLaw B off e) (rvELaw B off e))) (rvELaw B (rvOLaw B (rvOLaw B off e) (rvELaw B off e)) (rvELaw B (rvOLaw B off e) (rvELaw B off e))) 1))) : Int), .int .i64 (rvELaw B (rvOLaw B (rnOLaw B (rvOLaw B (rvOLaw B (rvOLaw B off e) (rvELaw B off e)) (rvELaw B (rvOLaw B off e)
 (rvELaw B off e))) (rvELaw B (rvOLaw B (rvOLaw B off e) (rvELaw B off e)) (rvELaw B (rvOLaw B off e) (rvELaw B off e))) 1) (rnELaw B (rvOLaw B (rvOLaw B (rvOLaw B off e) (rvELaw B off e)) (rvELaw B (rvOLaw B off e) (rvELaw B off e))) (rvELaw B (rvOLaw B (rvOLaw B off e) (rvELaw B off e)) (rvELaw B (rvOLaw B off e) (rvELaw B off e))) 1)) (rvELaw B (rnOLaw B (rvOLaw B (rvOLaw B (rvOLaw B off e)
 (rvELaw B off e)) (rvELaw B (rvOLaw B off e) (rvELaw B off e))) (rvELaw B (rvOLaw B (rvOLaw B off e) (rvELaw B off e)) (rvELaw B (rvOLaw B off e) (rvELaw B off e))) 1) (rnELaw B (rvOLaw B (rvOLaw B (rvOLaw B off e) (rvELaw B off e)) (rvELaw B (rvOLaw B off e) (rvELaw B off e))) (rvELaw B (rvOLaw B (rvOLaw B off e) (rvELaw B off e)) (rvELaw B (rvOLaw B off e) (rvELaw B off e))) 1)))], gR, true,
 118⟩, some ⟨.ints .u8 B, g, false, 5⟩, some ⟨.ints .u8 (rvVLaw B off e), 1, true, 5⟩, some ⟨.ints .u8 (rvVLaw B (rvOLaw B off e) (rvELaw B off e)), 1, true, 5⟩, some ⟨.ints .u8 (rvVLaw B (rvOLaw B (rvOLaw B off e) (rvELaw B off e)) (rvELaw B (rvOLaw B off e) (rvELaw B off e))), 1, true, 5⟩, some ⟨.ints .u8 (rvVLaw B (rvOLaw B (rnOLaw B (rvOLaw B (rvOLaw B (rvOLaw B off e) (rvELaw B off e)) (rvELaw
 B (rvOLaw B off e) (rvELaw B off e))) (rvELaw B (rvOLaw B (rvOLaw B off e) (rvELaw B off e)) (rvELaw B (rvOLaw B off e) (rvELaw B off e))) 1) (rnELaw B (rvOLaw B (rvOLaw B (rvOLaw B off e) (rvELaw B off e)) (rvELaw B (rvOLaw B off e) (rvELaw B off e))) (rvELaw B (rvOLaw B (rvOLaw B off e) (rvELaw B off e)) (rvELaw B (rvOLaw B off e) (rvELaw B off e))) 1)) (rvELaw B (rnOLaw B (rvOLaw B (rvOLaw B
 (rvOLaw B off e) (rvELaw B off e)) (rvELaw B (rvOLaw B off e) (rvELaw B off e))) (rvELaw B (rvOLaw B (rvOLaw B off e) (rvELaw B off e)) (rvELaw B (rvOLaw B off e) (rvELaw B off e))) 1) (rnELaw B (rvOLaw B (rvOLaw B (rvOLaw B off e) (rvELaw B off e)) (rvELaw B (rvOLaw B off e) (rvELaw B off e))) (rvELaw B (rvOLaw B (rvOLaw B off e) (rvELaw B off e)) (rvELaw B (rvOLaw B off e) (rvELaw B off e)))
 1))), 1, true, 5⟩, some ⟨.ints .u8 (rvVLaw B (rnOLaw B (rvOLaw B (rvOLaw B (rvOLaw B off e) (rvELaw B off e)) (rvELaw B (rvOLaw B off e) (rvELaw B off e))) (rvELaw B (rvOLaw B (rvOLaw B off e) (rvELaw B off e)) (rvELaw B (rvOLaw B off e) (rvELaw B off e))) 1) (rnELaw B (rvOLaw B (rvOLaw B (rvOLaw B off e) (rvELaw B off e)) (rvELaw B (rvOLaw B off e) (rvELaw B off e))) (rvELaw B (rvOLaw B (rvOLaw B
 off e) (rvELaw B off e)) (rvELaw B (rvOLaw B off e) (rvELaw B off e))) 1)), 1, true, 5⟩] := by kernel_rfl
noncomputable def nR46n (B : List Int) (g : Nat) (gR : Nat) (off : Nat) (nB : Nat) (e : Int) : Res := resG 2 [0, 1, 4, 5, 6, 7] (runF eL2 f46 [] 400 [.var 0 gR] [some ⟨.agg [.slice 1 1 g 0 nB none, .int .i64 (off : Nat), .int .i64 e], gR, true, 118⟩, some ⟨.ints .u8 B, g, false, 5⟩] [some false])
theorem nR46n_ok {B : List Int} {g : Nat} {gR : Nat} {off : Nat} {nB : Nat} {e : Int} (h : allP [.eqN g g, .eqN nB B.length, .leN off B.length, .p (ByLaw B), .leN B.length 140737488355000, .eqN g g, .eqN nB B.length, .leN (rvOLaw B off e) B.length, .p (ByLaw B), .leN B.length 140737488355000, .eqN g g, .eqN nB B.length, .leN (rvOLaw B (rvOLaw B off e) (rvELaw B off e)) B.length, .p (ByLaw B), .leN
 B.length 140737488355000, .eqN g g, .eqN nB B.length, .leN (rvOLaw B (rvOLaw B (rvOLaw B off e) (rvELaw B off e)) (rvELaw B (rvOLaw B off e) (rvELaw B off e))) B.length, .p (ByLaw B), .leN B.length 140737488355000, .p ((rnVLaw B (rvOLaw B (rvOLaw B (rvOLaw B off e) (rvELaw B off e)) (rvELaw B (rvOLaw B off e) (rvELaw B off e))) (rvELaw B (rvOLaw B (rvOLaw B off e) (rvELaw B off e)) (rvELaw B
 (rvOLaw B off e) (rvELaw B off e))) 1 == 3) = false), .eqN g g, .eqN nB B.length, .leN (rnOLaw B (rvOLaw B (rvOLaw B (rvOLaw B off e) (rvELaw B off e)) (rvELaw B (rvOLaw B off e) (rvELaw B off e))) (rvELaw B (rvOLaw B (rvOLaw B off e) (rvELaw B off e)) (rvELaw B (rvOLaw B off e) (rvELaw B off e))) 1) B.length, .p (ByLaw B), .leN B.length 140737488355000]) : OkR (nR46n B g gR off nB e) := OkR.dem
 (fl := bitsF 73 9443584530375301406592) (by kernel_rfl) (by kernel_rfl) (by kernel_rfl) h
theorem nR46n_val {B : List Int} {g : Nat} {gR : Nat} {off : Nat} {nB : Nat} {e : Int} : (nR46n B g gR off nB e).val = .agg [.slice 1 2 1 0 (rvVLaw B off e).length none, .slice 1 3 1 0 (rvVLaw B (rvOLaw B off e) (rvELaw B off e)).length none, .slice 1 4 1 0 (rvVLaw B (rvOLaw B (rvOLaw B off e) (rvELaw B off e)) (rvELaw B (rvOLaw B off e) (rvELaw B off e))).length none, .int .i64 (rnVLaw B (rvOLaw B
 (rvOLaw B (rvOLaw B off e) (rvELaw B off e)) (rvELaw B (rvOLaw B off e) (rvELaw B off e))) (rvELaw B (rvOLaw B (rvOLaw B off e) (rvELaw B off e)) (rvELaw B (rvOLaw B off e) (rvELaw B off e))) 1), .nilSlice, .slice 1 5 1 0 (rvVLaw B (rnOLaw B (rvOLaw B (rvOLaw B (rvOLaw B off e) (rvELaw B off e)) (rvELaw B (rvOLaw B off e) (rvELaw B off e))) (rvELaw B (rvOLaw B (rvOLaw B off e) (rvELaw B off e))
 (rvELaw B (rvOLaw B off e) (rvELaw B off e))) 1) (rnELaw B (rvOLaw B (rvOLaw B (rvOLaw B off e) (rvELaw B off e)) (rvELaw B (rvOLaw B off e) (rvELaw B off e))) (rvELaw B (rvOLaw B (rvOLaw B off e) (rvELaw B off e)) (rvELaw B (rvOLaw B off e) (rvELaw B off e))) 1)).length none] := by kernel_rfl
theorem nR46n_tab {B : List Int} {g : Nat} {gR : Nat} {off : Nat} {nB : Nat} {e : Int} : (nR46n B g gR off nB e).tab = [some ⟨.agg [.slice 1 1 g 0 nB none, .int .i64 (↑(rvOLaw B (rnOLaw B (rvOLaw B (rvOLaw B (rvOLaw B off e) (rvELaw B off e)) (rvELaw B (rvOLaw B off e) (rvELaw B off e))) (rvELaw B (rvOLaw B (rvOLaw B off e) (rvELaw B off e)) (rvELaw B (rvOLaw B off e) (rvELaw B off e))) 1) (rnELaw
 B (rvOLaw B (rvOLaw B (rvOLaw B off e) (rvELaw B off e)) (rvELaw B (rvOLaw B off e) (rvELaw B off e))) (rvELaw B (rvOLaw B (rvOLaw B off e) (rvELaw B off e)) (rvELaw B (rvOLaw B off e) (rvELaw B off e))) 1)) : Int), .int .i64 (rvELaw B (rnOLaw B (rvOLaw B (rvOLaw B (rvOLaw B off e) (rvELaw B off e)) (rvELaw B (rvOLaw B off e) (rvELaw B off e))) (rvELaw B (rvOLaw B (rvOLaw B off e) (rvELaw B off e))
 (rvELaw B (rvOLaw B off e) (rvELaw B off e))) 1) (rnELaw B (rvOLaw B (rvOLaw B (rvOLaw B off e) (rvELaw B off e)) (rvELaw B (rvOLaw B off e) (rvELaw B off e))) (rvELaw B (rvOLaw B (rvOLaw B off e) (rvELaw B off e)) (rvELaw B (rvOLaw B off e) (rvELaw B off e))) 1))], gR, true, 118⟩, some ⟨.ints .u8 B, g, false, 5⟩, some ⟨.ints .u8 (rvVLaw B off e), 1, true, 5⟩, some ⟨.ints .u8 (rvVLaw B (rvOLaw B
 off e) (rvELaw B off e)), 1, true, 5⟩, some ⟨.ints .u8 (rvVLaw B (rvOLaw B (rvOLaw B off e) (rvELaw B off e)) (rvELaw B (rvOLaw B off e) (rvELaw B off e))), 1, true, 5⟩, some ⟨.ints .u8 (rvVLaw B (rnOLaw B (rvOLaw B (rvOLaw B (rvOLaw B off e) (rvELaw B off e)) (rvELaw B (rvOLaw B off e) (rvELaw B off e))) (rvELaw B (rvOLaw B (rvOLaw B off e) (rvELaw B off e)) (rvELaw B (rvOLaw B off e) (rvELaw B
 off e))) 1) (rnELaw B (rvOLaw B (rvOLaw B (rvOLaw B off e) (rvELaw B off e)) (rvELaw B (rvOLaw B off e) (rvELaw B off e))) (rvELaw B (rvOLaw B (rvOLaw B off e) (rvELaw B off e)) (rvELaw B (rvOLaw B off e) (rvELaw B off e))) 1)), 1, true, 5⟩] := by kernel_rfl
noncomputable def nsm44c (args : List AVal) (T : Tab) (B : List Int) (g : Nat) (gR : Nat) (off : Nat) (n : Nat) (e : Int) : Res := ⟨[.tab T [some ⟨.agg [.slice 1 1 g off n none, .int .i64 e, .bool true], gR, true, 115⟩, some ⟨.ints .u8 B, g, false, 5⟩], .val (.tuple args) (.tuple [.var 0 gR]), .eqN n (B.length - off), .leN off B.length, .p (ByLaw B), .leN B.length 140737488355000], .agg [.slice 1 2 1 0 (lfALaw B off e).length none, .slice 1 3 1 0 (lfBLaw B off e).length none, .slice 1 4 1 0 (lfCLaw B off e).length none, .int .i64 (lfSLaw B off e), .slice 1 6 1 0 (lfDLaw B off e).length none, .slice 1 5 1 0 (lfZLaw B off e).length none], [some ⟨.agg [.slice 1 1 g (lfOLaw B off e) (B.length - lfOLaw B off e) none, .int .i64 (lfELaw B off e), .bool true], gR, true, 115⟩, some ⟨.ints .u8 B, g, false, 5⟩, some ⟨.ints .u8 (lfALaw B off e), 1, true, 5⟩, some ⟨.ints .u8 (lfBLaw B off e), 1, true, 5⟩, some ⟨.ints .u8 (lfCLaw B off e), 1, true, 5⟩, some ⟨.ints .u8 (lfZLaw B off e), 1, true, 5⟩, some ⟨.ints .u8 (lfDLaw B off e), 1, true, 5⟩]⟩
theorem nsm44c_ok {args : List AVal} {T : Tab} {B : List Int} {g : Nat} {gR : Nat} {off : Nat} {n : Nat} {e : Int} (h : allP (nsm44c args T B g gR off n e).cs) : Small prog (fun _ => none) 44 args T (nsm44c args T B g gR off n e).val (nsm44c args T B g gR off n e).tab := by
  obtain ⟨hT, hv, h1, h2, h3, h4, _⟩ := h
  simp only [Con.h] at hT hv h1 h2 h3 h4
  injection hv with hv
  subst hT hv
  show Small prog (fun _ => none) 44 [.var 0 gR] [some ⟨.agg [.slice 1 1 g off n none, .int .i64 e, .bool true], gR, true, 115⟩, some ⟨.ints .u8 B, g, false, 5⟩] (.agg [.slice 1 2 1 0 (lfALaw B off e).length none, .slice 1 3 1 0 (lfBLaw B off e).length none, .slice 1 4 1 0 (lfCLaw B off e).length none, .int .i64 (lfSLaw B off e), .slice 1 6 1 0 (lfDLaw B off e).length none, .slice 1 5 1 0 (lfZLaw B off e).length none]) [some ⟨.agg [.slice 1 1 g (lfOLaw B off e) (B.length - lfOLaw B off e) none, .int .i64 (lfELaw B off e), .bool true], gR, true, 115⟩, some ⟨.ints .u8 B, g, false, 5⟩, some ⟨.ints .u8 (lfALaw B off e), 1, true, 5⟩, some ⟨.ints .u8 (lfBLaw B off e), 1, true, 5⟩, some ⟨.ints .u8 (lfCLaw B off e), 1, true, 5⟩, some ⟨.ints .u8 (lfZLaw B off e), 1, true, 5⟩, some ⟨.ints .u8 (lfDLaw B off e), 1, true, 5⟩]
  subst h1
  have hoL := h2
  have hbL := h3
  have hlL := h4
  have hb : ByLaw B := hbL
  have k1 : rvOLaw B off e ≤ B.length := (rv_off hoL e).2
  have k2 := (rv_off k1 (rvELaw B off e)).2
  have k3 := (rv_off k2 (rvELaw B (rvOLaw B off e) (rvELaw B off e))).2
  have k4 := (rn_off k3 (rvELaw B (rvOLaw B (rvOLaw B off e) (rvELaw B off e)) (rvELaw B (rvOLaw B off e) (rvELaw B off e))) 1).2
  by_cases hs : lfSLaw B off e = 3
  · have hD : lfDLaw B off e = rvVLaw B (s4O B off e) (s4E B off e) := if_pos hs
    have hO5 : s5O B off e = rvOLaw B (s4O B off e) (s4E B off e) := if_pos hs
    have hE5 : s5E B off e = rvELaw B (s4O B off e) (s4E B off e) := if_pos hs
    have k5 := (rv_off k4 (s4E B off e)).2
    unfold lfZLaw lfOLaw lfELaw
    rw [hD, hO5, hE5]
    refine small_ofG (R := nR44y B g gR off (B.length - off) e) eL1_ok hmN (f := 44) (fn := f44) (by kernel_rfl) (by kernel_rfl) FnOrc.nil rfl (nR44y_ok ?_) nR44y_val nR44y_tab
    simp only [allP, Con.h, eq_self, true_and, and_true, beq_iff_eq, beq_eq_false_iff_ne, ne_eq, decide_eq_true_eq, decide_eq_false_iff_not, hb, hoL, hlL, k1, k2, k3, k4]
    exact ⟨hs, k5⟩
  · have hD : lfDLaw B off e = [] := if_neg hs
    have hO5 : s5O B off e = s4O B off e := if_neg hs
    have hE5 : s5E B off e = s4E B off e := if_neg hs
    unfold lfZLaw lfOLaw lfELaw
    rw [hD, hO5, hE5]
    refine small_nilA 4 1 (small_ofG (R := nR44n B g gR off (B.length - off) e) eL1_ok hmN (f := 44) (fn := f44) (by kernel_rfl) (by kernel_rfl) FnOrc.nil rfl (nR44n_ok ?_) nR44n_val nR44n_tab) rfl
    simp only [allP, Con.h, eq_self, true_and, and_true, beq_iff_eq, beq_eq_false_iff_ne, ne_eq, decide_eq_true_eq, decide_eq_false_iff_not, hb, hoL, hlL, k1, k2, k3, k4]
    exact hs
noncomputable def nsm44 : Summary := fun args T => nsm44c args T (xsAt T 1) (gAt T 1) (gAt T 0) (offOf (cAt T 0 0)) (lenOf (cAt T 0 0)) (iOf (cAt T 0 1))
theorem nsm44_ok : SmOk prog (fun _ => none) 44 nsm44 := fun args T h => nsm44c_ok h
noncomputable def nS44 : Summary := callR nsm44 [true]
theorem nS44_ok : SumOk prog (fun _ => none) 44 nS44 := callR_ok nsm44_ok _
noncomputable def nsm46c (args : List AVal) (T : Tab) (B : List Int) (g : Nat) (gR : Nat) (off : Nat) (nB : Nat) (e : Int) : Res := ⟨[.tab T [some ⟨.agg [.slice 1 1 g 0 nB none, .int .i64 (off : Nat), .int .i64 e], gR, true, 118⟩, some ⟨.ints .u8 B, g, false, 5⟩], .val (.tuple args) (.tuple [.var 0 gR]), .eqN nB B.length, .leN off B.length, .p (ByLaw B), .leN B.length 140737488355000], .agg [.slice 1 2 1 0 (lfALaw B off e).length none, .slice 1 3 1 0 (lfBLaw B off e).length none, .slice 1 4 1 0 (lfCLaw B off e).length none, .int .i64 (lfSLaw B off e), .slice 1 6 1 0 (lfDLaw B off e).length none, .slice 1 5 1 0 (lfZLaw B off e).length none], [some ⟨.agg [.slice 1 1 g 0 nB none, .int .i64 (lfOLaw B off e : Nat), .int .i64 (lfELaw B off e)], gR, true, 118⟩, some ⟨.ints .u8 B, g, false, 5⟩, some ⟨.ints .u8 (lfALaw B off e), 1, true, 5⟩, some ⟨.ints .u8 (lfBLaw B off e), 1, true, 5⟩, some ⟨.ints .u8 (lfCLaw B off e), 1, true, 5⟩, some ⟨.ints .u8 (lfZLaw B off e), 1, true, 5⟩, some ⟨.ints .u8 (lfDLaw B off e), 1, true, 5⟩]⟩
theorem nsm46c_ok {args : List AVal} {T : Tab} {B : List Int} {g : Nat} {gR : Nat} {off : Nat} {nB : Nat} {e : Int} (h : allP (nsm46c args T B g gR off nB e).cs) : Small prog (fun _ => none) 46 args T (nsm46c args T B g gR off nB e).val (nsm46c args T B g gR off nB e).tab := by
  obtain ⟨hT, hv, h1, h2, h3, h4, _⟩ := h
  simp only [Con.h] at hT hv h1 h2 h3 h4
  injection hv with hv
  subst hT hv
  show Small prog (fun _ => none) 46 [.var 0 gR] [some ⟨.agg [.slice 1 1 g 0 nB none, .int .i64 (off : Nat), .int .i64 e], gR, true, 118⟩, some ⟨.ints .u8 B, g, false, 5⟩] (.agg [.slice 1 2 1 0 (lfALaw B off e).length none, .slice 1 3 1 0 (lfBLaw B off e).length none, .slice 1 4 1 0 (lfCLaw B off e).length none, .int .i64 (lfSLaw B off e), .slice 1 6 1 0 (lfDLaw B off e).length none, .slice 1 5 1 0 (lfZLaw B off e).length none]) [some ⟨.agg [.slice 1 1 g 0 nB none, .int .i64 (lfOLaw B off e : Nat), .int .i64 (lfELaw B off e)], gR, true, 118⟩, some ⟨.ints .u8 B, g, false, 5⟩, some ⟨.ints .u8 (lfALaw B off e), 1, true, 5⟩, some ⟨.ints .u8 (lfBLaw B off e), 1, true, 5⟩, some ⟨.ints .u8 (lfCLaw B off e), 1, true, 5⟩, some ⟨.ints .u8 (lfZLaw B off e), 1, true, 5⟩, some ⟨.ints .u8 (lfDLaw B off e), 1, true, 5⟩]
  subst h1
  have hoL := h2
  have hbL := h3
  have hlL := h4
  have hb : ByLaw B := hbL
  have k1 : rvOLaw B off e ≤ B.length := (rv_off hoL e).2
  have k2 := (rv_off k1 (rvELaw B off e)).2
  have k3 := (rv_off k2 (rvELaw B (rvOLaw B off e) (rvELaw B off e))).2
  have k4 := (rn_off k3 (rvELaw B (rvOLaw B (rvOLaw B off e) (rvELaw B off e)) (rvELaw B (rvOLaw B off e) (rvELaw B off e))) 1).2
  by_cases hs : lfSLaw B off e = 3
  · have hD : lfDLaw B off e = rvVLaw B (s4O B off e) (s4E B off e) := if_pos hs
    have hO5 : s5O B off e = rvOLaw B (s4O B off e) (s4E B off e) := if_pos hs
    have hE5 : s5E B off e = rvELaw B (s4O B off e) (s4E B off e) := if_pos hs
    have k5 := (rv_off k4 (s4E B off e)).2
    unfold lfZLaw lfOLaw lfELaw
    rw [hD, hO5, hE5]
    refine small_ofG (R := nR46y B g gR off B.length e) eL2_ok hmN (f := 46) (fn := f46) (by kernel_rfl) (by kernel_rfl) FnOrc.nil rfl (nR46y_ok ?_) nR46y_val nR46y_tab
    simp only [allP, Con.h, eq_self, true_and, and_true, beq_iff_eq, beq_eq_false_iff_ne, ne_eq, decide_eq_true_eq, decide_eq_false_iff_not, hb, hoL, hlL, k1, k2, k3, k4]
    exact ⟨hs, k5⟩
  · have hD : lfDLaw B off e = [] := if_neg hs
    have hO5 : s5O B off e = s4O B off e := if_neg hs
    have hE5 : s5E B off e = s4E B off e := if_neg hs
    unfold lfZLaw lfOLaw lfELaw
    rw [hD, hO5, hE5]
    refine small_nilA 4 1 (small_ofG (R := nR46n B g gR off B.length e) eL2_ok hmN (f := 46) (fn := f46) (by kernel_rfl) (by kernel_rfl) FnOrc.nil rfl (nR46n_ok ?_) nR46n_val nR46n_tab) rfl
    simp only [allP, Con.h, eq_self, true_and, and_true, beq_iff_eq, beq_eq_false_iff_ne, ne_eq, decide_eq_true_eq, decide_eq_false_iff_not, hb, hoL, hlL, k1, k2, k3, k4]
    exact hs
noncomputable def nsm46 : Summary := fun args T => nsm46c args T (xsAt T 1) (gAt T 1) (gAt T 0) ((iOf (cAt T 0 1)).toNat) (lenOf (cAt T 0 0)) (iOf (cAt T 0 2))
theorem nsm46_ok : SmOk prog (fun _ => none) 46 nsm46 := fun args T h => nsm46c_ok h
noncomputable def nS46 : Summary := callR nsm46 [true]
theorem nS46_ok : SumOk prog (fun _ => none) 46 nS46 := callR_ok nsm46_ok _
end Go.Abs

set_option linter.unusedVariables false
set_option linter.unusedSimpArgs false
set_option maxRecDepth 100000
set_option maxHeartbeats 4000000
namespace Go.Abs
open Go.Proofs Go.Proofs.Try
/-! ### what is read is written the same -/
theorem rvE_zero {B : List Int} {off : Nat} {e : Int} (h : rvELaw B off e = 0) : e = 0 := by
  by_cases he : e = 0
  · exact he
  · unfold rvELaw at h
    rw [rv_e he] at h
    exact h
theorem rnE_zero {B : List Int} {off : Nat} {e size : Int} (h : rnELaw B off e size = 0) : e = 0 := by
  by_cases he : e = 0
  · exact he
  · unfold rnELaw at h
    rw [rn_e size he] at h
    exact h
theorem rn_canon1 {B : List Int} {off : Nat} (hb : ByLaw B) (h : rnELaw B off 0 1 = 0) : rnOLaw B off 0 1 = off + 1 ∧ off < B.length ∧ B.drop off = numLaw (rnVLaw B off 0 1) 1 ++ B.drop (off + 1) := by
  have hz : sizedLaw 1 := .inl rfl
  by_cases hl : ((B.length - off : Nat) : Int) < 1
  · unfold rnELaw rnP at h
    rw [if_neg (by decide), if_neg (not_not_intro hz), if_pos hl] at h
    cases h
  have e : rnP B off 0 1 = (numAtLaw 1 B off, off + 1, 0) := by
    unfold rnP
    rw [if_neg (by decide), if_neg (not_not_intro hz), if_neg hl, if_neg (by omega)]
    rfl
  have hv : rnVLaw B off 0 1 = B.getD off 0 := by
    unfold rnVLaw
    rw [e]
    show beN 1 B off = _
    unfold beN beN
    simp
  have hlt : off < B.length := by omega
  have hB := hb off
  refine ⟨by unfold rnOLaw; rw [e], hlt, ?_⟩
  rw [hv, num1 hB.1 hB.2, drop_get hlt, Int.emod_eq_of_lt hB.1 hB.2]
  rfl
def glOK (B : List Int) : Prop := reLaw B (lfOLaw B 0 0) (lfELaw B 0 0) = 0 ∧ RightL (lfALaw B 0 0) (lfBLaw B 0 0) (lfCLaw B 0 0) (lfSLaw B 0 0) (lfDLaw B 0 0) (lfZLaw B 0 0)
instance (B : List Int) : Decidable (glOK B) := by unfold glOK; exact inferInstance
theorem re_zero {B : List Int} {off : Nat} {e : Int} (h : reLaw B off e = 0) : e = 0 ∧ B.length ≤ off := by
  unfold reLaw at h
  by_cases he : e = 0
  · refine ⟨he, ?_⟩
    rw [if_neg (not_not_intro he)] at h
    split at h
    · cases h
    · omega
  · rw [if_pos he] at h
    exact absurd h he
/-- a leaf's bytes, as they were read, and what comes behind -/
theorem leaf_canon {B : List Int} {off : Nat} (hb : ByLaw B) (h : lfELaw B off 0 = 0) :
    B.drop off = bareLaw (lfALaw B off 0) (lfBLaw B off 0) (lfCLaw B off 0) (lfSLaw B off 0) (lfDLaw B off 0) ++ (vec1Law (lfZLaw B off 0) ++ B.drop (lfOLaw B off 0)) ∧ lfOLaw B off 0 ≤ B.length := by
  have e5 : s5E B off 0 = 0 := rvE_zero h
  have c5 := rv_canon (off := s5O B off 0) hb (by have k := h; unfold lfELaw at k; rwa [e5] at k)
  have hz : lfZLaw B off 0 = rvVLaw B (s5O B off 0) 0 := by unfold lfZLaw; rw [e5]
  have hO : lfOLaw B off 0 = rvOLaw B (s5O B off 0) 0 := by unfold lfOLaw; rw [e5]
  have key : s4E B off 0 = 0 ∧ B.drop (s4O B off 0) = (if lfSLaw B off 0 = 3 then vec1Law (lfDLaw B off 0) else []) ++ B.drop (s5O B off 0) := by
    unfold s5E at e5
    unfold s5O lfDLaw
    by_cases hs : lfSLaw B off 0 = 3
    · rw [if_pos hs] at e5
      have e4 := rvE_zero e5
      rw [e4] at e5
      have c4 := rv_canon (off := s4O B off 0) hb e5
      rw [if_pos hs, if_pos hs, if_pos hs, e4]
      exact ⟨rfl, c4.2.2.2⟩
    · rw [if_neg hs] at e5
      rw [if_neg hs, if_neg hs]
      exact ⟨e5, rfl⟩
  obtain ⟨e4, c4⟩ := key
  have e3 : s3E B off 0 = 0 := rnE_zero e4
  have c3 := rn_canon1 (off := s3O B off 0) hb (by have k := e4; unfold s4E at k; rwa [e3] at k)
  have hS : lfSLaw B off 0 = rnVLaw B (s3O B off 0) 0 1 := by unfold lfSLaw; rw [e3]
  have h4 : s4O B off 0 = s3O B off 0 + 1 := by unfold s4O; rw [e3]; exact c3.1
  have e2 : s2E B off 0 = 0 := rvE_zero e3
  have c2 := rv_canon (off := s2O B off 0) hb (by have k := e3; unfold s3E at k; rwa [e2] at k)
  have hC : lfCLaw B off 0 = rvVLaw B (s2O B off 0) 0 := by unfold lfCLaw; rw [e2]
  have h3 : s3O B off 0 = rvOLaw B (s2O B off 0) 0 := by unfold s3O; rw [e2]
  have e1 : s1E B off 0 = 0 := rvE_zero e2
  have c1 := rv_canon (off := s1O B off 0) hb (by have k := e2; unfold s2E at k; rwa [e1] at k)
  have hB : lfBLaw B off 0 = rvVLaw B (s1O B off 0) 0 := by unfold lfBLaw; rw [e1]
  have h2 : s2O B off 0 = rvOLaw B (s1O B off 0) 0 := by unfold s2O; rw [e1]
  have c0 := rv_canon (off := off) hb e1
  refine ⟨?_, by rw [hO]; exact c5.2.2.1⟩
  rw [c0.2.2.2, show rvOLaw B off 0 = s1O B off 0 from rfl, c1.2.2.2, ← h2, c2.2.2.2, ← h3, c3.2.2, ← h4, c4, c5.2.2.2, ← hS, ← hC, ← hB, ← hz, ← hO]
  unfold bareLaw jn3Law lfALaw
  simp only [List.append_assoc]
end Go.Abs

set_option linter.unusedVariables false
set_option linter.unusedSimpArgs false
set_option maxRecDepth 100000
set_option maxHeartbeats 4000000
namespace Go.Abs
open Go.Proofs Go.Proofs.Try
/-! ### any bytes, as a leaf -/
theorem small_nilU {P : Program} {gl : Nat → Option AVal} {f : FuncId} {args : List AVal} {T0 T1 : Tab} {vs : List AVal} {u : AVal} (j : Nat) (gg : Nat) (h : Small P gl f args T0 (.tuple [.agg vs, u]) T1) (hj : vs[j]? = some .nilSlice) :
    Small P gl f args T0 (.tuple [.agg (vs.set j (.slice 1 T1.length gg 0 0 none)), u]) (T1 ++ [some ⟨.ints .u8 [], gg, true, 5⟩]) := by
  intro ν w xs hr hvs
  refine (h ν w xs hr hvs).mono ?_
  rintro e w' ⟨x, ν', rfl, h1, h2, h3, h4⟩
  obtain ⟨l0, g1, g2, g3, g4, g5⟩ := h2.pushEmptyG .u8 5 gg
  refine ⟨x, upd ν' T1.length l0, rfl, ?_, g3, h3.trans (g4.b _), h4.sub g5⟩
  have h1' := h1.mono g4
  cases h1' with
  | tuple e1 e2 =>
    rename_i ys
    refine .tuple e1 fun i hi => ?_
    have hi2 := e2 i hi
    match i, hi, hi2 with
    | 0, _, hi2 =>
      have hi3 : VR (upd ν' T1.length l0) (.agg vs) (ys.getD 0 undef) := hi2
      show VR _ (.agg _) (ys.getD 0 undef)
      generalize ys.getD 0 undef = y0 at hi3 ⊢
      cases hi3 with
      | agg e1 e2 =>
        have hd : vs.getD j un = .nilSlice := by simp [List.getD, hj]
        have hv := VRs.set1 (v := .slice 1 T1.length gg 0 0 none) (j := j) (⟨by rw [Array.length_toList]; exact e1, fun i hi => by simpa using e2 i hi⟩ : VRs (upd ν' T1.length l0) vs _) (fun y hy => by
          rw [hd] at hy
          cases hy
          exact .sliceZ none (upd_same _ _ _) g1.symm (.inr ⟨rfl, by rw [g2]; exact Nat.le_refl _⟩))
        exact .agg (by simpa using hv.1) (fun i hi => by simpa using hv.2 i hi)
    | 1, _, hi2 => exact hi2
noncomputable def nS76 : Summary := sumI modeO (eN0 []) f76 [] 100 [none] []
theorem nS76_ok : SumOk prog (fun _ => none) 76 nS76 := sumI_ok eN0_ok hmN (fn := f76) (by kernel_rfl) (by kernel_rfl) [] FnOrc.nil 100 [none] []
end Go.Abs

set_option linter.unusedVariables false
set_option linter.unusedSimpArgs false
set_option maxRecDepth 100000
set_option maxHeartbeats 4000000
namespace Go.Abs
open Go.Proofs Go.Proofs.Try
/-! ### knows: closed -/
noncomputable def sumD (m : Mode) (E : Env) (PS : List (Nat × Summary)) (fn : Func) (fu : Nat) (j : Option Nat) (g t : Nat) (ds : List (Option Bool)) (wr : List Bool) : Summary := callR (fun args T0 => settled m (fnRunD E PS fn [] fu j g t args T0 ds)) wr
theorem sumD_ok {m : Mode} {E : Env} (hE : EnvOk E) (hm : E.P.follows .mixedOrders = true) {PS : List (Nat × Summary)} (hP : PsOk E.P E.gl PS) {f : FuncId} {fn : Func} (hf : E.P.funcs[f]? = some fn) (hb : fn.body.isSome = true)
    {g : FuncId} {gfn : Func} (hgf : E.P.funcs[g]? = some gfn) (hgn : (gfn.name == "runtime.NumGoroutine") = false) (hgb : gfn.body.isNone = false) {t : TypeId} (hC : CaughtOk E.P g t .i64) (fu : Nat) (j : Option Nat) (ds : List (Option Bool)) (wr : List Bool) : SumOk E.P E.gl f (sumD m E PS fn fu j g t ds wr) := by
  refine callR_ok (fun args T0 hc => ?_) wr
  obtain ⟨h1, h2, h3⟩ := settled_ok hc
  rw [h2, h3]
  exact fnRunD_small hE hm hP hf hb FnOrc.nil hgf hgn hgb hC h1
noncomputable def nK69 : Summary := sumI modeO eM0 f69 [] 100 [] []
theorem nK69_ok : SumOk prog (fun _ => none) 69 nK69 := sumI_ok eM0_ok hmN (fn := f69) (by kernel_rfl) (by kernel_rfl) [] FnOrc.nil 100 [] []
noncomputable def eK1 : Env := eN0 [(48, nS48), (69, nK69)]
theorem eK1_ok : EnvOk eK1 := envOf_ok tysN_ok (SumsOk.cons (fn := f48) nS48_ok (by kernel_rfl) (by kernel_rfl) (by kernel_rfl) (SumsOk.cons (fn := f69) nK69_ok (by kernel_rfl) (by kernel_rfl) (by kernel_rfl) trivial))
noncomputable def nK49 : Summary := sumI modeO eK1 f49 [] 400 [] []
theorem nK49_ok : SumOk prog (fun _ => none) 49 nK49 := sumI_ok eK1_ok hmN (fn := f49) (by kernel_rfl) (by kernel_rfl) [] FnOrc.nil 400 [] []
noncomputable def nK38 : Summary := sumI modeO (eN0 []) f38 [] 100 [] []
theorem nK38_ok : SumOk prog (fun _ => none) 38 nK38 := sumI_ok eN0_ok hmN (fn := f38) (by kernel_rfl) (by kernel_rfl) [] FnOrc.nil 100 [] []
noncomputable def nK89 : Summary := sumI modeO eC1 f89 [] 400 [] []
theorem nK89_ok : SumOk prog (fun _ => none) 89 nK89 := sumI_ok eC1_ok hmN (fn := f89) (by kernel_rfl) (by kernel_rfl) [] FnOrc.nil 400 [] []
noncomputable def nK73 : Summary := sumI modeO eC1 f73 [] 400 [] []
theorem nK73_ok : SumOk prog (fun _ => none) 73 nK73 := sumI_ok eC1_ok hmN (fn := f73) (by kernel_rfl) (by kernel_rfl) [] FnOrc.nil 400 [] []
noncomputable def eK2 : Env := eN0 [(89, nK89)]
theorem eK2_ok : EnvOk eK2 := envOf_ok tysN_ok (SumsOk.cons (fn := f89) nK89_ok (by kernel_rfl) (by kernel_rfl) (by kernel_rfl) trivial)
noncomputable def nK71 : Summary := sumI modeO eK2 f71 [] 400 [] []
theorem nK71_ok : SumOk prog (fun _ => none) 71 nK71 := sumI_ok eK2_ok hmN (fn := f71) (by kernel_rfl) (by kernel_rfl) [] FnOrc.nil 400 [] []
noncomputable def eK3 : Env := eN0 [(71, nK71), (73, nK73)]
theorem eK3_ok : EnvOk eK3 := envOf_ok tysN_ok (SumsOk.cons (fn := f71) nK71_ok (by kernel_rfl) (by kernel_rfl) (by kernel_rfl) (SumsOk.cons (fn := f73) nK73_ok (by kernel_rfl) (by kernel_rfl) (by kernel_rfl) trivial))
noncomputable def nK70 : Summary := sumI modeO eK3 f70 [] 400 [] [true, true, true, true, true, true, true, true]
theorem nK70_ok : SumOk prog (fun _ => none) 70 nK70 := sumI_ok eK3_ok hmN (fn := f70) (by kernel_rfl) (by kernel_rfl) [] FnOrc.nil 400 [] [true, true, true, true, true, true, true, true]
noncomputable def nK72 : Summary := sumI modeO eK3 f72 [] 400 [] [true, true, true, true, true, true, true, true]
theorem nK72_ok : SumOk prog (fun _ => none) 72 nK72 := sumI_ok eK3_ok hmN (fn := f72) (by kernel_rfl) (by kernel_rfl) [] FnOrc.nil 400 [] [true, true, true, true, true, true, true, true]
noncomputable def eK4 : Env := eN0 [(38, nK38), (49, nK49), (70, nK70), (72, nK72)]
theorem eK4_ok : EnvOk eK4 := envOf_ok tysN_ok (SumsOk.cons (fn := f38) nK38_ok (by kernel_rfl) (by kernel_rfl) (by kernel_rfl) (SumsOk.cons (fn := f49) nK49_ok (by kernel_rfl) (by kernel_rfl) (by kernel_rfl) (SumsOk.cons (fn := f70) nK70_ok (by kernel_rfl) (by kernel_rfl) (by kernel_rfl) (SumsOk.cons (fn := f72) nK72_ok (by kernel_rfl) (by kernel_rfl) (by kernel_rfl) trivial))))
noncomputable def nK21 : Summary := sumD modeO eK4 [] f21 400 none 36 28 [] []
theorem nK21_ok : SumOk prog (fun _ => none) 21 nK21 := sumD_ok eK4_ok hmN PsOk.nil (fn := f21) (by kernel_rfl) (by kernel_rfl) (gfn := f36) (by kernel_rfl) (by kernel_rfl) (by kernel_rfl) caughtN 400 none [] []
noncomputable def nKP37 : Summary := sumP modeO eM1 psN1 f37 400 1 [] []
theorem nKP37_ok : SumOkP prog (fun _ => none) 37 nKP37 := sumP_ok eM1_ok hmN psN1_ok (fn := f37) (by kernel_rfl) 400 1 [] []
noncomputable def psK : List (Nat × Summary) := [(37, nKP37)]
theorem psK_ok : PsOk prog (fun _ => none) psK := (PsOk.cons (fn := f37) nKP37_ok (by kernel_rfl) (by kernel_rfl) (by kernel_rfl) PsOk.nil)
noncomputable def nK11 : Summary := sumD modeO (eN0 []) psK f11 400 (some 0) 36 28 [] []
theorem nK11_ok : SumOk prog (fun _ => none) 11 nK11 := sumD_ok eN0_ok hmN psK_ok (fn := f11) (by kernel_rfl) (by kernel_rfl) (gfn := f36) (by kernel_rfl) (by kernel_rfl) (by kernel_rfl) caughtN 400 (some 0) [] []
noncomputable def nK54 : Summary := sumI modeO eC1 f54 [] 400 [] [true, true]
theorem nK54_ok : SumOk prog (fun _ => none) 54 nK54 := sumI_ok eC1_ok hmN (fn := f54) (by kernel_rfl) (by kernel_rfl) [] FnOrc.nil 400 [] [true, true]
noncomputable def nK79 : Summary := sumI modeO eC1 f79 [] 400 [] [true, true]
theorem nK79_ok : SumOk prog (fun _ => none) 79 nK79 := sumI_ok eC1_ok hmN (fn := f79) (by kernel_rfl) (by kernel_rfl) [] FnOrc.nil 400 [] [true, true]
noncomputable def nK80 : Summary := sumI modeO eC1 f80 [] 400 [] [true, true]
theorem nK80_ok : SumOk prog (fun _ => none) 80 nK80 := sumI_ok eC1_ok hmN (fn := f80) (by kernel_rfl) (by kernel_rfl) [] FnOrc.nil 400 [] [true, true]
noncomputable def eK5 : Env := eN0 [(78, S35), (79, nK79), (80, nK80)]
theorem eK5_ok : EnvOk eK5 := envOf_ok tysN_ok (SumsOk.cons (fn := f78) S35_ok (by kernel_rfl) (by kernel_rfl) (by kernel_rfl) (SumsOk.cons (fn := f79) nK79_ok (by kernel_rfl) (by kernel_rfl) (by kernel_rfl) (SumsOk.cons (fn := f80) nK80_ok (by kernel_rfl) (by kernel_rfl) (by kernel_rfl) trivial)))
noncomputable def nK52 : Summary := sumI modeO eK5 f52 [] 400 [] [true, true]
theorem nK52_ok : SumOk prog (fun _ => none) 52 nK52 := sumI_ok eK5_ok hmN (fn := f52) (by kernel_rfl) (by kernel_rfl) [] FnOrc.nil 400 [] [true, true]
noncomputable def nK42 : Summary := sumI modeO eC1 f42 [] 400 [] []
theorem nK42_ok : SumOk prog (fun _ => none) 42 nK42 := sumI_ok eC1_ok hmN (fn := f42) (by kernel_rfl) (by kernel_rfl) [] FnOrc.nil 400 [] []
noncomputable def nK75 : Summary := sumI modeO eC1 f75 [] 400 [] []
theorem nK75_ok : SumOk prog (fun _ => none) 75 nK75 := sumI_ok eC1_ok hmN (fn := f75) (by kernel_rfl) (by kernel_rfl) [] FnOrc.nil 400 [] []
noncomputable def eK6 : Env := eN0 [(52, nK52), (54, nK54)]
theorem eK6_ok : EnvOk eK6 := envOf_ok tysN_ok (SumsOk.cons (fn := f52) nK52_ok (by kernel_rfl) (by kernel_rfl) (by kernel_rfl) (SumsOk.cons (fn := f54) nK54_ok (by kernel_rfl) (by kernel_rfl) (by kernel_rfl) trivial))
noncomputable def nK44 : Summary := sumI modeO eK6 f44 [] 400 [] [true, true]
theorem nK44_ok : SumOk prog (fun _ => none) 44 nK44 := sumI_ok eK6_ok hmN (fn := f44) (by kernel_rfl) (by kernel_rfl) [] FnOrc.nil 400 [] [true, true]
noncomputable def eK7 : Env := eN0 [(11, nK11), (75, nK75), (76, nS76)]
theorem eK7_ok : EnvOk eK7 := envOf_ok tysN_ok (SumsOk.cons (fn := f11) nK11_ok (by kernel_rfl) (by kernel_rfl) (by kernel_rfl) (SumsOk.cons (fn := f75) nK75_ok (by kernel_rfl) (by kernel_rfl) (by kernel_rfl) (SumsOk.cons (fn := f76) nS76_ok (by kernel_rfl) (by kernel_rfl) (by kernel_rfl) trivial)))
noncomputable def nK43 : Summary := sumI modeO eK7 f43 [] 400 [] [true, true]
theorem nK43_ok : SumOk prog (fun _ => none) 43 nK43 := sumI_ok eK7_ok hmN (fn := f43) (by kernel_rfl) (by kernel_rfl) [] FnOrc.nil 400 [] [true, true]
noncomputable def eK8 : Env := eN0 [(11, nK11), (42, nK42), (43, nK43), (44, nK44)]
theorem eK8_ok : EnvOk eK8 := envOf_ok tysN_ok (SumsOk.cons (fn := f11) nK11_ok (by kernel_rfl) (by kernel_rfl) (by kernel_rfl) (SumsOk.cons (fn := f42) nK42_ok (by kernel_rfl) (by kernel_rfl) (by kernel_rfl) (SumsOk.cons (fn := f43) nK43_ok (by kernel_rfl) (by kernel_rfl) (by kernel_rfl) (SumsOk.cons (fn := f44) nK44_ok (by kernel_rfl) (by kernel_rfl) (by kernel_rfl) trivial))))
noncomputable def nK13 : Summary := sumI modeO eK8 f13 [] 400 [] []
theorem nK13_ok : SumOk prog (fun _ => none) 13 nK13 := sumI_ok eK8_ok hmN (fn := f13) (by kernel_rfl) (by kernel_rfl) [] FnOrc.nil 400 [] []
noncomputable def nS15 : Summary := sumI modeO (eN0 []) f15 [] 100 [] []
theorem nS15_ok : SumOk prog (fun _ => none) 15 nS15 := sumI_ok eN0_ok hmN (fn := f15) (by kernel_rfl) (by kernel_rfl) [] FnOrc.nil 100 [] []
noncomputable def eK9 : Env := eN0 [(13, nK13), (15, nS15), (21, nK21)]
theorem eK9_ok : EnvOk eK9 := envOf_ok tysN_ok (SumsOk.cons (fn := f13) nK13_ok (by kernel_rfl) (by kernel_rfl) (by kernel_rfl) (SumsOk.cons (fn := f15) nS15_ok (by kernel_rfl) (by kernel_rfl) (by kernel_rfl) (SumsOk.cons (fn := f21) nK21_ok (by kernel_rfl) (by kernel_rfl) (by kernel_rfl) trivial)))
noncomputable def nR18  : Res := runF eK9 f18 [] 400 [] [] []
theorem nR18_ok  (h : allP [.p (false = false)]) : OkR (nR18 ) := OkR.dem (fl := bitsF 551 7371020360977896977605543466355265924447336027859925290944262381934006966883000275170270827045359166853507920627165347590711107782339653775546887874486502804798046207) (by kernel_rfl) (by kernel_rfl) (by kernel_rfl) h
theorem nR18_val  : (nR18 ).val = .bool true := by kernel_rfl
noncomputable def nsm18c (args : List AVal) (T : Tab)  : Res := ⟨[.tab T [], .val (.tuple args) (.tuple [])], .bool true, []⟩
theorem nsm18c_ok {args : List AVal} {T : Tab}  (h : allP (nsm18c args T ).cs) : Small prog (fun _ => none) 18 args T (nsm18c args T ).val (nsm18c args T ).tab := by
  obtain ⟨hT, hv, _⟩ := h
  simp only [Con.h] at hT hv
  injection hv with hv
  subst hT hv
  show Small prog (fun _ => none) 18 [] [] (.bool true) []
  have h := small_of (R := nR18) eK9_ok hmN (f := 18) (fn := f18) (by kernel_rfl) (by kernel_rfl) FnOrc.nil rfl (nR18_ok (by simp [allP, Con.h])) nR18_val rfl
  exact small_drop h
noncomputable def nsm18 : Summary := fun args T => nsm18c args T 
theorem nsm18_ok : SmOk prog (fun _ => none) 18 nsm18 := fun args T h => nsm18c_ok h
noncomputable def nS18 : Summary := callR nsm18 []
theorem nS18_ok : SumOk prog (fun _ => none) 18 nS18 := callR_ok nsm18_ok _
end Go.Abs

set_option linter.unusedVariables false
set_option linter.unusedSimpArgs false
set_option maxRecDepth 100000
set_option maxHeartbeats 4000000
namespace Go.Abs
open Go.Proofs Go.Proofs.Try
/-! ### copies, and whether they are the same -/
noncomputable def nS35 : Summary := sumI modeO (eN0 []) f35 [] 100 [] []
theorem nS35_ok : SumOk prog (fun _ => none) 35 nS35 := sumI_ok eN0_ok hmN (fn := f35) (by kernel_rfl) (by kernel_rfl) [] FnOrc.nil 100 [] []
noncomputable def eL10 : Env := eN0 [(35, nS35)]
theorem eL10_ok : EnvOk eL10 := envOf_ok tysN_ok (SumsOk.cons (fn := f35) nS35_ok (by kernel_rfl) (by kernel_rfl) (by kernel_rfl) trivial)
noncomputable def nR10 (a : List Int) (b : List Int) (c : List Int) (d : List Int) (z : List Int) (g1 : Nat) (g2 : Nat) (g3 : Nat) (g4 : Nat) (g5 : Nat) (n1 : Nat) (n2 : Nat) (n3 : Nat) (n4 : Nat) (n5 : Nat) (c1 : Option Nat) (c2 : Option Nat) (c3 : Option Nat) (c4 : Option Nat) (c5 : Option Nat) (o1 : Bool) (o2 : Bool) (o3 : Bool) (o4 : Bool) (o5 : Bool) (s : Int) : Res := resG 5 [0, 1, 2, 3, 4, 7, 8, 9, 10, 11] (runF eL10 f10 [] 400 [.agg [.slice 1 0 g1 0 n1 c1, .slice 1 1 g2 0 n2 c2, .slice 1 2 g3 0 n3 c3, .int .i64 s, .slice 1 3 g4 0 n4 c4, .slice 1 4 g5 0 n5 c5]] [some ⟨.ints .u8 a, g1, o1, 5⟩, some ⟨.ints .u8 b, g2, o2, 5⟩, some ⟨.ints .u8 c, g3, o3, 5⟩, some ⟨.ints .u8 d, g4, o4, 5⟩, some ⟨.ints .u8 z, g5, o5, 5⟩] [])
theorem nR10_ok {a : List Int} {b : List Int} {c : List Int} {d : List Int} {z : List Int} {g1 : Nat} {g2 : Nat} {g3 : Nat} {g4 : Nat} {g5 : Nat} {n1 : Nat} {n2 : Nat} {n3 : Nat} {n4 : Nat} {n5 : Nat} {c1 : Option Nat} {c2 : Option Nat} {c3 : Option Nat} {c4 : Option Nat} {c5 : Option Nat} {o1 : Bool} {o2 : Bool} {o3 : Bool} {o4 : Bool} {o5 : Bool} {s : Int} (h : allP [.eqN g1 g1, .leN n1
 140737488355328, .eqN g1 g1, .leN (0 + n1) a.length, .eqN g2 g2, .leN n2 140737488355328, .eqN g2 g2, .leN (0 + n2) b.length, .eqN g3 g3, .leN n3 140737488355328, .eqN g3 g3, .leN (0 + n3) c.length, .eqN g4 g4, .leN n4 140737488355328, .eqN g4 g4, .leN (0 + n4) d.length, .eqN g5 g5, .leN n5 140737488355328, .eqN g5 g5, .leN (0 + n5) z.length]) : OkR (nR10 a b c d z g1 g2 g3 g4 g5 n1 n2 n3 n4 n5 c1
 c2 c3 c4 c5 o1 o2 o3 o4 o5 s) := OkR.dem (fl := bitsF 158 319702980131707775241976909664992404520137877742) (by kernel_rfl) (by kernel_rfl) (by kernel_rfl) h
theorem nR10_val {a : List Int} {b : List Int} {c : List Int} {d : List Int} {z : List Int} {g1 : Nat} {g2 : Nat} {g3 : Nat} {g4 : Nat} {g5 : Nat} {n1 : Nat} {n2 : Nat} {n3 : Nat} {n4 : Nat} {n5 : Nat} {c1 : Option Nat} {c2 : Option Nat} {c3 : Option Nat} {c4 : Option Nat} {c5 : Option Nat} {o1 : Bool} {o2 : Bool} {o3 : Bool} {o4 : Bool} {o5 : Bool} {s : Int} : (nR10 a b c d z g1 g2 g3 g4 g5 n1 n2
 n3 n4 n5 c1 c2 c3 c4 c5 o1 o2 o3 o4 o5 s).val = .agg [.slice 1 5 1 0 n1 none, .slice 1 6 1 0 n2 none, .slice 1 7 1 0 n3 none, .int .i64 s, .slice 1 8 1 0 n4 none, .slice 1 9 1 0 n5 none] := by kernel_rfl
theorem nR10_tab {a : List Int} {b : List Int} {c : List Int} {d : List Int} {z : List Int} {g1 : Nat} {g2 : Nat} {g3 : Nat} {g4 : Nat} {g5 : Nat} {n1 : Nat} {n2 : Nat} {n3 : Nat} {n4 : Nat} {n5 : Nat} {c1 : Option Nat} {c2 : Option Nat} {c3 : Option Nat} {c4 : Option Nat} {c5 : Option Nat} {o1 : Bool} {o2 : Bool} {o3 : Bool} {o4 : Bool} {o5 : Bool} {s : Int} : (nR10 a b c d z g1 g2 g3 g4 g5 n1 n2
 n3 n4 n5 c1 c2 c3 c4 c5 o1 o2 o3 o4 o5 s).tab = [some ⟨.ints .u8 a, g1, o1, 5⟩, some ⟨.ints .u8 b, g2, o2, 5⟩, some ⟨.ints .u8 c, g3, o3, 5⟩, some ⟨.ints .u8 d, g4, o4, 5⟩, some ⟨.ints .u8 z, g5, o5, 5⟩, some ⟨.ints .u8 ([] ++ List.take n1 a), 1, true, 5⟩, some ⟨.ints .u8 ([] ++ List.take n2 b), 1, true, 5⟩, some ⟨.ints .u8 ([] ++ List.take n3 c), 1, true, 5⟩, some ⟨.ints .u8 ([] ++ List.take n4
 d), 1, true, 5⟩, some ⟨.ints .u8 ([] ++ List.take n5 z), 1, true, 5⟩] := by kernel_rfl
noncomputable def nsm10c (args : List AVal) (T : Tab) (a : List Int) (b : List Int) (c : List Int) (d : List Int) (z : List Int) (g1 : Nat) (g2 : Nat) (g3 : Nat) (g4 : Nat) (g5 : Nat) (n1 : Nat) (n2 : Nat) (n3 : Nat) (n4 : Nat) (n5 : Nat) (c1 : Option Nat) (c2 : Option Nat) (c3 : Option Nat) (c4 : Option Nat) (c5 : Option Nat) (o1 : Bool) (o2 : Bool) (o3 : Bool) (o4 : Bool) (o5 : Bool) (s : Int) : Res := ⟨[.tab T [some ⟨.ints .u8 a, g1, o1, 5⟩, some ⟨.ints .u8 b, g2, o2, 5⟩, some ⟨.ints .u8 c, g3, o3, 5⟩, some ⟨.ints .u8 d, g4, o4, 5⟩, some ⟨.ints .u8 z, g5, o5, 5⟩], .val (.tuple args) (.tuple [.agg [.slice 1 0 g1 0 n1 c1, .slice 1 1 g2 0 n2 c2, .slice 1 2 g3 0 n3 c3, .int .i64 s, .slice 1 3 g4 0 n4 c4, .slice 1 4 g5 0 n5 c5]]), .leN n1 a.length, .leN n2 b.length, .leN n3 c.length, .leN n4 d.length, .leN n5 z.length, .leN n1 140737488355000, .leN n2 140737488355000, .leN n3 140737488355000, .leN n4 140737488355000, .leN n5 140737488355000], .agg [.slice 1 5 1 0 n1 none, .slice 1 6 1 0 n2 none, .slice 1 7 1 0 n3 none, .int .i64 s, .slice 1 8 1 0 n4 none, .slice 1 9 1 0 n5 none], [some ⟨.ints .u8 a, g1, o1, 5⟩, some ⟨.ints .u8 b, g2, o2, 5⟩, some ⟨.ints .u8 c, g3, o3, 5⟩, some ⟨.ints .u8 d, g4, o4, 5⟩, some ⟨.ints .u8 z, g5, o5, 5⟩, some ⟨.ints .u8 (List.take n1 a), 1, true, 5⟩, some ⟨.ints .u8 (List.take n2 b), 1, true, 5⟩, some ⟨.ints .u8 (List.take n3 c), 1, true, 5⟩, some ⟨.ints .u8 (List.take n4 d), 1, true, 5⟩, some ⟨.ints .u8 (List.take n5 z), 1, true, 5⟩]⟩
theorem nsm10c_ok {args : List AVal} {T : Tab} {a : List Int} {b : List Int} {c : List Int} {d : List Int} {z : List Int} {g1 : Nat} {g2 : Nat} {g3 : Nat} {g4 : Nat} {g5 : Nat} {n1 : Nat} {n2 : Nat} {n3 : Nat} {n4 : Nat} {n5 : Nat} {c1 : Option Nat} {c2 : Option Nat} {c3 : Option Nat} {c4 : Option Nat} {c5 : Option Nat} {o1 : Bool} {o2 : Bool} {o3 : Bool} {o4 : Bool} {o5 : Bool} {s : Int} (h : allP (nsm10c args T a b c d z g1 g2 g3 g4 g5 n1 n2 n3 n4 n5 c1 c2 c3 c4 c5 o1 o2 o3 o4 o5 s).cs) : Small prog (fun _ => none) 10 args T (nsm10c args T a b c d z g1 g2 g3 g4 g5 n1 n2 n3 n4 n5 c1 c2 c3 c4 c5 o1 o2 o3 o4 o5 s).val (nsm10c args T a b c d z g1 g2 g3 g4 g5 n1 n2 n3 n4 n5 c1 c2 c3 c4 c5 o1 o2 o3 o4 o5 s).tab := by
  obtain ⟨hT, hv, h1, h2, h3, h4, h5, h6, h7, h8, h9, h10, _⟩ := h
  simp only [Con.h] at hT hv h1 h2 h3 h4 h5 h6 h7 h8 h9 h10
  injection hv with hv
  subst hT hv
  show Small prog (fun _ => none) 10 [.agg [.slice 1 0 g1 0 n1 c1, .slice 1 1 g2 0 n2 c2, .slice 1 2 g3 0 n3 c3, .int .i64 s, .slice 1 3 g4 0 n4 c4, .slice 1 4 g5 0 n5 c5]] [some ⟨.ints .u8 a, g1, o1, 5⟩, some ⟨.ints .u8 b, g2, o2, 5⟩, some ⟨.ints .u8 c, g3, o3, 5⟩, some ⟨.ints .u8 d, g4, o4, 5⟩, some ⟨.ints .u8 z, g5, o5, 5⟩] (.agg [.slice 1 5 1 0 n1 none, .slice 1 6 1 0 n2 none, .slice 1 7 1 0 n3 none, .int .i64 s, .slice 1 8 1 0 n4 none, .slice 1 9 1 0 n5 none]) [some ⟨.ints .u8 a, g1, o1, 5⟩, some ⟨.ints .u8 b, g2, o2, 5⟩, some ⟨.ints .u8 c, g3, o3, 5⟩, some ⟨.ints .u8 d, g4, o4, 5⟩, some ⟨.ints .u8 z, g5, o5, 5⟩, some ⟨.ints .u8 (List.take n1 a), 1, true, 5⟩, some ⟨.ints .u8 (List.take n2 b), 1, true, 5⟩, some ⟨.ints .u8 (List.take n3 c), 1, true, 5⟩, some ⟨.ints .u8 (List.take n4 d), 1, true, 5⟩, some ⟨.ints .u8 (List.take n5 z), 1, true, 5⟩]
  refine small_ofG (R := nR10 a b c d z g1 g2 g3 g4 g5 n1 n2 n3 n4 n5 c1 c2 c3 c4 c5 o1 o2 o3 o4 o5 s) eL10_ok hmN (f := 10) (fn := f10) (by kernel_rfl) (by kernel_rfl) FnOrc.nil rfl (nR10_ok ?_) nR10_val ?_
  · simp only [allP, Con.h, eq_self, true_and, and_true, beq_iff_eq, beq_eq_false_iff_ne, ne_eq, decide_eq_true_eq, decide_eq_false_iff_not, Nat.zero_add]
    omega
  · rw [nR10_tab]
    simp only [List.nil_append]
noncomputable def nsm10 : Summary := fun args T => nsm10c args T (xsAt T 0) (xsAt T 1) (xsAt T 2) (xsAt T 3) (xsAt T 4) (gAt T 0) (gAt T 1) (gAt T 2) (gAt T 3) (gAt T 4) (lenOf ((vAt args 0).get 0)) (lenOf ((vAt args 0).get 1)) (lenOf ((vAt args 0).get 2)) (lenOf ((vAt args 0).get 4)) (lenOf ((vAt args 0).get 5)) (capOf ((vAt args 0).get 0)) (capOf ((vAt args 0).get 1)) (capOf ((vAt args 0).get 2)) (capOf ((vAt args 0).get 4)) (capOf ((vAt args 0).get 5)) (owAt T 0) (owAt T 1) (owAt T 2) (owAt T 3) (owAt T 4) (iOf ((vAt args 0).get 3))
theorem nsm10_ok : SmOk prog (fun _ => none) 10 nsm10 := fun args T h => nsm10c_ok h
noncomputable def nS10 : Summary := callR nsm10 []
theorem nS10_ok : SumOk prog (fun _ => none) 10 nS10 := callR_ok nsm10_ok _
noncomputable def nS16 : Summary := sumI modeO (eN0 []) f16 [] 400 [some true, some true, some true, some true, some true, some true] []
theorem nS16_ok : SumOk prog (fun _ => none) 16 nS16 := sumI_ok eN0_ok hmN (fn := f16) (by kernel_rfl) (by kernel_rfl) [] FnOrc.nil 400 [some true, some true, some true, some true, some true, some true] []
end Go.Abs

set_option linter.unusedVariables false
set_option linter.unusedSimpArgs false
set_option maxRecDepth 100000
set_option maxHeartbeats 4000000
namespace Go.Abs
open Go.Proofs Go.Proofs.Try
/-! ### may a package be? -/
def RightK (n1 n2 n3 n4 : Nat) (s : Int) (n5 n6 n7 : Nat) : Prop := n1 = 32 ∧ RightN n2 n3 n4 s n5 n6 ∧ s = 1 ∧ n7 = 64
instance (n1 n2 n3 n4 : Nat) (s : Int) (n5 n6 n7 : Nat) : Decidable (RightK n1 n2 n3 n4 s n5 n6 n7) := by unfold RightK; exact inferInstance
noncomputable def eM1b : Env := eN0 [(37, nS37), (48, nS48), (69, nS69)]
theorem eM1b_ok : EnvOk eM1b := envOf_ok tysN_ok (SumsOk.cons (fn := f37) nS37_ok (by kernel_rfl) (by kernel_rfl) (by kernel_rfl) (SumsOk.cons (fn := f48) nS48_ok (by kernel_rfl) (by kernel_rfl) (by kernel_rfl) (SumsOk.cons (fn := f69) nS69_ok (by kernel_rfl) (by kernel_rfl) (by kernel_rfl) trivial)))
noncomputable def psN1b : List (Nat × Summary) := [(37, nP37), (48, nP48), (69, nP69)]
theorem psN1b_ok : PsOk prog (fun _ => none) psN1b := (PsOk.cons (fn := f37) nP37_ok (by kernel_rfl) (by kernel_rfl) (by kernel_rfl) (PsOk.cons (fn := f48) nP48_ok (by kernel_rfl) (by kernel_rfl) (by kernel_rfl) (PsOk.cons (fn := f69) nP69_ok (by kernel_rfl) (by kernel_rfl) (by kernel_rfl) PsOk.nil)))
noncomputable def nR58 (x : List Int) (a : List Int) (b : List Int) (c : List Int) (d : List Int) (z : List Int) (y : List Int) (g1 : Nat) (g2 : Nat) (g3 : Nat) (g4 : Nat) (g5 : Nat) (g6 : Nat) (g7 : Nat) (n1 : Nat) (n2 : Nat) (n3 : Nat) (n4 : Nat) (n5 : Nat) (n6 : Nat) (n7 : Nat) (s : Int) : Res := runF eM1b f58 [] 400 [.agg [.slice 1 0 g1 0 n1 none, .slice 1 1 g2 0 n2 none, .slice 1 2 g3 0 n3 none, .slice 1 3 g4 0 n4 none, .int .i64 s, .slice 1 4 g5 0 n5 none, .slice 1 5 g6 0 n6 none, .slice 1 6 g7 0 n7 none]] [some ⟨.ints .u8 x, g1, false, 5⟩, some ⟨.ints .u8 a, g2, false, 5⟩, some ⟨.ints .u8 b, g3, false, 5⟩, some ⟨.ints .u8 c, g4, false, 5⟩, some ⟨.ints .u8 d, g5, false, 5⟩, some ⟨.ints .u8 z, g6, false, 5⟩, some ⟨.ints .u8 y, g7, false, 5⟩] [some true]
theorem nR58_ok {x : List Int} {a : List Int} {b : List Int} {c : List Int} {d : List Int} {z : List Int} {y : List Int} {g1 : Nat} {g2 : Nat} {g3 : Nat} {g4 : Nat} {g5 : Nat} {g6 : Nat} {g7 : Nat} {n1 : Nat} {n2 : Nat} {n3 : Nat} {n4 : Nat} {n5 : Nat} {n6 : Nat} {n7 : Nat} {s : Int} (h : allP [.eqN g1 g1, .eqN g1 g1, .p (((↑n1 : Int) == 32) = true), .eqN g2 g2, .eqN g3 g3, .eqN g4 g4, .eqN g5 g5,
 .eqN g6 g6, .p (n2 = 32 ∧ n3 = 32 ∧ n6 = 64 ∧ 1 ≤ n4 ∧ n4 ≤ 64 ∧ 1 ≤ s ∧ s ≤ 3 ∧ (n5 = 0 ∨ n5 = 32 ∧ s = 3)), .p ((s == 1) = true), .eqN g7 g7, .eqN g7 g7, .p (((↑n7 : Int) == 64) = true)]) : OkR (nR58 x a b c d z y g1 g2 g3 g4 g5 g6 g7 n1 n2 n3 n4 n5 n6 n7 s) := OkR.dem (fl := bitsF 28 31326663) (by kernel_rfl) (by kernel_rfl) (by kernel_rfl) h
theorem nR58_val {x : List Int} {a : List Int} {b : List Int} {c : List Int} {d : List Int} {z : List Int} {y : List Int} {g1 : Nat} {g2 : Nat} {g3 : Nat} {g4 : Nat} {g5 : Nat} {g6 : Nat} {g7 : Nat} {n1 : Nat} {n2 : Nat} {n3 : Nat} {n4 : Nat} {n5 : Nat} {n6 : Nat} {n7 : Nat} {s : Int} : (nR58 x a b c d z y g1 g2 g3 g4 g5 g6 g7 n1 n2 n3 n4 n5 n6 n7 s).val = .tuple [] := by kernel_rfl
theorem nR58_tab {x : List Int} {a : List Int} {b : List Int} {c : List Int} {d : List Int} {z : List Int} {y : List Int} {g1 : Nat} {g2 : Nat} {g3 : Nat} {g4 : Nat} {g5 : Nat} {g6 : Nat} {g7 : Nat} {n1 : Nat} {n2 : Nat} {n3 : Nat} {n4 : Nat} {n5 : Nat} {n6 : Nat} {n7 : Nat} {s : Int} : (nR58 x a b c d z y g1 g2 g3 g4 g5 g6 g7 n1 n2 n3 n4 n5 n6 n7 s).tab = [some ⟨.ints .u8 x, g1, false, 5⟩, some
 ⟨.ints .u8 a, g2, false, 5⟩, some ⟨.ints .u8 b, g3, false, 5⟩, some ⟨.ints .u8 c, g4, false, 5⟩, some ⟨.ints .u8 d, g5, false, 5⟩, some ⟨.ints .u8 z, g6, false, 5⟩, some ⟨.ints .u8 y, g7, false, 5⟩, some ⟨.agg [.slice 1 0 g1 0 n1 none, .slice 1 1 g2 0 n2 none, .slice 1 2 g3 0 n3 none, .slice 1 3 g4 0 n4 none, .int .i64 s, .slice 1 4 g5 0 n5 none, .slice 1 5 g6 0 n6 none, .slice 1 6 g7 0 n7 none],
 0, true, 60⟩] := by kernel_rfl
noncomputable def nP58a (x : List Int) (a : List Int) (b : List Int) (c : List Int) (d : List Int) (z : List Int) (y : List Int) (g1 : Nat) (g2 : Nat) (g3 : Nat) (g4 : Nat) (g5 : Nat) (g6 : Nat) (g7 : Nat) (n1 : Nat) (n2 : Nat) (n3 : Nat) (n4 : Nat) (n5 : Nat) (n6 : Nat) (n7 : Nat) (s : Int) : Res := fnRunP eM1b psN1b f58 400 1 [.agg [.slice 1 0 g1 0 n1 none, .slice 1 1 g2 0 n2 none, .slice 1 2 g3 0 n3 none, .slice 1 3 g4 0 n4 none, .int .i64 s, .slice 1 4 g5 0 n5 none, .slice 1 5 g6 0 n6 none, .slice 1 6 g7 0 n7 none]] [some ⟨.ints .u8 x, g1, false, 5⟩, some ⟨.ints .u8 a, g2, false, 5⟩, some ⟨.ints .u8 b, g3, false, 5⟩, some ⟨.ints .u8 c, g4, false, 5⟩, some ⟨.ints .u8 d, g5, false, 5⟩, some ⟨.ints .u8 z, g6, false, 5⟩, some ⟨.ints .u8 y, g7, false, 5⟩] []
theorem nP58a_ok {x : List Int} {a : List Int} {b : List Int} {c : List Int} {d : List Int} {z : List Int} {y : List Int} {g1 : Nat} {g2 : Nat} {g3 : Nat} {g4 : Nat} {g5 : Nat} {g6 : Nat} {g7 : Nat} {n1 : Nat} {n2 : Nat} {n3 : Nat} {n4 : Nat} {n5 : Nat} {n6 : Nat} {n7 : Nat} {s : Int} (h : allP [.eqN g1 g1, .eqN g1 g1, .p (((↑n1 : Int) == 32) = false)]) : OkR (nP58a x a b c d z y g1 g2 g3 g4 g5 g6
 g7 n1 n2 n3 n4 n5 n6 n7 s) := OkR.dem (fl := [true, true, true, false, false, false]) (by kernel_rfl) (by kernel_rfl) (by kernel_rfl) h
theorem nP58a_val {x : List Int} {a : List Int} {b : List Int} {c : List Int} {d : List Int} {z : List Int} {y : List Int} {g1 : Nat} {g2 : Nat} {g3 : Nat} {g4 : Nat} {g5 : Nat} {g6 : Nat} {g7 : Nat} {n1 : Nat} {n2 : Nat} {n3 : Nat} {n4 : Nat} {n5 : Nat} {n6 : Nat} {n7 : Nat} {s : Int} : (nP58a x a b c d z y g1 g2 g3 g4 g5 g6 g7 n1 n2 n3 n4 n5 n6 n7 s).val = .iface 28 (.int .i64 1) := by kernel_rfl
theorem nP58a_tab {x : List Int} {a : List Int} {b : List Int} {c : List Int} {d : List Int} {z : List Int} {y : List Int} {g1 : Nat} {g2 : Nat} {g3 : Nat} {g4 : Nat} {g5 : Nat} {g6 : Nat} {g7 : Nat} {n1 : Nat} {n2 : Nat} {n3 : Nat} {n4 : Nat} {n5 : Nat} {n6 : Nat} {n7 : Nat} {s : Int} : (nP58a x a b c d z y g1 g2 g3 g4 g5 g6 g7 n1 n2 n3 n4 n5 n6 n7 s).tab = [some ⟨.ints .u8 x, g1, false, 5⟩, some
 ⟨.ints .u8 a, g2, false, 5⟩, some ⟨.ints .u8 b, g3, false, 5⟩, some ⟨.ints .u8 c, g4, false, 5⟩, some ⟨.ints .u8 d, g5, false, 5⟩, some ⟨.ints .u8 z, g6, false, 5⟩, some ⟨.ints .u8 y, g7, false, 5⟩, some ⟨.agg [.slice 1 0 g1 0 n1 none, .slice 1 1 g2 0 n2 none, .slice 1 2 g3 0 n3 none, .slice 1 3 g4 0 n4 none, .int .i64 s, .slice 1 4 g5 0 n5 none, .slice 1 5 g6 0 n6 none, .slice 1 6 g7 0 n7 none],
 0, true, 60⟩] := by kernel_rfl
noncomputable def nP58b (x : List Int) (a : List Int) (b : List Int) (c : List Int) (d : List Int) (z : List Int) (y : List Int) (g1 : Nat) (g2 : Nat) (g3 : Nat) (g4 : Nat) (g5 : Nat) (g6 : Nat) (g7 : Nat) (n1 : Nat) (n2 : Nat) (n3 : Nat) (n4 : Nat) (n5 : Nat) (n6 : Nat) (n7 : Nat) (s : Int) : Res := fnRunP eM1b psN1b f58 400 2 [.agg [.slice 1 0 g1 0 n1 none, .slice 1 1 g2 0 n2 none, .slice 1 2 g3 0 n3 none, .slice 1 3 g4 0 n4 none, .int .i64 s, .slice 1 4 g5 0 n5 none, .slice 1 5 g6 0 n6 none, .slice 1 6 g7 0 n7 none]] [some ⟨.ints .u8 x, g1, false, 5⟩, some ⟨.ints .u8 a, g2, false, 5⟩, some ⟨.ints .u8 b, g3, false, 5⟩, some ⟨.ints .u8 c, g4, false, 5⟩, some ⟨.ints .u8 d, g5, false, 5⟩, some ⟨.ints .u8 z, g6, false, 5⟩, some ⟨.ints .u8 y, g7, false, 5⟩] []
theorem nP58b_ok {x : List Int} {a : List Int} {b : List Int} {c : List Int} {d : List Int} {z : List Int} {y : List Int} {g1 : Nat} {g2 : Nat} {g3 : Nat} {g4 : Nat} {g5 : Nat} {g6 : Nat} {g7 : Nat} {n1 : Nat} {n2 : Nat} {n3 : Nat} {n4 : Nat} {n5 : Nat} {n6 : Nat} {n7 : Nat} {s : Int} (h : allP [.eqN g1 g1, .eqN g1 g1, .p (((↑n1 : Int) == 32) = true), .eqN g2 g2, .eqN g3 g3, .eqN g4 g4, .eqN g5 g5,
 .eqN g6 g6, .p ¬(n2 = 32 ∧ n3 = 32 ∧ n6 = 64 ∧ 1 ≤ n4 ∧ n4 ≤ 64 ∧ 1 ≤ s ∧ s ≤ 3 ∧ (n5 = 0 ∨ n5 = 32 ∧ s = 3))]) : OkR (nP58b x a b c d z y g1 g2 g3 g4 g5 g6 g7 n1 n2 n3 n4 n5 n6 n7 s) := OkR.dem (fl := bitsF 17 455) (by kernel_rfl) (by kernel_rfl) (by kernel_rfl) h
theorem nP58b_val {x : List Int} {a : List Int} {b : List Int} {c : List Int} {d : List Int} {z : List Int} {y : List Int} {g1 : Nat} {g2 : Nat} {g3 : Nat} {g4 : Nat} {g5 : Nat} {g6 : Nat} {g7 : Nat} {n1 : Nat} {n2 : Nat} {n3 : Nat} {n4 : Nat} {n5 : Nat} {n6 : Nat} {n7 : Nat} {s : Int} : (nP58b x a b c d z y g1 g2 g3 g4 g5 g6 g7 n1 n2 n3 n4 n5 n6 n7 s).val = .iface 28 (.int .i64 1) := by kernel_rfl
theorem nP58b_tab {x : List Int} {a : List Int} {b : List Int} {c : List Int} {d : List Int} {z : List Int} {y : List Int} {g1 : Nat} {g2 : Nat} {g3 : Nat} {g4 : Nat} {g5 : Nat} {g6 : Nat} {g7 : Nat} {n1 : Nat} {n2 : Nat} {n3 : Nat} {n4 : Nat} {n5 : Nat} {n6 : Nat} {n7 : Nat} {s : Int} : (nP58b x a b c d z y g1 g2 g3 g4 g5 g6 g7 n1 n2 n3 n4 n5 n6 n7 s).tab = [some ⟨.ints .u8 x, g1, false, 5⟩, some
 ⟨.ints .u8 a, g2, false, 5⟩, some ⟨.ints .u8 b, g3, false, 5⟩, some ⟨.ints .u8 c, g4, false, 5⟩, some ⟨.ints .u8 d, g5, false, 5⟩, some ⟨.ints .u8 z, g6, false, 5⟩, some ⟨.ints .u8 y, g7, false, 5⟩, some ⟨.agg [.slice 1 0 g1 0 n1 none, .slice 1 1 g2 0 n2 none, .slice 1 2 g3 0 n3 none, .slice 1 3 g4 0 n4 none, .int .i64 s, .slice 1 4 g5 0 n5 none, .slice 1 5 g6 0 n6 none, .slice 1 6 g7 0 n7 none],
 0, true, 60⟩] := by kernel_rfl
noncomputable def nP58c (x : List Int) (a : List Int) (b : List Int) (c : List Int) (d : List Int) (z : List Int) (y : List Int) (g1 : Nat) (g2 : Nat) (g3 : Nat) (g4 : Nat) (g5 : Nat) (g6 : Nat) (g7 : Nat) (n1 : Nat) (n2 : Nat) (n3 : Nat) (n4 : Nat) (n5 : Nat) (n6 : Nat) (n7 : Nat) (s : Int) : Res := fnRunP eM1b psN1b f58 400 3 [.agg [.slice 1 0 g1 0 n1 none, .slice 1 1 g2 0 n2 none, .slice 1 2 g3 0 n3 none, .slice 1 3 g4 0 n4 none, .int .i64 s, .slice 1 4 g5 0 n5 none, .slice 1 5 g6 0 n6 none, .slice 1 6 g7 0 n7 none]] [some ⟨.ints .u8 x, g1, false, 5⟩, some ⟨.ints .u8 a, g2, false, 5⟩, some ⟨.ints .u8 b, g3, false, 5⟩, some ⟨.ints .u8 c, g4, false, 5⟩, some ⟨.ints .u8 d, g5, false, 5⟩, some ⟨.ints .u8 z, g6, false, 5⟩, some ⟨.ints .u8 y, g7, false, 5⟩] [some false]
theorem nP58c_ok {x : List Int} {a : List Int} {b : List Int} {c : List Int} {d : List Int} {z : List Int} {y : List Int} {g1 : Nat} {g2 : Nat} {g3 : Nat} {g4 : Nat} {g5 : Nat} {g6 : Nat} {g7 : Nat} {n1 : Nat} {n2 : Nat} {n3 : Nat} {n4 : Nat} {n5 : Nat} {n6 : Nat} {n7 : Nat} {s : Int} (h : allP [.eqN g1 g1, .eqN g1 g1, .p (((↑n1 : Int) == 32) = true), .eqN g2 g2, .eqN g3 g3, .eqN g4 g4, .eqN g5 g5,
 .eqN g6 g6, .p (n2 = 32 ∧ n3 = 32 ∧ n6 = 64 ∧ 1 ≤ n4 ∧ n4 ≤ 64 ∧ 1 ≤ s ∧ s ≤ 3 ∧ (n5 = 0 ∨ n5 = 32 ∧ s = 3)), .p ((s == 1) = false)]) : OkR (nP58c x a b c d z y g1 g2 g3 g4 g5 g6 g7 n1 n2 n3 n4 n5 n6 n7 s) := OkR.dem (fl := bitsF 22 1966535) (by kernel_rfl) (by kernel_rfl) (by kernel_rfl) h
theorem nP58c_val {x : List Int} {a : List Int} {b : List Int} {c : List Int} {d : List Int} {z : List Int} {y : List Int} {g1 : Nat} {g2 : Nat} {g3 : Nat} {g4 : Nat} {g5 : Nat} {g6 : Nat} {g7 : Nat} {n1 : Nat} {n2 : Nat} {n3 : Nat} {n4 : Nat} {n5 : Nat} {n6 : Nat} {n7 : Nat} {s : Int} : (nP58c x a b c d z y g1 g2 g3 g4 g5 g6 g7 n1 n2 n3 n4 n5 n6 n7 s).val = .iface 28 (.int .i64 1) := by kernel_rfl
theorem nP58c_tab {x : List Int} {a : List Int} {b : List Int} {c : List Int} {d : List Int} {z : List Int} {y : List Int} {g1 : Nat} {g2 : Nat} {g3 : Nat} {g4 : Nat} {g5 : Nat} {g6 : Nat} {g7 : Nat} {n1 : Nat} {n2 : Nat} {n3 : Nat} {n4 : Nat} {n5 : Nat} {n6 : Nat} {n7 : Nat} {s : Int} : (nP58c x a b c d z y g1 g2 g3 g4 g5 g6 g7 n1 n2 n3 n4 n5 n6 n7 s).tab = [some ⟨.ints .u8 x, g1, false, 5⟩, some
 ⟨.ints .u8 a, g2, false, 5⟩, some ⟨.ints .u8 b, g3, false, 5⟩, some ⟨.ints .u8 c, g4, false, 5⟩, some ⟨.ints .u8 d, g5, false, 5⟩, some ⟨.ints .u8 z, g6, false, 5⟩, some ⟨.ints .u8 y, g7, false, 5⟩, some ⟨.agg [.slice 1 0 g1 0 n1 none, .slice 1 1 g2 0 n2 none, .slice 1 2 g3 0 n3 none, .slice 1 3 g4 0 n4 none, .int .i64 s, .slice 1 4 g5 0 n5 none, .slice 1 5 g6 0 n6 none, .slice 1 6 g7 0 n7 none],
 0, true, 60⟩] := by kernel_rfl
noncomputable def nP58d (x : List Int) (a : List Int) (b : List Int) (c : List Int) (d : List Int) (z : List Int) (y : List Int) (g1 : Nat) (g2 : Nat) (g3 : Nat) (g4 : Nat) (g5 : Nat) (g6 : Nat) (g7 : Nat) (n1 : Nat) (n2 : Nat) (n3 : Nat) (n4 : Nat) (n5 : Nat) (n6 : Nat) (n7 : Nat) (s : Int) : Res := fnRunP eM1b psN1b f58 400 4 [.agg [.slice 1 0 g1 0 n1 none, .slice 1 1 g2 0 n2 none, .slice 1 2 g3 0 n3 none, .slice 1 3 g4 0 n4 none, .int .i64 s, .slice 1 4 g5 0 n5 none, .slice 1 5 g6 0 n6 none, .slice 1 6 g7 0 n7 none]] [some ⟨.ints .u8 x, g1, false, 5⟩, some ⟨.ints .u8 a, g2, false, 5⟩, some ⟨.ints .u8 b, g3, false, 5⟩, some ⟨.ints .u8 c, g4, false, 5⟩, some ⟨.ints .u8 d, g5, false, 5⟩, some ⟨.ints .u8 z, g6, false, 5⟩, some ⟨.ints .u8 y, g7, false, 5⟩] [some true]
theorem nP58d_ok {x : List Int} {a : List Int} {b : List Int} {c : List Int} {d : List Int} {z : List Int} {y : List Int} {g1 : Nat} {g2 : Nat} {g3 : Nat} {g4 : Nat} {g5 : Nat} {g6 : Nat} {g7 : Nat} {n1 : Nat} {n2 : Nat} {n3 : Nat} {n4 : Nat} {n5 : Nat} {n6 : Nat} {n7 : Nat} {s : Int} (h : allP [.eqN g1 g1, .eqN g1 g1, .p (((↑n1 : Int) == 32) = true), .eqN g2 g2, .eqN g3 g3, .eqN g4 g4, .eqN g5 g5,
 .eqN g6 g6, .p (n2 = 32 ∧ n3 = 32 ∧ n6 = 64 ∧ 1 ≤ n4 ∧ n4 ≤ 64 ∧ 1 ≤ s ∧ s ≤ 3 ∧ (n5 = 0 ∨ n5 = 32 ∧ s = 3)), .p ((s == 1) = true), .eqN g7 g7, .eqN g7 g7, .p (((↑n7 : Int) == 64) = false)]) : OkR (nP58d x a b c d z y g1 g2 g3 g4 g5 g6 g7 n1 n2 n3 n4 n5 n6 n7 s) := OkR.dem (fl := bitsF 28 31326663) (by kernel_rfl) (by kernel_rfl) (by kernel_rfl) h
theorem nP58d_val {x : List Int} {a : List Int} {b : List Int} {c : List Int} {d : List Int} {z : List Int} {y : List Int} {g1 : Nat} {g2 : Nat} {g3 : Nat} {g4 : Nat} {g5 : Nat} {g6 : Nat} {g7 : Nat} {n1 : Nat} {n2 : Nat} {n3 : Nat} {n4 : Nat} {n5 : Nat} {n6 : Nat} {n7 : Nat} {s : Int} : (nP58d x a b c d z y g1 g2 g3 g4 g5 g6 g7 n1 n2 n3 n4 n5 n6 n7 s).val = .iface 28 (.int .i64 1) := by kernel_rfl
theorem nP58d_tab {x : List Int} {a : List Int} {b : List Int} {c : List Int} {d : List Int} {z : List Int} {y : List Int} {g1 : Nat} {g2 : Nat} {g3 : Nat} {g4 : Nat} {g5 : Nat} {g6 : Nat} {g7 : Nat} {n1 : Nat} {n2 : Nat} {n3 : Nat} {n4 : Nat} {n5 : Nat} {n6 : Nat} {n7 : Nat} {s : Int} : (nP58d x a b c d z y g1 g2 g3 g4 g5 g6 g7 n1 n2 n3 n4 n5 n6 n7 s).tab = [some ⟨.ints .u8 x, g1, false, 5⟩, some
 ⟨.ints .u8 a, g2, false, 5⟩, some ⟨.ints .u8 b, g3, false, 5⟩, some ⟨.ints .u8 c, g4, false, 5⟩, some ⟨.ints .u8 d, g5, false, 5⟩, some ⟨.ints .u8 z, g6, false, 5⟩, some ⟨.ints .u8 y, g7, false, 5⟩, some ⟨.agg [.slice 1 0 g1 0 n1 none, .slice 1 1 g2 0 n2 none, .slice 1 2 g3 0 n3 none, .slice 1 3 g4 0 n4 none, .int .i64 s, .slice 1 4 g5 0 n5 none, .slice 1 5 g6 0 n6 none, .slice 1 6 g7 0 n7 none],
 0, true, 60⟩] := by kernel_rfl
noncomputable def nsm58c (args : List AVal) (T : Tab) (x : List Int) (a : List Int) (b : List Int) (c : List Int) (d : List Int) (z : List Int) (y : List Int) (g1 : Nat) (g2 : Nat) (g3 : Nat) (g4 : Nat) (g5 : Nat) (g6 : Nat) (g7 : Nat) (n1 : Nat) (n2 : Nat) (n3 : Nat) (n4 : Nat) (n5 : Nat) (n6 : Nat) (n7 : Nat) (s : Int) : Res := ⟨[.tab T [some ⟨.ints .u8 x, g1, false, 5⟩, some ⟨.ints .u8 a, g2, false, 5⟩, some ⟨.ints .u8 b, g3, false, 5⟩, some ⟨.ints .u8 c, g4, false, 5⟩, some ⟨.ints .u8 d, g5, false, 5⟩, some ⟨.ints .u8 z, g6, false, 5⟩, some ⟨.ints .u8 y, g7, false, 5⟩], .val (.tuple args) (.tuple [.agg [.slice 1 0 g1 0 n1 none, .slice 1 1 g2 0 n2 none, .slice 1 2 g3 0 n3 none, .slice 1 3 g4 0 n4 none, .int .i64 s, .slice 1 4 g5 0 n5 none, .slice 1 5 g6 0 n6 none, .slice 1 6 g7 0 n7 none]]), .p (RightK n1 n2 n3 n4 s n5 n6 n7)], un, [some ⟨.ints .u8 x, g1, false, 5⟩, some ⟨.ints .u8 a, g2, false, 5⟩, some ⟨.ints .u8 b, g3, false, 5⟩, some ⟨.ints .u8 c, g4, false, 5⟩, some ⟨.ints .u8 d, g5, false, 5⟩, some ⟨.ints .u8 z, g6, false, 5⟩, some ⟨.ints .u8 y, g7, false, 5⟩]⟩
theorem nsm58c_ok {args : List AVal} {T : Tab} {x : List Int} {a : List Int} {b : List Int} {c : List Int} {d : List Int} {z : List Int} {y : List Int} {g1 : Nat} {g2 : Nat} {g3 : Nat} {g4 : Nat} {g5 : Nat} {g6 : Nat} {g7 : Nat} {n1 : Nat} {n2 : Nat} {n3 : Nat} {n4 : Nat} {n5 : Nat} {n6 : Nat} {n7 : Nat} {s : Int} (h : allP (nsm58c args T x a b c d z y g1 g2 g3 g4 g5 g6 g7 n1 n2 n3 n4 n5 n6 n7 s).cs) : Small prog (fun _ => none) 58 args T (nsm58c args T x a b c d z y g1 g2 g3 g4 g5 g6 g7 n1 n2 n3 n4 n5 n6 n7 s).val (nsm58c args T x a b c d z y g1 g2 g3 g4 g5 g6 g7 n1 n2 n3 n4 n5 n6 n7 s).tab := by
  obtain ⟨hT, hv, h1, _⟩ := h
  simp only [Con.h] at hT hv h1
  injection hv with hv
  subst hT hv
  show Small prog (fun _ => none) 58 [.agg [.slice 1 0 g1 0 n1 none, .slice 1 1 g2 0 n2 none, .slice 1 2 g3 0 n3 none, .slice 1 3 g4 0 n4 none, .int .i64 s, .slice 1 4 g5 0 n5 none, .slice 1 5 g6 0 n6 none, .slice 1 6 g7 0 n7 none]] [some ⟨.ints .u8 x, g1, false, 5⟩, some ⟨.ints .u8 a, g2, false, 5⟩, some ⟨.ints .u8 b, g3, false, 5⟩, some ⟨.ints .u8 c, g4, false, 5⟩, some ⟨.ints .u8 d, g5, false, 5⟩, some ⟨.ints .u8 z, g6, false, 5⟩, some ⟨.ints .u8 y, g7, false, 5⟩] (un) [some ⟨.ints .u8 x, g1, false, 5⟩, some ⟨.ints .u8 a, g2, false, 5⟩, some ⟨.ints .u8 b, g3, false, 5⟩, some ⟨.ints .u8 c, g4, false, 5⟩, some ⟨.ints .u8 d, g5, false, 5⟩, some ⟨.ints .u8 z, g6, false, 5⟩, some ⟨.ints .u8 y, g7, false, 5⟩]
  have h1 : RightK n1 n2 n3 n4 s n5 n6 n7 := h1
  obtain ⟨q1, q2, q3, q4⟩ := h1
  exact small_drop (small_of (R := nR58 x a b c d z y g1 g2 g3 g4 g5 g6 g7 n1 n2 n3 n4 n5 n6 n7 s) eM1b_ok hmN (f := 58) (fn := f58) (by kernel_rfl) (by kernel_rfl) FnOrc.nil rfl (nR58_ok (by
      simp only [allP, Con.h, eq_self, true_and, and_true, beq_iff_eq, beq_eq_false_iff_ne, ne_eq, decide_eq_true_eq, decide_eq_false_iff_not]
      first | exact ⟨by omega, q2, by omega, by omega⟩ | (simp only [q2]; omega))) nR58_val nR58_tab)
noncomputable def nsm58 : Summary := fun args T => nsm58c args T (xsAt T 0) (xsAt T 1) (xsAt T 2) (xsAt T 3) (xsAt T 4) (xsAt T 5) (xsAt T 6) (gAt T 0) (gAt T 1) (gAt T 2) (gAt T 3) (gAt T 4) (gAt T 5) (gAt T 6) (lenOf ((vAt args 0).get 0)) (lenOf ((vAt args 0).get 1)) (lenOf ((vAt args 0).get 2)) (lenOf ((vAt args 0).get 3)) (lenOf ((vAt args 0).get 5)) (lenOf ((vAt args 0).get 6)) (lenOf ((vAt args 0).get 7)) (iOf ((vAt args 0).get 4))
theorem nsm58_ok : SmOk prog (fun _ => none) 58 nsm58 := fun args T h => nsm58c_ok h
noncomputable def nS58 : Summary := callR nsm58 []
theorem nS58_ok : SumOk prog (fun _ => none) 58 nS58 := callR_ok nsm58_ok []
noncomputable def nsm58pc (args : List AVal) (T : Tab) (x : List Int) (a : List Int) (b : List Int) (c : List Int) (d : List Int) (z : List Int) (y : List Int) (g1 : Nat) (g2 : Nat) (g3 : Nat) (g4 : Nat) (g5 : Nat) (g6 : Nat) (g7 : Nat) (n1 : Nat) (n2 : Nat) (n3 : Nat) (n4 : Nat) (n5 : Nat) (n6 : Nat) (n7 : Nat) (s : Int) : Res := ⟨[.tab T [some ⟨.ints .u8 x, g1, false, 5⟩, some ⟨.ints .u8 a, g2, false, 5⟩, some ⟨.ints .u8 b, g3, false, 5⟩, some ⟨.ints .u8 c, g4, false, 5⟩, some ⟨.ints .u8 d, g5, false, 5⟩, some ⟨.ints .u8 z, g6, false, 5⟩, some ⟨.ints .u8 y, g7, false, 5⟩], .val (.tuple args) (.tuple [.agg [.slice 1 0 g1 0 n1 none, .slice 1 1 g2 0 n2 none, .slice 1 2 g3 0 n3 none, .slice 1 3 g4 0 n4 none, .int .i64 s, .slice 1 4 g5 0 n5 none, .slice 1 5 g6 0 n6 none, .slice 1 6 g7 0 n7 none]]), .p (¬ RightK n1 n2 n3 n4 s n5 n6 n7)], (.iface 28 (.int .i64 1)), [some ⟨.ints .u8 x, g1, false, 5⟩, some ⟨.ints .u8 a, g2, false, 5⟩, some ⟨.ints .u8 b, g3, false, 5⟩, some ⟨.ints .u8 c, g4, false, 5⟩, some ⟨.ints .u8 d, g5, false, 5⟩, some ⟨.ints .u8 z, g6, false, 5⟩, some ⟨.ints .u8 y, g7, false, 5⟩]⟩
theorem nsm58pc_ok {args : List AVal} {T : Tab} {x : List Int} {a : List Int} {b : List Int} {c : List Int} {d : List Int} {z : List Int} {y : List Int} {g1 : Nat} {g2 : Nat} {g3 : Nat} {g4 : Nat} {g5 : Nat} {g6 : Nat} {g7 : Nat} {n1 : Nat} {n2 : Nat} {n3 : Nat} {n4 : Nat} {n5 : Nat} {n6 : Nat} {n7 : Nat} {s : Int} (h : allP (nsm58pc args T x a b c d z y g1 g2 g3 g4 g5 g6 g7 n1 n2 n3 n4 n5 n6 n7 s).cs) : SmallE finP prog (fun _ => none) 58 args T (nsm58pc args T x a b c d z y g1 g2 g3 g4 g5 g6 g7 n1 n2 n3 n4 n5 n6 n7 s).val (nsm58pc args T x a b c d z y g1 g2 g3 g4 g5 g6 g7 n1 n2 n3 n4 n5 n6 n7 s).tab := by
  obtain ⟨hT, hv, h1, _⟩ := h
  simp only [Con.h] at hT hv h1
  injection hv with hv
  subst hT hv
  show SmallE finP prog (fun _ => none) 58 [.agg [.slice 1 0 g1 0 n1 none, .slice 1 1 g2 0 n2 none, .slice 1 2 g3 0 n3 none, .slice 1 3 g4 0 n4 none, .int .i64 s, .slice 1 4 g5 0 n5 none, .slice 1 5 g6 0 n6 none, .slice 1 6 g7 0 n7 none]] [some ⟨.ints .u8 x, g1, false, 5⟩, some ⟨.ints .u8 a, g2, false, 5⟩, some ⟨.ints .u8 b, g3, false, 5⟩, some ⟨.ints .u8 c, g4, false, 5⟩, some ⟨.ints .u8 d, g5, false, 5⟩, some ⟨.ints .u8 z, g6, false, 5⟩, some ⟨.ints .u8 y, g7, false, 5⟩] ((.iface 28 (.int .i64 1))) [some ⟨.ints .u8 x, g1, false, 5⟩, some ⟨.ints .u8 a, g2, false, 5⟩, some ⟨.ints .u8 b, g3, false, 5⟩, some ⟨.ints .u8 c, g4, false, 5⟩, some ⟨.ints .u8 d, g5, false, 5⟩, some ⟨.ints .u8 z, g6, false, 5⟩, some ⟨.ints .u8 y, g7, false, 5⟩]
  have h1 : ¬ RightK n1 n2 n3 n4 s n5 n6 n7 := h1
  unfold RightK at h1
  by_cases qa : n1 = 32
  rotate_left
  · exact small_drop (small_ofP (R := nP58a x a b c d z y g1 g2 g3 g4 g5 g6 g7 n1 n2 n3 n4 n5 n6 n7 s) eM1b_ok hmN psN1b_ok (f := 58) (fn := f58) (by kernel_rfl) rfl (nP58a_ok (by
      simp only [allP, Con.h, eq_self, true_and, and_true, beq_iff_eq, beq_eq_false_iff_ne, ne_eq, decide_eq_true_eq, decide_eq_false_iff_not]
      omega)) nP58a_val nP58a_tab)
  by_cases qb : RightN n2 n3 n4 s n5 n6
  rotate_left
  · exact small_drop (small_ofP (R := nP58b x a b c d z y g1 g2 g3 g4 g5 g6 g7 n1 n2 n3 n4 n5 n6 n7 s) eM1b_ok hmN psN1b_ok (f := 58) (fn := f58) (by kernel_rfl) rfl (nP58b_ok (by
      simp only [allP, Con.h, eq_self, true_and, and_true, beq_iff_eq, beq_eq_false_iff_ne, ne_eq, decide_eq_true_eq, decide_eq_false_iff_not]
      first | exact ⟨by omega, qb⟩ | (simp only [qb]; omega))) nP58b_val nP58b_tab)
  by_cases qc : s = 1
  rotate_left
  · exact small_drop (small_ofP (R := nP58c x a b c d z y g1 g2 g3 g4 g5 g6 g7 n1 n2 n3 n4 n5 n6 n7 s) eM1b_ok hmN psN1b_ok (f := 58) (fn := f58) (by kernel_rfl) rfl (nP58c_ok (by
      simp only [allP, Con.h, eq_self, true_and, and_true, beq_iff_eq, beq_eq_false_iff_ne, ne_eq, decide_eq_true_eq, decide_eq_false_iff_not]
      first | exact ⟨by omega, qb, by omega⟩ | (simp only [qb]; omega))) nP58c_val nP58c_tab)
  by_cases qd : n7 = 64
  rotate_left
  · exact small_drop (small_ofP (R := nP58d x a b c d z y g1 g2 g3 g4 g5 g6 g7 n1 n2 n3 n4 n5 n6 n7 s) eM1b_ok hmN psN1b_ok (f := 58) (fn := f58) (by kernel_rfl) rfl (nP58d_ok (by
      simp only [allP, Con.h, eq_self, true_and, and_true, beq_iff_eq, beq_eq_false_iff_ne, ne_eq, decide_eq_true_eq, decide_eq_false_iff_not]
      first | exact ⟨by omega, qb, by omega, by omega⟩ | (simp only [qb]; omega))) nP58d_val nP58d_tab)
  exact absurd ⟨qa, qb, qc, qd⟩ h1
noncomputable def nsm58p : Summary := fun args T => nsm58pc args T (xsAt T 0) (xsAt T 1) (xsAt T 2) (xsAt T 3) (xsAt T 4) (xsAt T 5) (xsAt T 6) (gAt T 0) (gAt T 1) (gAt T 2) (gAt T 3) (gAt T 4) (gAt T 5) (gAt T 6) (lenOf ((vAt args 0).get 0)) (lenOf ((vAt args 0).get 1)) (lenOf ((vAt args 0).get 2)) (lenOf ((vAt args 0).get 3)) (lenOf ((vAt args 0).get 5)) (lenOf ((vAt args 0).get 6)) (lenOf ((vAt args 0).get 7)) (iOf ((vAt args 0).get 4))
theorem nsm58p_ok : SmOkP prog (fun _ => none) 58 nsm58p := fun args T h => nsm58pc_ok h
noncomputable def nP58 : Summary := callR nsm58p []
theorem nP58_ok : SumOkP prog (fun _ => none) 58 nP58 := callR_okP nsm58p_ok []
def oneLaw (s : Int) : Int := if s = 1 then 1 else 1
theorem one_eq (s : Int) : oneLaw s = 1 := by unfold oneLaw; split <;> rfl
def offerLaw (x a b c : List Int) (s : Int) (d z : List Int) : List Int := numLaw (oneLaw s) 2 ++ (numLaw (oneLaw s) 2 ++ (vec1Law x ++ (bareLaw a b c s d ++ vec1Law z)))
theorem offer_len (x a b c : List Int) (s : Int) (d z : List Int) : (offerLaw x a b c s d z).length ≤ x.length + a.length + b.length + c.length + d.length + z.length + 50 := by
  have hb := bare_len a b c s d
  have hX := lenLaw_len (x.length : Int)
  have hZ := lenLaw_len (z.length : Int)
  have hN := num_len 1 2
  unfold offerLaw vec1Law
  simp only [List.length_append, one_eq]
  omega
noncomputable def eM5b : Env := eN0 [(39, nS39), (70, nS70), (72, nS72)]
theorem eM5b_ok : EnvOk eM5b := envOf_ok tysN_ok (SumsOk.cons (fn := f39) nS39_ok (by kernel_rfl) (by kernel_rfl) (by kernel_rfl) (SumsOk.cons (fn := f70) nS70_ok (by kernel_rfl) (by kernel_rfl) (by kernel_rfl) (SumsOk.cons (fn := f72) nS72_ok (by kernel_rfl) (by kernel_rfl) (by kernel_rfl) trivial)))
noncomputable def nR59 (x : List Int) (a : List Int) (b : List Int) (c : List Int) (d : List Int) (z : List Int) (y : List Int) (g1 : Nat) (g2 : Nat) (g3 : Nat) (g4 : Nat) (g5 : Nat) (g6 : Nat) (g7 : Nat) (n1 : Nat) (n2 : Nat) (n3 : Nat) (n4 : Nat) (n5 : Nat) (n6 : Nat) (n7 : Nat) (s : Int) (X : List Int) (gC : Nat) (gW : Nat) (gB : Nat) (m : Nat) (owC : Bool) : Res := resG 10 [0, 1, 2, 3, 4, 5, 6, 7, 8, 9] (runF eM5b f59 [] 400 [.var 0 gW, .agg [.slice 1 1 g1 0 n1 none, .slice 1 2 g2 0 n2 none, .slice 1 3 g3 0 n3 none, .slice 1 4 g4 0 n4 none, .int .i64 s, .slice 1 5 g5 0 n5 none, .slice 1 6 g6 0 n6 none, .slice 1 7 g7 0 n7 none]] [some ⟨.agg [.slice 1 8 gB 0 m none, .func (.func 70) [] [.var 9 gC], .func (.func 72) [] [.var 9 gC]], gW, true, 81⟩, some ⟨.ints .u8 x, g1, false, 5⟩, some ⟨.ints .u8 a, g2, false, 5⟩, some ⟨.ints .u8 b, g3, false, 5⟩, some ⟨.ints .u8 c, g4, false, 5⟩, some ⟨.ints .u8 d, g5, false, 5⟩, some ⟨.ints .u8 z, g6, false, 5⟩, some ⟨.ints .u8 y, g7, false, 5⟩, some ⟨.ints .u8 X, gB, true, 5⟩, some ⟨.agg [.var 0 gW], gC, owC, 75⟩] [])
theorem nR59_ok {x : List Int} {a : List Int} {b : List Int} {c : List Int} {d : List Int} {z : List Int} {y : List Int} {g1 : Nat} {g2 : Nat} {g3 : Nat} {g4 : Nat} {g5 : Nat} {g6 : Nat} {g7 : Nat} {n1 : Nat} {n2 : Nat} {n3 : Nat} {n4 : Nat} {n5 : Nat} {n6 : Nat} {n7 : Nat} {s : Int} {X : List Int} {gC : Nat} {gW : Nat} {gB : Nat} {m : Nat} {owC : Bool} (h : allP [.eqN gW gW, .eqN gW gW, .eqN gW
 gW, .eqN gC gC, .eqN m X.length, .leN m 140737488000000, .eqN gW gW, .eqN gW gW, .eqN gW gW, .eqN gC gC, .eqN (X ++ numLaw 1 2).length (X ++ numLaw 1 2).length, .leN (X ++ numLaw 1 2).length 140737488000000, .eqN gW gW, .eqN gW gW, .eqN gW gW, .eqN gC gC, .eqN g1 g1, .leN n1 x.length, .leN n1 65536, .eqN (X ++ numLaw 1 2 ++ numLaw 1 2).length (X ++ numLaw 1 2 ++ numLaw 1 2).length, .leN (X ++
 numLaw 1 2 ++ numLaw 1 2).length 140737488000000, .eqN g2 g2, .eqN g3 g3, .eqN g4 g4, .eqN g5 g5, .eqN g6 g6, .eqN gC gC, .eqN n2 a.length, .eqN n3 b.length, .eqN n4 c.length, .eqN n5 d.length, .leN n2 65536, .leN n3 65536, .leN n4 65536, .leN n5 65536, .eqN (X ++ numLaw 1 2 ++ numLaw 1 2 ++ v1Law n1 x).length (X ++ numLaw 1 2 ++ numLaw 1 2 ++ v1Law n1 x).length, .leN (X ++ numLaw 1 2 ++ numLaw 1 2
 ++ v1Law n1 x).length 140737480000000, .eqN gW gW, .eqN gW gW, .eqN gW gW, .eqN gC gC, .eqN g6 g6, .leN n6 z.length, .leN n6 65536, .eqN (X ++ numLaw 1 2 ++ numLaw 1 2 ++ v1Law n1 x ++ bareLaw a b c s d).length (X ++ numLaw 1 2 ++ numLaw 1 2 ++ v1Law n1 x ++ bareLaw a b c s d).length, .leN (X ++ numLaw 1 2 ++ numLaw 1 2 ++ v1Law n1 x ++ bareLaw a b c s d).length 140737488000000]) : OkR (nR59 x a b
 c d z y g1 g2 g3 g4 g5 g6 g7 n1 n2 n3 n4 n5 n6 n7 s X gC gW gB m owC) := OkR.dem (fl := bitsF 84 28297305416768639995912) (by kernel_rfl) (by kernel_rfl) (by kernel_rfl) h
theorem nR59_val {x : List Int} {a : List Int} {b : List Int} {c : List Int} {d : List Int} {z : List Int} {y : List Int} {g1 : Nat} {g2 : Nat} {g3 : Nat} {g4 : Nat} {g5 : Nat} {g6 : Nat} {g7 : Nat} {n1 : Nat} {n2 : Nat} {n3 : Nat} {n4 : Nat} {n5 : Nat} {n6 : Nat} {n7 : Nat} {s : Int} {X : List Int} {gC : Nat} {gW : Nat} {gB : Nat} {m : Nat} {owC : Bool} : (nR59 x a b c d z y g1 g2 g3 g4 g5 g6 g7
 n1 n2 n3 n4 n5 n6 n7 s X gC gW gB m owC).val = .tuple [] := by kernel_rfl
theorem nR59_tab {x : List Int} {a : List Int} {b : List Int} {c : List Int} {d : List Int} {z : List Int} {y : List Int} {g1 : Nat} {g2 : Nat} {g3 : Nat} {g4 : Nat} {g5 : Nat} {g6 : Nat} {g7 : Nat} {n1 : Nat} {n2 : Nat} {n3 : Nat} {n4 : Nat} {n5 : Nat} {n6 : Nat} {n7 : Nat} {s : Int} {X : List Int} {gC : Nat} {gW : Nat} {gB : Nat} {m : Nat} {owC : Bool} : (nR59 x a b c d z y g1 g2 g3 g4 g5 g6 g7
 n1 n2 n3 n4 n5 n6 n7 s X gC gW gB m owC).tab = [some ⟨.agg [.slice 1 8 (gB + 1 + 1 + 1 + bareGLaw s + 1) 0 (X ++ numLaw 1 2 ++ numLaw 1 2 ++ v1Law n1 x ++ bareLaw a b c s d ++ v1Law n6 z).length none, .func (Fn.func 70) [] [.var 9 gC], .func (Fn.func 72) [] [.var 9 gC]], gW, true, 81⟩, some ⟨.ints .u8 x, g1, false, 5⟩, some ⟨.ints .u8 a, g2, false, 5⟩, some ⟨.ints .u8 b, g3, false, 5⟩, some ⟨.ints
 .u8 c, g4, false, 5⟩, some ⟨.ints .u8 d, g5, false, 5⟩, some ⟨.ints .u8 z, g6, false, 5⟩, some ⟨.ints .u8 y, g7, false, 5⟩, some ⟨.ints .u8 (X ++ numLaw 1 2 ++ numLaw 1 2 ++ v1Law n1 x ++ bareLaw a b c s d ++ v1Law n6 z), gB + 1 + 1 + 1 + bareGLaw s + 1, true, 5⟩, some ⟨.agg [.var 0 gW], gC, owC, 75⟩] := by kernel_rfl
noncomputable def nsm59c (args : List AVal) (T : Tab) (x : List Int) (a : List Int) (b : List Int) (c : List Int) (d : List Int) (z : List Int) (y : List Int) (g1 : Nat) (g2 : Nat) (g3 : Nat) (g4 : Nat) (g5 : Nat) (g6 : Nat) (g7 : Nat) (n1 : Nat) (n2 : Nat) (n3 : Nat) (n4 : Nat) (n5 : Nat) (n6 : Nat) (n7 : Nat) (s : Int) (X : List Int) (gC : Nat) (gW : Nat) (gB : Nat) (m : Nat) (owC : Bool) : Res := ⟨[.tab T [some ⟨.agg [.slice 1 8 gB 0 m none, .func (.func 70) [] [.var 9 gC], .func (.func 72) [] [.var 9 gC]], gW, true, 81⟩, some ⟨.ints .u8 x, g1, false, 5⟩, some ⟨.ints .u8 a, g2, false, 5⟩, some ⟨.ints .u8 b, g3, false, 5⟩, some ⟨.ints .u8 c, g4, false, 5⟩, some ⟨.ints .u8 d, g5, false, 5⟩, some ⟨.ints .u8 z, g6, false, 5⟩, some ⟨.ints .u8 y, g7, false, 5⟩, some ⟨.ints .u8 X, gB, true, 5⟩, some ⟨.agg [.var 0 gW], gC, owC, 75⟩], .val (.tuple args) (.tuple [.var 0 gW, .agg [.slice 1 1 g1 0 n1 none, .slice 1 2 g2 0 n2 none, .slice 1 3 g3 0 n3 none, .slice 1 4 g4 0 n4 none, .int .i64 s, .slice 1 5 g5 0 n5 none, .slice 1 6 g6 0 n6 none, .slice 1 7 g7 0 n7 none]]), .eqN n1 x.length, .eqN n2 a.length, .eqN n3 b.length, .eqN n4 c.length, .eqN n5 d.length, .eqN n6 z.length, .leN n1 65536, .leN n2 65536, .leN n3 65536, .leN n4 65536, .leN n5 65536, .leN n6 65536, .eqN m X.length, .leN m 140737470000000], .tuple [], [some ⟨.agg [.slice 1 8 (gB + (bareGLaw s + 4)) 0 (X ++ offerLaw x a b c s d z).length none, .func (.func 70) [] [.var 9 gC], .func (.func 72) [] [.var 9 gC]], gW, true, 81⟩, some ⟨.ints .u8 x, g1, false, 5⟩, some ⟨.ints .u8 a, g2, false, 5⟩, some ⟨.ints .u8 b, g3, false, 5⟩, some ⟨.ints .u8 c, g4, false, 5⟩, some ⟨.ints .u8 d, g5, false, 5⟩, some ⟨.ints .u8 z, g6, false, 5⟩, some ⟨.ints .u8 y, g7, false, 5⟩, some ⟨.ints .u8 (X ++ offerLaw x a b c s d z), (gB + (bareGLaw s + 4)), true, 5⟩, some ⟨.agg [.var 0 gW], gC, owC, 75⟩]⟩
theorem nsm59c_ok {args : List AVal} {T : Tab} {x : List Int} {a : List Int} {b : List Int} {c : List Int} {d : List Int} {z : List Int} {y : List Int} {g1 : Nat} {g2 : Nat} {g3 : Nat} {g4 : Nat} {g5 : Nat} {g6 : Nat} {g7 : Nat} {n1 : Nat} {n2 : Nat} {n3 : Nat} {n4 : Nat} {n5 : Nat} {n6 : Nat} {n7 : Nat} {s : Int} {X : List Int} {gC : Nat} {gW : Nat} {gB : Nat} {m : Nat} {owC : Bool} (h : allP (nsm59c args T x a b c d z y g1 g2 g3 g4 g5 g6 g7 n1 n2 n3 n4 n5 n6 n7 s X gC gW gB m owC).cs) : Small prog (fun _ => none) 59 args T (nsm59c args T x a b c d z y g1 g2 g3 g4 g5 g6 g7 n1 n2 n3 n4 n5 n6 n7 s X gC gW gB m owC).val (nsm59c args T x a b c d z y g1 g2 g3 g4 g5 g6 g7 n1 n2 n3 n4 n5 n6 n7 s X gC gW gB m owC).tab := by
  obtain ⟨hT, hv, h1, h2, h3, h4, h5, h6, h7, h8, h9, h10, h11, h12, h13, h14, _⟩ := h
  simp only [Con.h] at hT hv h1 h2 h3 h4 h5 h6 h7 h8 h9 h10 h11 h12 h13 h14
  injection hv with hv
  subst hT hv
  show Small prog (fun _ => none) 59 [.var 0 gW, .agg [.slice 1 1 g1 0 n1 none, .slice 1 2 g2 0 n2 none, .slice 1 3 g3 0 n3 none, .slice 1 4 g4 0 n4 none, .int .i64 s, .slice 1 5 g5 0 n5 none, .slice 1 6 g6 0 n6 none, .slice 1 7 g7 0 n7 none]] [some ⟨.agg [.slice 1 8 gB 0 m none, .func (.func 70) [] [.var 9 gC], .func (.func 72) [] [.var 9 gC]], gW, true, 81⟩, some ⟨.ints .u8 x, g1, false, 5⟩, some ⟨.ints .u8 a, g2, false, 5⟩, some ⟨.ints .u8 b, g3, false, 5⟩, some ⟨.ints .u8 c, g4, false, 5⟩, some ⟨.ints .u8 d, g5, false, 5⟩, some ⟨.ints .u8 z, g6, false, 5⟩, some ⟨.ints .u8 y, g7, false, 5⟩, some ⟨.ints .u8 X, gB, true, 5⟩, some ⟨.agg [.var 0 gW], gC, owC, 75⟩] (.tuple []) [some ⟨.agg [.slice 1 8 (gB + (bareGLaw s + 4)) 0 (X ++ offerLaw x a b c s d z).length none, .func (.func 70) [] [.var 9 gC], .func (.func 72) [] [.var 9 gC]], gW, true, 81⟩, some ⟨.ints .u8 x, g1, false, 5⟩, some ⟨.ints .u8 a, g2, false, 5⟩, some ⟨.ints .u8 b, g3, false, 5⟩, some ⟨.ints .u8 c, g4, false, 5⟩, some ⟨.ints .u8 d, g5, false, 5⟩, some ⟨.ints .u8 z, g6, false, 5⟩, some ⟨.ints .u8 y, g7, false, 5⟩, some ⟨.ints .u8 (X ++ offerLaw x a b c s d z), (gB + (bareGLaw s + 4)), true, 5⟩, some ⟨.agg [.var 0 gW], gC, owC, 75⟩]
  subst h1 h2 h3 h4 h5 h6 h13
  have hb := bare_len a b c s d
  have hX := lenLaw_len (x.length : Int)
  have hZ := lenLaw_len (z.length : Int)
  have hN := num_len 1 2
  have e1 : gB + 1 + 1 + 1 + bareGLaw s + 1 = gB + (bareGLaw s + 4) := by omega
  refine small_ofG (R := nR59 x a b c d z y g1 g2 g3 g4 g5 g6 g7 x.length a.length b.length c.length d.length z.length n7 s X gC gW gB X.length owC) eM5b_ok hmN (f := 59) (fn := f59) (by kernel_rfl) (by kernel_rfl) FnOrc.nil rfl (nR59_ok ?_) nR59_val ?_
  · simp only [allP, Con.h, eq_self, true_and, and_true, beq_iff_eq, beq_eq_false_iff_ne, ne_eq, decide_eq_true_eq, decide_eq_false_iff_not, v1Law, vec1Law, List.take_length, List.length_append]
    omega
  · rw [nR59_tab]
    simp only [v1Law, offerLaw, one_eq, List.take_length, List.append_assoc, e1]
noncomputable def nsm59 : Summary := fun args T => nsm59c args T (xsAt T 1) (xsAt T 2) (xsAt T 3) (xsAt T 4) (xsAt T 5) (xsAt T 6) (xsAt T 7) (gAt T 1) (gAt T 2) (gAt T 3) (gAt T 4) (gAt T 5) (gAt T 6) (gAt T 7) (lenOf ((vAt args 1).get 0)) (lenOf ((vAt args 1).get 1)) (lenOf ((vAt args 1).get 2)) (lenOf ((vAt args 1).get 3)) (lenOf ((vAt args 1).get 5)) (lenOf ((vAt args 1).get 6)) (lenOf ((vAt args 1).get 7)) (iOf ((vAt args 1).get 4)) (xsAt T 8) (gAt T 9) (gAt T 0) (gAt T 8) (lenOf (cAt T 0 0)) (owAt T 9)
theorem nsm59_ok : SmOk prog (fun _ => none) 59 nsm59 := fun args T h => nsm59c_ok h
noncomputable def nS59 : Summary := callR nsm59 [true, false, false, false, false, false, false, false, true, false]
theorem nS59_ok : SumOk prog (fun _ => none) 59 nS59 := callR_ok nsm59_ok _
def RightP (x a b c : List Int) (s : Int) (d z y : List Int) : Prop := RightK x.length a.length b.length c.length s d.length z.length y.length
instance (x a b c : List Int) (s : Int) (d z y : List Int) : Decidable (RightP x a b c s d z y) := by unfold RightP; exact inferInstance
def pkBLaw (x a b c : List Int) (s : Int) (d z y : List Int) : List Int := if RightP x a b c s d z y then offerLaw x a b c s d z ++ vec1Law y else []
def ptBLaw (x a b c : List Int) (s : Int) (d z y : List Int) : List Int := if RightP x a b c s d z y then offerLaw x a b c s d z else []
def pkELaw (x a b c : List Int) (s : Int) (d z y : List Int) : Int := if RightP x a b c s d z y then 0 else 1
def pkGLaw (x a b c : List Int) (s : Int) (d z y : List Int) : Nat := if RightP x a b c s d z y then bareGLaw s + 5 else 0
def ptGLaw (x a b c : List Int) (s : Int) (d z y : List Int) : Nat := if RightP x a b c s d z y then bareGLaw s + 4 else 0
theorem pk_in {x a b c : List Int} {s : Int} {d z y : List Int} (h : RightP x a b c s d z y) : pkBLaw x a b c s d z y = offerLaw x a b c s d z ++ vec1Law y ∧ ptBLaw x a b c s d z y = offerLaw x a b c s d z ∧ pkELaw x a b c s d z y = 0 ∧ pkGLaw x a b c s d z y = bareGLaw s + 5 ∧ ptGLaw x a b c s d z y = bareGLaw s + 4 := ⟨if_pos h, if_pos h, if_pos h, if_pos h, if_pos h⟩
theorem pk_out {x a b c : List Int} {s : Int} {d z y : List Int} (h : ¬ RightP x a b c s d z y) : pkBLaw x a b c s d z y = [] ∧ ptBLaw x a b c s d z y = [] ∧ pkELaw x a b c s d z y = 1 ∧ pkGLaw x a b c s d z y = 0 ∧ ptGLaw x a b c s d z y = 0 := ⟨if_neg h, if_neg h, if_neg h, if_neg h, if_neg h⟩
noncomputable def eM6b : Env := eN0 [(38, nS38), (58, nS58), (59, nS59), (70, nS70)]
theorem eM6b_ok : EnvOk eM6b := envOf_ok tysN_ok (SumsOk.cons (fn := f38) nS38_ok (by kernel_rfl) (by kernel_rfl) (by kernel_rfl) (SumsOk.cons (fn := f58) nS58_ok (by kernel_rfl) (by kernel_rfl) (by kernel_rfl) (SumsOk.cons (fn := f59) nS59_ok (by kernel_rfl) (by kernel_rfl) (by kernel_rfl) (SumsOk.cons (fn := f70) nS70_ok (by kernel_rfl) (by kernel_rfl) (by kernel_rfl) trivial))))
noncomputable def psN2b : List (Nat × Summary) := [(58, nP58)]
theorem psN2b_ok : PsOk prog (fun _ => none) psN2b := (PsOk.cons (fn := f58) nP58_ok (by kernel_rfl) (by kernel_rfl) (by kernel_rfl) PsOk.nil)
noncomputable def nR27g (x : List Int) (a : List Int) (b : List Int) (c : List Int) (d : List Int) (z : List Int) (y : List Int) (g1 : Nat) (g2 : Nat) (g3 : Nat) (g4 : Nat) (g5 : Nat) (g6 : Nat) (g7 : Nat) (n1 : Nat) (n2 : Nat) (n3 : Nat) (n4 : Nat) (n5 : Nat) (n6 : Nat) (n7 : Nat) (s : Int) : Res := resG 7 [0, 1, 2, 3, 4, 5, 6, 10] (fnRunD eM6b psN2b f27 [] 400 none 36 28 [.agg [.slice 1 0 g1 0 n1 none, .slice 1 1 g2 0 n2 none, .slice 1 2 g3 0 n3 none, .slice 1 3 g4 0 n4 none, .int .i64 s, .slice 1 4 g5 0 n5 none, .slice 1 5 g6 0 n6 none, .slice 1 6 g7 0 n7 none]] [some ⟨.ints .u8 x, g1, false, 5⟩, some ⟨.ints .u8 a, g2, false, 5⟩, some ⟨.ints .u8 b, g3, false, 5⟩, some ⟨.ints .u8 c, g4, false, 5⟩, some ⟨.ints .u8 d, g5, false, 5⟩, some ⟨.ints .u8 z, g6, false, 5⟩, some ⟨.ints .u8 y, g7, false, 5⟩] [])
theorem nR27g_ok {x : List Int} {a : List Int} {b : List Int} {c : List Int} {d : List Int} {z : List Int} {y : List Int} {g1 : Nat} {g2 : Nat} {g3 : Nat} {g4 : Nat} {g5 : Nat} {g6 : Nat} {g7 : Nat} {n1 : Nat} {n2 : Nat} {n3 : Nat} {n4 : Nat} {n5 : Nat} {n6 : Nat} {n7 : Nat} {s : Int} (h : allP [.eqN g1 g1, .eqN g2 g2, .eqN g3 g3, .eqN g4 g4, .eqN g5 g5, .eqN g6 g6, .eqN g7 g7, .p (n1 = 32 ∧ (n2 =
 32 ∧ n3 = 32 ∧ n6 = 64 ∧ 1 ≤ n4 ∧ n4 ≤ 64 ∧ 1 ≤ s ∧ s ≤ 3 ∧ (n5 = 0 ∨ n5 = 32 ∧ s = 3)) ∧ s = 1 ∧ n7 = 64), .eqN g1 g1, .eqN g2 g2, .eqN g3 g3, .eqN g4 g4, .eqN g5 g5, .eqN g6 g6, .eqN g7 g7, .eqN n1 x.length, .eqN n2 a.length, .eqN n3 b.length, .eqN n4 c.length, .eqN n5 d.length, .eqN n6 z.length, .leN n1 65536, .leN n2 65536, .leN n3 65536, .leN n4 65536, .leN n5 65536, .leN n6 65536, .eqN g7 g7,
 .leN n7 y.length, .leN n7 65536, .eqN ([] ++ offerLaw x a b c s d z).length ([] ++ offerLaw x a b c s d z).length, .leN ([] ++ offerLaw x a b c s d z).length 140737488000000]) : OkR (nR27g x a b c d z y g1 g2 g3 g4 g5 g6 g7 n1 n2 n3 n4 n5 n6 n7 s) := OkR.dem (fl := bitsF 72 4717770558075532525571) (by kernel_rfl) (by kernel_rfl) (by kernel_rfl) h
theorem nR27g_val {x : List Int} {a : List Int} {b : List Int} {c : List Int} {d : List Int} {z : List Int} {y : List Int} {g1 : Nat} {g2 : Nat} {g3 : Nat} {g4 : Nat} {g5 : Nat} {g6 : Nat} {g7 : Nat} {n1 : Nat} {n2 : Nat} {n3 : Nat} {n4 : Nat} {n5 : Nat} {n6 : Nat} {n7 : Nat} {s : Int} : (nR27g x a b c d z y g1 g2 g3 g4 g5 g6 g7 n1 n2 n3 n4 n5 n6 n7 s).val = .tuple [.slice 1 7 (0 + (bareGLaw s + 4)
 + 1) 0 ([] ++ offerLaw x a b c s d z ++ v1Law n7 y).length none, .int .i64 0] := by kernel_rfl
theorem nR27g_tab {x : List Int} {a : List Int} {b : List Int} {c : List Int} {d : List Int} {z : List Int} {y : List Int} {g1 : Nat} {g2 : Nat} {g3 : Nat} {g4 : Nat} {g5 : Nat} {g6 : Nat} {g7 : Nat} {n1 : Nat} {n2 : Nat} {n3 : Nat} {n4 : Nat} {n5 : Nat} {n6 : Nat} {n7 : Nat} {s : Int} : (nR27g x a b c d z y g1 g2 g3 g4 g5 g6 g7 n1 n2 n3 n4 n5 n6 n7 s).tab = [some ⟨.ints .u8 x, g1, false, 5⟩, some
 ⟨.ints .u8 a, g2, false, 5⟩, some ⟨.ints .u8 b, g3, false, 5⟩, some ⟨.ints .u8 c, g4, false, 5⟩, some ⟨.ints .u8 d, g5, false, 5⟩, some ⟨.ints .u8 z, g6, false, 5⟩, some ⟨.ints .u8 y, g7, false, 5⟩, some ⟨.ints .u8 ([] ++ offerLaw x a b c s d z ++ v1Law n7 y), 0 + (bareGLaw s + 4) + 1, true, 5⟩] := by kernel_rfl
noncomputable def nR27b (x : List Int) (a : List Int) (b : List Int) (c : List Int) (d : List Int) (z : List Int) (y : List Int) (g1 : Nat) (g2 : Nat) (g3 : Nat) (g4 : Nat) (g5 : Nat) (g6 : Nat) (g7 : Nat) (n1 : Nat) (n2 : Nat) (n3 : Nat) (n4 : Nat) (n5 : Nat) (n6 : Nat) (n7 : Nat) (s : Int) : Res := resG 7 [0, 1, 2, 3, 4, 5, 6] (fnRunD eM6b psN2b f27 [] 400 (some 0) 36 28 [.agg [.slice 1 0 g1 0 n1 none, .slice 1 1 g2 0 n2 none, .slice 1 2 g3 0 n3 none, .slice 1 3 g4 0 n4 none, .int .i64 s, .slice 1 4 g5 0 n5 none, .slice 1 5 g6 0 n6 none, .slice 1 6 g7 0 n7 none]] [some ⟨.ints .u8 x, g1, false, 5⟩, some ⟨.ints .u8 a, g2, false, 5⟩, some ⟨.ints .u8 b, g3, false, 5⟩, some ⟨.ints .u8 c, g4, false, 5⟩, some ⟨.ints .u8 d, g5, false, 5⟩, some ⟨.ints .u8 z, g6, false, 5⟩, some ⟨.ints .u8 y, g7, false, 5⟩] [])
theorem nR27b_ok {x : List Int} {a : List Int} {b : List Int} {c : List Int} {d : List Int} {z : List Int} {y : List Int} {g1 : Nat} {g2 : Nat} {g3 : Nat} {g4 : Nat} {g5 : Nat} {g6 : Nat} {g7 : Nat} {n1 : Nat} {n2 : Nat} {n3 : Nat} {n4 : Nat} {n5 : Nat} {n6 : Nat} {n7 : Nat} {s : Int} (h : allP [.eqN g1 g1, .eqN g2 g2, .eqN g3 g3, .eqN g4 g4, .eqN g5 g5, .eqN g6 g6, .eqN g7 g7, .p ¬(n1 = 32 ∧ (n2 =
 32 ∧ n3 = 32 ∧ n6 = 64 ∧ 1 ≤ n4 ∧ n4 ≤ 64 ∧ 1 ≤ s ∧ s ≤ 3 ∧ (n5 = 0 ∨ n5 = 32 ∧ s = 3)) ∧ s = 1 ∧ n7 = 64)]) : OkR (nR27b x a b c d z y g1 g2 g3 g4 g5 g6 g7 n1 n2 n3 n4 n5 n6 n7 s) := OkR.dem (fl := bitsF 18 258051) (by kernel_rfl) (by kernel_rfl) (by kernel_rfl) h
theorem nR27b_val {x : List Int} {a : List Int} {b : List Int} {c : List Int} {d : List Int} {z : List Int} {y : List Int} {g1 : Nat} {g2 : Nat} {g3 : Nat} {g4 : Nat} {g5 : Nat} {g6 : Nat} {g7 : Nat} {n1 : Nat} {n2 : Nat} {n3 : Nat} {n4 : Nat} {n5 : Nat} {n6 : Nat} {n7 : Nat} {s : Int} : (nR27b x a b c d z y g1 g2 g3 g4 g5 g6 g7 n1 n2 n3 n4 n5 n6 n7 s).val = .tuple [.nilSlice, .int .i64 1] := by
 kernel_rfl
theorem nR27b_tab {x : List Int} {a : List Int} {b : List Int} {c : List Int} {d : List Int} {z : List Int} {y : List Int} {g1 : Nat} {g2 : Nat} {g3 : Nat} {g4 : Nat} {g5 : Nat} {g6 : Nat} {g7 : Nat} {n1 : Nat} {n2 : Nat} {n3 : Nat} {n4 : Nat} {n5 : Nat} {n6 : Nat} {n7 : Nat} {s : Int} : (nR27b x a b c d z y g1 g2 g3 g4 g5 g6 g7 n1 n2 n3 n4 n5 n6 n7 s).tab = [some ⟨.ints .u8 x, g1, false, 5⟩, some
 ⟨.ints .u8 a, g2, false, 5⟩, some ⟨.ints .u8 b, g3, false, 5⟩, some ⟨.ints .u8 c, g4, false, 5⟩, some ⟨.ints .u8 d, g5, false, 5⟩, some ⟨.ints .u8 z, g6, false, 5⟩, some ⟨.ints .u8 y, g7, false, 5⟩] := by kernel_rfl
noncomputable def nsm27c (args : List AVal) (T : Tab) (x : List Int) (a : List Int) (b : List Int) (c : List Int) (d : List Int) (z : List Int) (y : List Int) (g1 : Nat) (g2 : Nat) (g3 : Nat) (g4 : Nat) (g5 : Nat) (g6 : Nat) (g7 : Nat) (n1 : Nat) (n2 : Nat) (n3 : Nat) (n4 : Nat) (n5 : Nat) (n6 : Nat) (n7 : Nat) (s : Int) : Res := ⟨[.tab T [some ⟨.ints .u8 x, g1, false, 5⟩, some ⟨.ints .u8 a, g2, false, 5⟩, some ⟨.ints .u8 b, g3, false, 5⟩, some ⟨.ints .u8 c, g4, false, 5⟩, some ⟨.ints .u8 d, g5, false, 5⟩, some ⟨.ints .u8 z, g6, false, 5⟩, some ⟨.ints .u8 y, g7, false, 5⟩], .val (.tuple args) (.tuple [.agg [.slice 1 0 g1 0 n1 none, .slice 1 1 g2 0 n2 none, .slice 1 2 g3 0 n3 none, .slice 1 3 g4 0 n4 none, .int .i64 s, .slice 1 4 g5 0 n5 none, .slice 1 5 g6 0 n6 none, .slice 1 6 g7 0 n7 none]]), .eqN n1 x.length, .eqN n2 a.length, .eqN n3 b.length, .eqN n4 c.length, .eqN n5 d.length, .eqN n6 z.length, .eqN n7 y.length], .tuple [.slice 1 7 (pkGLaw x a b c s d z y) 0 (pkBLaw x a b c s d z y).length none, .int .i64 (pkELaw x a b c s d z y)], [some ⟨.ints .u8 x, g1, false, 5⟩, some ⟨.ints .u8 a, g2, false, 5⟩, some ⟨.ints .u8 b, g3, false, 5⟩, some ⟨.ints .u8 c, g4, false, 5⟩, some ⟨.ints .u8 d, g5, false, 5⟩, some ⟨.ints .u8 z, g6, false, 5⟩, some ⟨.ints .u8 y, g7, false, 5⟩, some ⟨.ints .u8 (pkBLaw x a b c s d z y), (pkGLaw x a b c s d z y), true, 5⟩]⟩
theorem nsm27c_ok {args : List AVal} {T : Tab} {x : List Int} {a : List Int} {b : List Int} {c : List Int} {d : List Int} {z : List Int} {y : List Int} {g1 : Nat} {g2 : Nat} {g3 : Nat} {g4 : Nat} {g5 : Nat} {g6 : Nat} {g7 : Nat} {n1 : Nat} {n2 : Nat} {n3 : Nat} {n4 : Nat} {n5 : Nat} {n6 : Nat} {n7 : Nat} {s : Int} (h : allP (nsm27c args T x a b c d z y g1 g2 g3 g4 g5 g6 g7 n1 n2 n3 n4 n5 n6 n7 s).cs) : Small prog (fun _ => none) 27 args T (nsm27c args T x a b c d z y g1 g2 g3 g4 g5 g6 g7 n1 n2 n3 n4 n5 n6 n7 s).val (nsm27c args T x a b c d z y g1 g2 g3 g4 g5 g6 g7 n1 n2 n3 n4 n5 n6 n7 s).tab := by
  obtain ⟨hT, hv, h1, h2, h3, h4, h5, h6, h7, _⟩ := h
  simp only [Con.h] at hT hv h1 h2 h3 h4 h5 h6 h7
  injection hv with hv
  subst hT hv
  show Small prog (fun _ => none) 27 [.agg [.slice 1 0 g1 0 n1 none, .slice 1 1 g2 0 n2 none, .slice 1 2 g3 0 n3 none, .slice 1 3 g4 0 n4 none, .int .i64 s, .slice 1 4 g5 0 n5 none, .slice 1 5 g6 0 n6 none, .slice 1 6 g7 0 n7 none]] [some ⟨.ints .u8 x, g1, false, 5⟩, some ⟨.ints .u8 a, g2, false, 5⟩, some ⟨.ints .u8 b, g3, false, 5⟩, some ⟨.ints .u8 c, g4, false, 5⟩, some ⟨.ints .u8 d, g5, false, 5⟩, some ⟨.ints .u8 z, g6, false, 5⟩, some ⟨.ints .u8 y, g7, false, 5⟩] (.tuple [.slice 1 7 (pkGLaw x a b c s d z y) 0 (pkBLaw x a b c s d z y).length none, .int .i64 (pkELaw x a b c s d z y)]) [some ⟨.ints .u8 x, g1, false, 5⟩, some ⟨.ints .u8 a, g2, false, 5⟩, some ⟨.ints .u8 b, g3, false, 5⟩, some ⟨.ints .u8 c, g4, false, 5⟩, some ⟨.ints .u8 d, g5, false, 5⟩, some ⟨.ints .u8 z, g6, false, 5⟩, some ⟨.ints .u8 y, g7, false, 5⟩, some ⟨.ints .u8 (pkBLaw x a b c s d z y), (pkGLaw x a b c s d z y), true, 5⟩]
  subst h1 h2 h3 h4 h5 h6 h7
  by_cases hR : RightP x a b c s d z y
  · rw [(pk_in hR).1, (pk_in hR).2.2.1, (pk_in hR).2.2.2.1]
    have hR' := hR
    obtain ⟨q0, ⟨q1, q2, q3, q4, q5, q6, q7, q8⟩, q9, q10⟩ := hR'
    have hb := offer_len x a b c s d z
    have e : 0 + (bareGLaw s + 4) + 1 = bareGLaw s + 5 := by omega
    have e' : 0 + (bareGLaw s + 4) = bareGLaw s + 4 := by omega
    refine small_ofDG (R := nR27g x a b c d z y g1 g2 g3 g4 g5 g6 g7 x.length a.length b.length c.length d.length z.length y.length s) eM6b_ok hmN psN2b_ok (f := 27) (fn := f27) (by kernel_rfl) (by kernel_rfl) FnOrc.nil (gfn := f36) (by kernel_rfl) (by kernel_rfl) (by kernel_rfl) caughtN rfl (nR27g_ok ?_) ?_ ?_
    · simp only [allP, Con.h, eq_self, true_and, and_true, beq_iff_eq, beq_eq_false_iff_ne, ne_eq, decide_eq_true_eq, decide_eq_false_iff_not, List.nil_append]
      try simp only [show RightK x.length a.length b.length c.length s d.length z.length y.length from hR]
      omega
    · rw [nR27g_val]
      first | rw [e] | rw [e']
      simp only [v1Law, List.take_length, List.nil_append]
    · rw [nR27g_tab]
      first | rw [e] | rw [e']
      simp only [v1Law, List.take_length, List.nil_append]
  · rw [(pk_out hR).1, (pk_out hR).2.2.1, (pk_out hR).2.2.2.1]
    exact small_nil2 .u8 5 (.inr rfl) (small_ofDG (R := nR27b x a b c d z y g1 g2 g3 g4 g5 g6 g7 x.length a.length b.length c.length d.length z.length y.length s) eM6b_ok hmN psN2b_ok (f := 27) (fn := f27) (by kernel_rfl) (by kernel_rfl) FnOrc.nil (gfn := f36) (by kernel_rfl) (by kernel_rfl) (by kernel_rfl) caughtN rfl (nR27b_ok (by
      simp only [allP, Con.h, eq_self, true_and, and_true, beq_iff_eq, beq_eq_false_iff_ne, ne_eq, decide_eq_true_eq, decide_eq_false_iff_not]
      exact hR)) nR27b_val nR27b_tab) (by simp)
noncomputable def nsm27 : Summary := fun args T => nsm27c args T (xsAt T 0) (xsAt T 1) (xsAt T 2) (xsAt T 3) (xsAt T 4) (xsAt T 5) (xsAt T 6) (gAt T 0) (gAt T 1) (gAt T 2) (gAt T 3) (gAt T 4) (gAt T 5) (gAt T 6) (lenOf ((vAt args 0).get 0)) (lenOf ((vAt args 0).get 1)) (lenOf ((vAt args 0).get 2)) (lenOf ((vAt args 0).get 3)) (lenOf ((vAt args 0).get 5)) (lenOf ((vAt args 0).get 6)) (lenOf ((vAt args 0).get 7)) (iOf ((vAt args 0).get 4))
theorem nsm27_ok : SmOk prog (fun _ => none) 27 nsm27 := fun args T h => nsm27c_ok h
noncomputable def nS27 : Summary := callR nsm27 []
theorem nS27_ok : SumOk prog (fun _ => none) 27 nS27 := callR_ok nsm27_ok _
end Go.Abs
