/- What functions of the given program come to, by the abstract machine: texts of a proof. -/
import Derived.Test.YtmfacmccilipfaaP1
import Derived.Test.YtmfacmccilipfaaAbs2
set_option linter.unusedVariables false
set_option linter.unusedSimpArgs false
set_option maxRecDepth 100000
set_option maxHeartbeats 4000000
namespace Go.Abs
open Go.Proofs Go.Proofs.Try
/-! ### the document's parents -/
theorem rise_pre {u : List Int} {k : Nat} (h : ∀ i, i < k → StepU u i) : ∀ i, i < k → (i : Int) ≤ u.getD i 0
  | 0, hi => by have k : (-1 : Int) < u.getD 0 0 := (h 0 hi).1; omega
  | i + 1, hi => by
    have k := rise_pre h i (by omega)
    have k2 : u.getD i 0 < u.getD (i + 1) 0 := (h (i + 1) hi).1
    omega
theorem take_get {u : List Int} {n i : Nat} (h : i < n) : (List.take n u).getD i 0 = u.getD i 0 := by
  simp [List.getD_eq_getElem?_getD, List.getElem?_take, h]
theorem take_step {u : List Int} {n i : Nat} (h : i < n) : StepU (List.take n u) i ↔ StepU u i := by
  unfold StepU lastLaw
  rw [take_get h]
  cases i with
  | zero => exact Iff.rfl
  | succ j =>
    simp only
    rw [take_get (by omega)]
noncomputable def pre50 : Code := fstC (backC 2 (bodyOf f50))
noncomputable def r50 : Code := fstC pre50
noncomputable def c50 : Code := sndC (backC 2 (bodyOf f50))
theorem split50 : backC 2 (bodyOf f50) = .seq (.seq r50 (.block 0 (.loop (roundOf 0 f50)))) c50 := by kernel_rfl
noncomputable def nH50x (a : List Int) (b : List Int) (u : List Int) (g1 : Nat) (g2 : Nat) (g3 : Nat) (n1 : Nat) (n2 : Nat) (n3 : Nat) (c1 : Option Nat) (c2 : Option Nat) (c3 : Option Nat) (o1 : Bool) (o2 : Bool) (o3 : Bool) : Res := runF (eN0 []) f50 [] 400 [.agg [.slice 1 0 g1 0 n1 c1, .slice 1 1 g2 0 n2 c2, .slice 1 2 g3 0 n3 c3]] [some ⟨.ints .u8 a, g1, o1, 5⟩, some ⟨.ints .u8 b, g2, o2, 5⟩, some ⟨.ints .i64 u, g3, o3, 3⟩] [some true]
theorem nH50x_ok {a : List Int} {b : List Int} {u : List Int} {g1 : Nat} {g2 : Nat} {g3 : Nat} {n1 : Nat} {n2 : Nat} {n3 : Nat} {c1 : Option Nat} {c2 : Option Nat} {c3 : Option Nat} {o1 : Bool} {o2 : Bool} {o3 : Bool} (h : allP [.eqN g1 g1, .p (((↑n1 : Int) != 32) = true)]) : OkR (nH50x a b u g1 g2 g3 n1 n2 n3 c1 c2 c3 o1 o2 o3) := OkR.dem (fl := [true, true, true, false, false]) (by kernel_rfl)
 (by kernel_rfl) (by kernel_rfl) h
theorem nH50x_val {a : List Int} {b : List Int} {u : List Int} {g1 : Nat} {g2 : Nat} {g3 : Nat} {n1 : Nat} {n2 : Nat} {n3 : Nat} {c1 : Option Nat} {c2 : Option Nat} {c3 : Option Nat} {o1 : Bool} {o2 : Bool} {o3 : Bool} : (nH50x a b u g1 g2 g3 n1 n2 n3 c1 c2 c3 o1 o2 o3).val = .bool false := by kernel_rfl
theorem nH50x_tab {a : List Int} {b : List Int} {u : List Int} {g1 : Nat} {g2 : Nat} {g3 : Nat} {n1 : Nat} {n2 : Nat} {n3 : Nat} {c1 : Option Nat} {c2 : Option Nat} {c3 : Option Nat} {o1 : Bool} {o2 : Bool} {o3 : Bool} : (nH50x a b u g1 g2 g3 n1 n2 n3 c1 c2 c3 o1 o2 o3).tab = [some ⟨.ints .u8 a, g1, o1, 5⟩, some ⟨.ints .u8 b, g2, o2, 5⟩, some ⟨.ints .i64 u, g3, o3, 3⟩, some ⟨.agg [.slice 1 0 g1 0
 n1 c1, .slice 1 1 g2 0 n2 c2, .slice 1 2 g3 0 n3 c3], 0, true, 46⟩] := by kernel_rfl
noncomputable def nH50z (a : List Int) (b : List Int) (u : List Int) (g1 : Nat) (g2 : Nat) (g3 : Nat) (n1 : Nat) (n2 : Nat) (n3 : Nat) (c1 : Option Nat) (c2 : Option Nat) (c3 : Option Nat) (o1 : Bool) (o2 : Bool) (o3 : Bool) : Res := runF (eN0 []) f50 [] 400 [.agg [.slice 1 0 g1 0 n1 c1, .slice 1 1 g2 0 n2 c2, .slice 1 2 g3 0 n3 c3]] [some ⟨.ints .u8 a, g1, o1, 5⟩, some ⟨.ints .u8 b, g2, o2, 5⟩, some ⟨.ints .i64 u, g3, o3, 3⟩] [some false, some true, some true]
theorem nH50z_ok {a : List Int} {b : List Int} {u : List Int} {g1 : Nat} {g2 : Nat} {g3 : Nat} {n1 : Nat} {n2 : Nat} {n3 : Nat} {c1 : Option Nat} {c2 : Option Nat} {c3 : Option Nat} {o1 : Bool} {o2 : Bool} {o3 : Bool} (h : allP [.eqN g1 g1, .p (((↑n1 : Int) != 32) = false), .eqN g2 g2, .p (((↑n2 : Int) != 0) = true), .eqN g2 g2, .p (((↑n2 : Int) != 32) = true)]) : OkR (nH50z a b u g1 g2 g3 n1 n2 n3
 c1 c2 c3 o1 o2 o3) := OkR.dem (fl := bitsF 15 7399) (by kernel_rfl) (by kernel_rfl) (by kernel_rfl) h
theorem nH50z_val {a : List Int} {b : List Int} {u : List Int} {g1 : Nat} {g2 : Nat} {g3 : Nat} {n1 : Nat} {n2 : Nat} {n3 : Nat} {c1 : Option Nat} {c2 : Option Nat} {c3 : Option Nat} {o1 : Bool} {o2 : Bool} {o3 : Bool} : (nH50z a b u g1 g2 g3 n1 n2 n3 c1 c2 c3 o1 o2 o3).val = .bool false := by kernel_rfl
theorem nH50z_tab {a : List Int} {b : List Int} {u : List Int} {g1 : Nat} {g2 : Nat} {g3 : Nat} {n1 : Nat} {n2 : Nat} {n3 : Nat} {c1 : Option Nat} {c2 : Option Nat} {c3 : Option Nat} {o1 : Bool} {o2 : Bool} {o3 : Bool} : (nH50z a b u g1 g2 g3 n1 n2 n3 c1 c2 c3 o1 o2 o3).tab = [some ⟨.ints .u8 a, g1, o1, 5⟩, some ⟨.ints .u8 b, g2, o2, 5⟩, some ⟨.ints .i64 u, g3, o3, 3⟩, some ⟨.agg [.slice 1 0 g1 0
 n1 c1, .slice 1 1 g2 0 n2 c2, .slice 1 2 g3 0 n3 c3], 0, true, 46⟩] := by kernel_rfl
noncomputable def nH50y (a : List Int) (b : List Int) (u : List Int) (g1 : Nat) (g2 : Nat) (g3 : Nat) (n1 : Nat) (n2 : Nat) (n3 : Nat) (c1 : Option Nat) (c2 : Option Nat) (c3 : Option Nat) (o1 : Bool) (o2 : Bool) (o3 : Bool) : Out := trim 3 4 [1,2] (runs (eN0 []) 59 ⟨3, []⟩ 400 (frontC 2 (bodyOf f50)) (argF [.agg [.slice 1 0 g1 0 n1 c1, .slice 1 1 g2 0 n2 c2, .slice 1 2 g3 0 n3 c3]] 0) [some ⟨.ints .u8 a, g1, o1, 5⟩, some ⟨.ints .u8 b, g2, o2, 5⟩, some ⟨.ints .i64 u, g3, o3, 3⟩] [some false, some false])
theorem nH50y_ok {a : List Int} {b : List Int} {u : List Int} {g1 : Nat} {g2 : Nat} {g3 : Nat} {n1 : Nat} {n2 : Nat} {n3 : Nat} {c1 : Option Nat} {c2 : Option Nat} {c3 : Option Nat} {o1 : Bool} {o2 : Bool} {o3 : Bool} (h : allP [.eqN g1 g1, .p (((↑n1 : Int) != 32) = false), .eqN g2 g2, .p (((↑n2 : Int) != 0) = false)]) : Ok (nH50y a b u g1 g2 g3 n1 n2 n3 c1 c2 c3 o1 o2 o3) := Ok.dem (fl := [true,
 true, true, false, false, true, true, true, false, false]) (by kernel_rfl) (by kernel_rfl) (by kernel_rfl) h
theorem nH50y_ex {a : List Int} {b : List Int} {u : List Int} {g1 : Nat} {g2 : Nat} {g3 : Nat} {n1 : Nat} {n2 : Nat} {n3 : Nat} {c1 : Option Nat} {c2 : Option Nat} {c3 : Option Nat} {o1 : Bool} {o2 : Bool} {o3 : Bool} : (nH50y a b u g1 g2 g3 n1 n2 n3 c1 c2 c3 o1 o2 o3).ex = .normal := by kernel_rfl
theorem nH50y_fm {a : List Int} {b : List Int} {u : List Int} {g1 : Nat} {g2 : Nat} {g3 : Nat} {n1 : Nat} {n2 : Nat} {n3 : Nat} {c1 : Option Nat} {c2 : Option Nat} {c3 : Option Nat} {o1 : Bool} {o2 : Bool} {o3 : Bool} : (nH50y a b u g1 g2 g3 n1 n2 n3 c1 c2 c3 o1 o2 o3).fm = [(1, .var 3 0), (2, .bool false)] := by kernel_rfl
theorem nH50y_tab {a : List Int} {b : List Int} {u : List Int} {g1 : Nat} {g2 : Nat} {g3 : Nat} {n1 : Nat} {n2 : Nat} {n3 : Nat} {c1 : Option Nat} {c2 : Option Nat} {c3 : Option Nat} {o1 : Bool} {o2 : Bool} {o3 : Bool} : (nH50y a b u g1 g2 g3 n1 n2 n3 c1 c2 c3 o1 o2 o3).tab = [some ⟨.ints .u8 a, g1, o1, 5⟩, some ⟨.ints .u8 b, g2, o2, 5⟩, some ⟨.ints .i64 u, g3, o3, 3⟩, some ⟨.agg [.slice 1 0 g1 0
 n1 c1, .slice 1 1 g2 0 n2 c2, .slice 1 2 g3 0 n3 c3], 0, true, 46⟩] := by kernel_rfl
noncomputable def nH50n (a : List Int) (b : List Int) (u : List Int) (g1 : Nat) (g2 : Nat) (g3 : Nat) (n1 : Nat) (n2 : Nat) (n3 : Nat) (c1 : Option Nat) (c2 : Option Nat) (c3 : Option Nat) (o1 : Bool) (o2 : Bool) (o3 : Bool) : Out := trim 3 4 [1,2] (runs (eN0 []) 59 ⟨3, []⟩ 400 (frontC 2 (bodyOf f50)) (argF [.agg [.slice 1 0 g1 0 n1 c1, .slice 1 1 g2 0 n2 c2, .slice 1 2 g3 0 n3 c3]] 0) [some ⟨.ints .u8 a, g1, o1, 5⟩, some ⟨.ints .u8 b, g2, o2, 5⟩, some ⟨.ints .i64 u, g3, o3, 3⟩] [some false, some true, some false])
theorem nH50n_ok {a : List Int} {b : List Int} {u : List Int} {g1 : Nat} {g2 : Nat} {g3 : Nat} {n1 : Nat} {n2 : Nat} {n3 : Nat} {c1 : Option Nat} {c2 : Option Nat} {c3 : Option Nat} {o1 : Bool} {o2 : Bool} {o3 : Bool} (h : allP [.eqN g1 g1, .p (((↑n1 : Int) != 32) = false), .eqN g2 g2, .p (((↑n2 : Int) != 0) = true), .eqN g2 g2, .p (((↑n2 : Int) != 32) = false)]) : Ok (nH50n a b u g1 g2 g3 n1 n2 n3
 c1 c2 c3 o1 o2 o3) := Ok.dem (fl := bitsF 15 7399) (by kernel_rfl) (by kernel_rfl) (by kernel_rfl) h
theorem nH50n_ex {a : List Int} {b : List Int} {u : List Int} {g1 : Nat} {g2 : Nat} {g3 : Nat} {n1 : Nat} {n2 : Nat} {n3 : Nat} {c1 : Option Nat} {c2 : Option Nat} {c3 : Option Nat} {o1 : Bool} {o2 : Bool} {o3 : Bool} : (nH50n a b u g1 g2 g3 n1 n2 n3 c1 c2 c3 o1 o2 o3).ex = .normal := by kernel_rfl
theorem nH50n_fm {a : List Int} {b : List Int} {u : List Int} {g1 : Nat} {g2 : Nat} {g3 : Nat} {n1 : Nat} {n2 : Nat} {n3 : Nat} {c1 : Option Nat} {c2 : Option Nat} {c3 : Option Nat} {o1 : Bool} {o2 : Bool} {o3 : Bool} : (nH50n a b u g1 g2 g3 n1 n2 n3 c1 c2 c3 o1 o2 o3).fm = [(1, .var 3 0), (2, .bool false)] := by kernel_rfl
theorem nH50n_tab {a : List Int} {b : List Int} {u : List Int} {g1 : Nat} {g2 : Nat} {g3 : Nat} {n1 : Nat} {n2 : Nat} {n3 : Nat} {c1 : Option Nat} {c2 : Option Nat} {c3 : Option Nat} {o1 : Bool} {o2 : Bool} {o3 : Bool} : (nH50n a b u g1 g2 g3 n1 n2 n3 c1 c2 c3 o1 o2 o3).tab = [some ⟨.ints .u8 a, g1, o1, 5⟩, some ⟨.ints .u8 b, g2, o2, 5⟩, some ⟨.ints .i64 u, g3, o3, 3⟩, some ⟨.agg [.slice 1 0 g1 0
 n1 c1, .slice 1 1 g2 0 n2 c2, .slice 1 2 g3 0 n3 c3], 0, true, 46⟩] := by kernel_rfl
noncomputable def nI50 (a : List Int) (b : List Int) (u : List Int) (g1 : Nat) (g2 : Nat) (g3 : Nat) (n1 : Nat) (n2 : Nat) (n3 : Nat) (c1 : Option Nat) (c2 : Option Nat) (c3 : Option Nat) (o1 : Bool) (o2 : Bool) (o3 : Bool) : Out := trim 4 4 [1,2,3] (run (eN0 []) 59 ⟨4, []⟩ 400 r50 [(1, .var 3 0), (2, .bool false)] [some ⟨.ints .u8 a, g1, o1, 5⟩, some ⟨.ints .u8 b, g2, o2, 5⟩, some ⟨.ints .i64 u, g3, o3, 3⟩, some ⟨.agg [.slice 1 0 g1 0 n1 c1, .slice 1 1 g2 0 n2 c2, .slice 1 2 g3 0 n3 c3], 0, true, 46⟩] [])
theorem nI50_ok {a : List Int} {b : List Int} {u : List Int} {g1 : Nat} {g2 : Nat} {g3 : Nat} {n1 : Nat} {n2 : Nat} {n3 : Nat} {c1 : Option Nat} {c2 : Option Nat} {c3 : Option Nat} {o1 : Bool} {o2 : Bool} {o3 : Bool} (h : allP []) : Ok (nI50 a b u g1 g2 g3 n1 n2 n3 c1 c2 c3 o1 o2 o3) := Ok.dem (fl := []) (by kernel_rfl) (by kernel_rfl) (by kernel_rfl) h
theorem nI50_ex {a : List Int} {b : List Int} {u : List Int} {g1 : Nat} {g2 : Nat} {g3 : Nat} {n1 : Nat} {n2 : Nat} {n3 : Nat} {c1 : Option Nat} {c2 : Option Nat} {c3 : Option Nat} {o1 : Bool} {o2 : Bool} {o3 : Bool} : (nI50 a b u g1 g2 g3 n1 n2 n3 c1 c2 c3 o1 o2 o3).ex = .normal := by kernel_rfl
theorem nI50_fm {a : List Int} {b : List Int} {u : List Int} {g1 : Nat} {g2 : Nat} {g3 : Nat} {n1 : Nat} {n2 : Nat} {n3 : Nat} {c1 : Option Nat} {c2 : Option Nat} {c3 : Option Nat} {o1 : Bool} {o2 : Bool} {o3 : Bool} : (nI50 a b u g1 g2 g3 n1 n2 n3 c1 c2 c3 o1 o2 o3).fm = [(1, .var 3 0), (2, .bool false), (3, .int .i64 0)] := by kernel_rfl
theorem nI50_tab {a : List Int} {b : List Int} {u : List Int} {g1 : Nat} {g2 : Nat} {g3 : Nat} {n1 : Nat} {n2 : Nat} {n3 : Nat} {c1 : Option Nat} {c2 : Option Nat} {c3 : Option Nat} {o1 : Bool} {o2 : Bool} {o3 : Bool} : (nI50 a b u g1 g2 g3 n1 n2 n3 c1 c2 c3 o1 o2 o3).tab = [some ⟨.ints .u8 a, g1, o1, 5⟩, some ⟨.ints .u8 b, g2, o2, 5⟩, some ⟨.ints .i64 u, g3, o3, 3⟩, some ⟨.agg [.slice 1 0 g1 0 n1
 c1, .slice 1 1 g2 0 n2 c2, .slice 1 2 g3 0 n3 c3], 0, true, 46⟩] := by kernel_rfl
noncomputable def nJ50 (a : List Int) (b : List Int) (u : List Int) (g1 : Nat) (g2 : Nat) (g3 : Nat) (n1 : Nat) (n2 : Nat) (n3 : Nat) (c1 : Option Nat) (c2 : Option Nat) (c3 : Option Nat) (o1 : Bool) (o2 : Bool) (o3 : Bool) (i : Nat) : Out := trim 4 4 [2] (run (eN0 []) 59 ⟨4, []⟩ 400 c50 [(1, .var 3 0), (2, .bool false), (3, .int .i64 (i : Nat))] [some ⟨.ints .u8 a, g1, o1, 5⟩, some ⟨.ints .u8 b, g2, o2, 5⟩, some ⟨.ints .i64 u, g3, o3, 3⟩, some ⟨.agg [.slice 1 0 g1 0 n1 c1, .slice 1 1 g2 0 n2 c2, .slice 1 2 g3 0 n3 c3], 0, true, 46⟩] [])
theorem nJ50_ok {a : List Int} {b : List Int} {u : List Int} {g1 : Nat} {g2 : Nat} {g3 : Nat} {n1 : Nat} {n2 : Nat} {n3 : Nat} {c1 : Option Nat} {c2 : Option Nat} {c3 : Option Nat} {o1 : Bool} {o2 : Bool} {o3 : Bool} {i : Nat} (h : allP []) : Ok (nJ50 a b u g1 g2 g3 n1 n2 n3 c1 c2 c3 o1 o2 o3 i) := Ok.dem (fl := []) (by kernel_rfl) (by kernel_rfl) (by kernel_rfl) h
theorem nJ50_ex {a : List Int} {b : List Int} {u : List Int} {g1 : Nat} {g2 : Nat} {g3 : Nat} {n1 : Nat} {n2 : Nat} {n3 : Nat} {c1 : Option Nat} {c2 : Option Nat} {c3 : Option Nat} {o1 : Bool} {o2 : Bool} {o3 : Bool} {i : Nat} : (nJ50 a b u g1 g2 g3 n1 n2 n3 c1 c2 c3 o1 o2 o3 i).ex = .ret := by kernel_rfl
theorem nJ50_fm {a : List Int} {b : List Int} {u : List Int} {g1 : Nat} {g2 : Nat} {g3 : Nat} {n1 : Nat} {n2 : Nat} {n3 : Nat} {c1 : Option Nat} {c2 : Option Nat} {c3 : Option Nat} {o1 : Bool} {o2 : Bool} {o3 : Bool} {i : Nat} : (nJ50 a b u g1 g2 g3 n1 n2 n3 c1 c2 c3 o1 o2 o3 i).fm = [(2, .bool true)] := by kernel_rfl
theorem nJ50_tab {a : List Int} {b : List Int} {u : List Int} {g1 : Nat} {g2 : Nat} {g3 : Nat} {n1 : Nat} {n2 : Nat} {n3 : Nat} {c1 : Option Nat} {c2 : Option Nat} {c3 : Option Nat} {o1 : Bool} {o2 : Bool} {o3 : Bool} {i : Nat} : (nJ50 a b u g1 g2 g3 n1 n2 n3 c1 c2 c3 o1 o2 o3 i).tab = [some ⟨.ints .u8 a, g1, o1, 5⟩, some ⟨.ints .u8 b, g2, o2, 5⟩, some ⟨.ints .i64 u, g3, o3, 3⟩, some ⟨.agg [.slice
 1 0 g1 0 n1 c1, .slice 1 1 g2 0 n2 c2, .slice 1 2 g3 0 n3 c3], 0, true, 46⟩] := by kernel_rfl
noncomputable def nD50a (a : List Int) (b : List Int) (u : List Int) (g1 : Nat) (g2 : Nat) (g3 : Nat) (n1 : Nat) (n2 : Nat) (n3 : Nat) (c1 : Option Nat) (c2 : Option Nat) (c3 : Option Nat) (o1 : Bool) (o2 : Bool) (o3 : Bool) (i : Nat) : Out := trim 4 4 [1,2,3] (run (eN0 []) 59 ⟨4, []⟩ 400 (roundOf 0 f50) [(1, .var 3 0), (2, .bool false), (3, .int .i64 (i : Nat))] [some ⟨.ints .u8 a, g1, o1, 5⟩, some ⟨.ints .u8 b, g2, o2, 5⟩, some ⟨.ints .i64 u, g3, o3, 3⟩, some ⟨.agg [.slice 1 0 g1 0 n1 c1, .slice 1 1 g2 0 n2 c2, .slice 1 2 g3 0 n3 c3], 0, true, 46⟩] [some true, some false, some false, some false])
theorem nD50a_ok {a : List Int} {b : List Int} {u : List Int} {g1 : Nat} {g2 : Nat} {g3 : Nat} {n1 : Nat} {n2 : Nat} {n3 : Nat} {c1 : Option Nat} {c2 : Option Nat} {c3 : Option Nat} {o1 : Bool} {o2 : Bool} {o3 : Bool} {i : Nat} (h : allP [.eqN g3 g3, .p (decide ((↑i : Int) < (↑n3 : Int)) = true), .eqN g3 g3, .leI 0 (↑i : Int), .leI ((↑i : Int) + 1) (↑n3 : Int), .eqN g3 g3, .leN (i + 1) u.length, .p
 (decide (u.getD i 0 < 0) = false), .eqN g3 g3, .leI 0 (↑i : Int), .leI ((↑i : Int) + 1) (↑n3 : Int), .eqN g3 g3, .leN (i + 1) u.length, .p (decide (64 ≤ u.getD i 0) = false), .p (decide (0 < (↑i : Int)) = false), .rng (-9223372036854775808) ((↑i : Int) + 1) 9223372036854775807]) : Ok (nD50a a b u g1 g2 g3 n1 n2 n3 c1 c2 c3 o1 o2 o3 i) := Ok.dem (fl := bitsF 26 229831) (by kernel_rfl) (by
 kernel_rfl) (by kernel_rfl) h
theorem nD50a_ex {a : List Int} {b : List Int} {u : List Int} {g1 : Nat} {g2 : Nat} {g3 : Nat} {n1 : Nat} {n2 : Nat} {n3 : Nat} {c1 : Option Nat} {c2 : Option Nat} {c3 : Option Nat} {o1 : Bool} {o2 : Bool} {o3 : Bool} {i : Nat} : (nD50a a b u g1 g2 g3 n1 n2 n3 c1 c2 c3 o1 o2 o3 i).ex = .normal := by kernel_rfl
theorem nD50a_fm {a : List Int} {b : List Int} {u : List Int} {g1 : Nat} {g2 : Nat} {g3 : Nat} {n1 : Nat} {n2 : Nat} {n3 : Nat} {c1 : Option Nat} {c2 : Option Nat} {c3 : Option Nat} {o1 : Bool} {o2 : Bool} {o3 : Bool} {i : Nat} : (nD50a a b u g1 g2 g3 n1 n2 n3 c1 c2 c3 o1 o2 o3 i).fm = [(1, .var 3 0), (2, .bool false), (3, .int .i64 ((↑i : Int) + 1))] := by kernel_rfl
theorem nD50a_tab {a : List Int} {b : List Int} {u : List Int} {g1 : Nat} {g2 : Nat} {g3 : Nat} {n1 : Nat} {n2 : Nat} {n3 : Nat} {c1 : Option Nat} {c2 : Option Nat} {c3 : Option Nat} {o1 : Bool} {o2 : Bool} {o3 : Bool} {i : Nat} : (nD50a a b u g1 g2 g3 n1 n2 n3 c1 c2 c3 o1 o2 o3 i).tab = [some ⟨.ints .u8 a, g1, o1, 5⟩, some ⟨.ints .u8 b, g2, o2, 5⟩, some ⟨.ints .i64 u, g3, o3, 3⟩, some ⟨.agg
 [.slice 1 0 g1 0 n1 c1, .slice 1 1 g2 0 n2 c2, .slice 1 2 g3 0 n3 c3], 0, true, 46⟩] := by kernel_rfl
noncomputable def nD50b (a : List Int) (b : List Int) (u : List Int) (g1 : Nat) (g2 : Nat) (g3 : Nat) (n1 : Nat) (n2 : Nat) (n3 : Nat) (c1 : Option Nat) (c2 : Option Nat) (c3 : Option Nat) (o1 : Bool) (o2 : Bool) (o3 : Bool) (i : Nat) : Out := trim 4 4 [1,2,3] (run (eN0 []) 59 ⟨4, []⟩ 400 (roundOf 0 f50) [(1, .var 3 0), (2, .bool false), (3, .int .i64 (i : Nat))] [some ⟨.ints .u8 a, g1, o1, 5⟩, some ⟨.ints .u8 b, g2, o2, 5⟩, some ⟨.ints .i64 u, g3, o3, 3⟩, some ⟨.agg [.slice 1 0 g1 0 n1 c1, .slice 1 1 g2 0 n2 c2, .slice 1 2 g3 0 n3 c3], 0, true, 46⟩] [some true, some false, some false, some true, some false])
theorem nD50b_ok {a : List Int} {b : List Int} {u : List Int} {g1 : Nat} {g2 : Nat} {g3 : Nat} {n1 : Nat} {n2 : Nat} {n3 : Nat} {c1 : Option Nat} {c2 : Option Nat} {c3 : Option Nat} {o1 : Bool} {o2 : Bool} {o3 : Bool} {i : Nat} (h : allP [.eqN g3 g3, .p (decide ((↑i : Int) < (↑n3 : Int)) = true), .eqN g3 g3, .leI 0 (↑i : Int), .leI ((↑i : Int) + 1) (↑n3 : Int), .eqN g3 g3, .leN (i + 1) u.length, .p
 (decide (u.getD i 0 < 0) = false), .eqN g3 g3, .leI 0 (↑i : Int), .leI ((↑i : Int) + 1) (↑n3 : Int), .eqN g3 g3, .leN (i + 1) u.length, .p (decide (64 ≤ u.getD i 0) = false), .p (decide (0 < (↑i : Int)) = true), .eqN g3 g3, .leI 0 (↑i : Int), .leI ((↑i : Int) + 1) (↑n3 : Int), .eqN g3 g3, .leN (i + 1) u.length, .rng (-9223372036854775808) ((↑i : Int) - 1) 9223372036854775807, .eqN g3 g3, .leI 0
 ((↑i : Int) - 1), .leI ((↑i : Int) - 1 + 1) (↑n3 : Int), .eqN g3 g3, .leN (((↑i : Int) - 1).toNat + 1) u.length, .p (decide (u.getD i 0 ≤ u.getD ((↑i : Int) - 1).toNat 0) = false), .rng (-9223372036854775808) ((↑i : Int) + 1) 9223372036854775807]) : Ok (nD50b a b u g1 g2 g3 n1 n2 n3 c1 c2 c3 o1 o2 o3 i) := Ok.dem (fl := bitsF 44 60364652999) (by kernel_rfl) (by kernel_rfl) (by kernel_rfl) h
theorem nD50b_ex {a : List Int} {b : List Int} {u : List Int} {g1 : Nat} {g2 : Nat} {g3 : Nat} {n1 : Nat} {n2 : Nat} {n3 : Nat} {c1 : Option Nat} {c2 : Option Nat} {c3 : Option Nat} {o1 : Bool} {o2 : Bool} {o3 : Bool} {i : Nat} : (nD50b a b u g1 g2 g3 n1 n2 n3 c1 c2 c3 o1 o2 o3 i).ex = .normal := by kernel_rfl
theorem nD50b_fm {a : List Int} {b : List Int} {u : List Int} {g1 : Nat} {g2 : Nat} {g3 : Nat} {n1 : Nat} {n2 : Nat} {n3 : Nat} {c1 : Option Nat} {c2 : Option Nat} {c3 : Option Nat} {o1 : Bool} {o2 : Bool} {o3 : Bool} {i : Nat} : (nD50b a b u g1 g2 g3 n1 n2 n3 c1 c2 c3 o1 o2 o3 i).fm = [(1, .var 3 0), (2, .bool false), (3, .int .i64 ((↑i : Int) + 1))] := by kernel_rfl
theorem nD50b_tab {a : List Int} {b : List Int} {u : List Int} {g1 : Nat} {g2 : Nat} {g3 : Nat} {n1 : Nat} {n2 : Nat} {n3 : Nat} {c1 : Option Nat} {c2 : Option Nat} {c3 : Option Nat} {o1 : Bool} {o2 : Bool} {o3 : Bool} {i : Nat} : (nD50b a b u g1 g2 g3 n1 n2 n3 c1 c2 c3 o1 o2 o3 i).tab = [some ⟨.ints .u8 a, g1, o1, 5⟩, some ⟨.ints .u8 b, g2, o2, 5⟩, some ⟨.ints .i64 u, g3, o3, 3⟩, some ⟨.agg
 [.slice 1 0 g1 0 n1 c1, .slice 1 1 g2 0 n2 c2, .slice 1 2 g3 0 n3 c3], 0, true, 46⟩] := by kernel_rfl
noncomputable def nD50e (a : List Int) (b : List Int) (u : List Int) (g1 : Nat) (g2 : Nat) (g3 : Nat) (n1 : Nat) (n2 : Nat) (n3 : Nat) (c1 : Option Nat) (c2 : Option Nat) (c3 : Option Nat) (o1 : Bool) (o2 : Bool) (o3 : Bool) (i : Nat) : Out := trim 4 4 [1,2,3] (run (eN0 []) 59 ⟨4, []⟩ 400 (roundOf 0 f50) [(1, .var 3 0), (2, .bool false), (3, .int .i64 (i : Nat))] [some ⟨.ints .u8 a, g1, o1, 5⟩, some ⟨.ints .u8 b, g2, o2, 5⟩, some ⟨.ints .i64 u, g3, o3, 3⟩, some ⟨.agg [.slice 1 0 g1 0 n1 c1, .slice 1 1 g2 0 n2 c2, .slice 1 2 g3 0 n3 c3], 0, true, 46⟩] [some false])
theorem nD50e_ok {a : List Int} {b : List Int} {u : List Int} {g1 : Nat} {g2 : Nat} {g3 : Nat} {n1 : Nat} {n2 : Nat} {n3 : Nat} {c1 : Option Nat} {c2 : Option Nat} {c3 : Option Nat} {o1 : Bool} {o2 : Bool} {o3 : Bool} {i : Nat} (h : allP [.eqN g3 g3, .p (decide ((↑i : Int) < (↑n3 : Int)) = false)]) : Ok (nD50e a b u g1 g2 g3 n1 n2 n3 c1 c2 c3 o1 o2 o3 i) := Ok.dem (fl := [true, true, true, false,
 false]) (by kernel_rfl) (by kernel_rfl) (by kernel_rfl) h
theorem nD50e_ex {a : List Int} {b : List Int} {u : List Int} {g1 : Nat} {g2 : Nat} {g3 : Nat} {n1 : Nat} {n2 : Nat} {n3 : Nat} {c1 : Option Nat} {c2 : Option Nat} {c3 : Option Nat} {o1 : Bool} {o2 : Bool} {o3 : Bool} {i : Nat} : (nD50e a b u g1 g2 g3 n1 n2 n3 c1 c2 c3 o1 o2 o3 i).ex = .exit 0 := by kernel_rfl
theorem nD50e_fm {a : List Int} {b : List Int} {u : List Int} {g1 : Nat} {g2 : Nat} {g3 : Nat} {n1 : Nat} {n2 : Nat} {n3 : Nat} {c1 : Option Nat} {c2 : Option Nat} {c3 : Option Nat} {o1 : Bool} {o2 : Bool} {o3 : Bool} {i : Nat} : (nD50e a b u g1 g2 g3 n1 n2 n3 c1 c2 c3 o1 o2 o3 i).fm = [(1, .var 3 0), (2, .bool false), (3, .int .i64 (↑i : Int))] := by kernel_rfl
theorem nD50e_tab {a : List Int} {b : List Int} {u : List Int} {g1 : Nat} {g2 : Nat} {g3 : Nat} {n1 : Nat} {n2 : Nat} {n3 : Nat} {c1 : Option Nat} {c2 : Option Nat} {c3 : Option Nat} {o1 : Bool} {o2 : Bool} {o3 : Bool} {i : Nat} : (nD50e a b u g1 g2 g3 n1 n2 n3 c1 c2 c3 o1 o2 o3 i).tab = [some ⟨.ints .u8 a, g1, o1, 5⟩, some ⟨.ints .u8 b, g2, o2, 5⟩, some ⟨.ints .i64 u, g3, o3, 3⟩, some ⟨.agg
 [.slice 1 0 g1 0 n1 c1, .slice 1 1 g2 0 n2 c2, .slice 1 2 g3 0 n3 c3], 0, true, 46⟩] := by kernel_rfl
noncomputable def nD50p (a : List Int) (b : List Int) (u : List Int) (g1 : Nat) (g2 : Nat) (g3 : Nat) (n1 : Nat) (n2 : Nat) (n3 : Nat) (c1 : Option Nat) (c2 : Option Nat) (c3 : Option Nat) (o1 : Bool) (o2 : Bool) (o3 : Bool) (i : Nat) : Out := trim 4 4 [2] (run (eN0 []) 59 ⟨4, []⟩ 400 (roundOf 0 f50) [(1, .var 3 0), (2, .bool false), (3, .int .i64 (i : Nat))] [some ⟨.ints .u8 a, g1, o1, 5⟩, some ⟨.ints .u8 b, g2, o2, 5⟩, some ⟨.ints .i64 u, g3, o3, 3⟩, some ⟨.agg [.slice 1 0 g1 0 n1 c1, .slice 1 1 g2 0 n2 c2, .slice 1 2 g3 0 n3 c3], 0, true, 46⟩] [some true, some true])
theorem nD50p_ok {a : List Int} {b : List Int} {u : List Int} {g1 : Nat} {g2 : Nat} {g3 : Nat} {n1 : Nat} {n2 : Nat} {n3 : Nat} {c1 : Option Nat} {c2 : Option Nat} {c3 : Option Nat} {o1 : Bool} {o2 : Bool} {o3 : Bool} {i : Nat} (h : allP [.eqN g3 g3, .p (decide ((↑i : Int) < (↑n3 : Int)) = true), .eqN g3 g3, .leI 0 (↑i : Int), .leI ((↑i : Int) + 1) (↑n3 : Int), .eqN g3 g3, .leN (i + 1) u.length, .p
 (decide (u.getD i 0 < 0) = true)]) : Ok (nD50p a b u g1 g2 g3 n1 n2 n3 c1 c2 c3 o1 o2 o3 i) := Ok.dem (fl := bitsF 15 455) (by kernel_rfl) (by kernel_rfl) (by kernel_rfl) h
theorem nD50p_ex {a : List Int} {b : List Int} {u : List Int} {g1 : Nat} {g2 : Nat} {g3 : Nat} {n1 : Nat} {n2 : Nat} {n3 : Nat} {c1 : Option Nat} {c2 : Option Nat} {c3 : Option Nat} {o1 : Bool} {o2 : Bool} {o3 : Bool} {i : Nat} : (nD50p a b u g1 g2 g3 n1 n2 n3 c1 c2 c3 o1 o2 o3 i).ex = .ret := by kernel_rfl
theorem nD50p_fm {a : List Int} {b : List Int} {u : List Int} {g1 : Nat} {g2 : Nat} {g3 : Nat} {n1 : Nat} {n2 : Nat} {n3 : Nat} {c1 : Option Nat} {c2 : Option Nat} {c3 : Option Nat} {o1 : Bool} {o2 : Bool} {o3 : Bool} {i : Nat} : (nD50p a b u g1 g2 g3 n1 n2 n3 c1 c2 c3 o1 o2 o3 i).fm = [(2, .bool false)] := by kernel_rfl
theorem nD50p_tab {a : List Int} {b : List Int} {u : List Int} {g1 : Nat} {g2 : Nat} {g3 : Nat} {n1 : Nat} {n2 : Nat} {n3 : Nat} {c1 : Option Nat} {c2 : Option Nat} {c3 : Option Nat} {o1 : Bool} {o2 : Bool} {o3 : Bool} {i : Nat} : (nD50p a b u g1 g2 g3 n1 n2 n3 c1 c2 c3 o1 o2 o3 i).tab = [some ⟨.ints .u8 a, g1, o1, 5⟩, some ⟨.ints .u8 b, g2, o2, 5⟩, some ⟨.ints .i64 u, g3, o3, 3⟩, some ⟨.agg
 [.slice 1 0 g1 0 n1 c1, .slice 1 1 g2 0 n2 c2, .slice 1 2 g3 0 n3 c3], 0, true, 46⟩] := by kernel_rfl
noncomputable def nD50q (a : List Int) (b : List Int) (u : List Int) (g1 : Nat) (g2 : Nat) (g3 : Nat) (n1 : Nat) (n2 : Nat) (n3 : Nat) (c1 : Option Nat) (c2 : Option Nat) (c3 : Option Nat) (o1 : Bool) (o2 : Bool) (o3 : Bool) (i : Nat) : Out := trim 4 4 [2] (run (eN0 []) 59 ⟨4, []⟩ 400 (roundOf 0 f50) [(1, .var 3 0), (2, .bool false), (3, .int .i64 (i : Nat))] [some ⟨.ints .u8 a, g1, o1, 5⟩, some ⟨.ints .u8 b, g2, o2, 5⟩, some ⟨.ints .i64 u, g3, o3, 3⟩, some ⟨.agg [.slice 1 0 g1 0 n1 c1, .slice 1 1 g2 0 n2 c2, .slice 1 2 g3 0 n3 c3], 0, true, 46⟩] [some true, some false, some true])
theorem nD50q_ok {a : List Int} {b : List Int} {u : List Int} {g1 : Nat} {g2 : Nat} {g3 : Nat} {n1 : Nat} {n2 : Nat} {n3 : Nat} {c1 : Option Nat} {c2 : Option Nat} {c3 : Option Nat} {o1 : Bool} {o2 : Bool} {o3 : Bool} {i : Nat} (h : allP [.eqN g3 g3, .p (decide ((↑i : Int) < (↑n3 : Int)) = true), .eqN g3 g3, .leI 0 (↑i : Int), .leI ((↑i : Int) + 1) (↑n3 : Int), .eqN g3 g3, .leN (i + 1) u.length, .p
 (decide (u.getD i 0 < 0) = false), .eqN g3 g3, .leI 0 (↑i : Int), .leI ((↑i : Int) + 1) (↑n3 : Int), .eqN g3 g3, .leN (i + 1) u.length, .p (decide (64 ≤ u.getD i 0) = true)]) : Ok (nD50q a b u g1 g2 g3 n1 n2 n3 c1 c2 c3 o1 o2 o3 i) := Ok.dem (fl := bitsF 24 229831) (by kernel_rfl) (by kernel_rfl) (by kernel_rfl) h
theorem nD50q_ex {a : List Int} {b : List Int} {u : List Int} {g1 : Nat} {g2 : Nat} {g3 : Nat} {n1 : Nat} {n2 : Nat} {n3 : Nat} {c1 : Option Nat} {c2 : Option Nat} {c3 : Option Nat} {o1 : Bool} {o2 : Bool} {o3 : Bool} {i : Nat} : (nD50q a b u g1 g2 g3 n1 n2 n3 c1 c2 c3 o1 o2 o3 i).ex = .ret := by kernel_rfl
theorem nD50q_fm {a : List Int} {b : List Int} {u : List Int} {g1 : Nat} {g2 : Nat} {g3 : Nat} {n1 : Nat} {n2 : Nat} {n3 : Nat} {c1 : Option Nat} {c2 : Option Nat} {c3 : Option Nat} {o1 : Bool} {o2 : Bool} {o3 : Bool} {i : Nat} : (nD50q a b u g1 g2 g3 n1 n2 n3 c1 c2 c3 o1 o2 o3 i).fm = [(2, .bool false)] := by kernel_rfl
theorem nD50q_tab {a : List Int} {b : List Int} {u : List Int} {g1 : Nat} {g2 : Nat} {g3 : Nat} {n1 : Nat} {n2 : Nat} {n3 : Nat} {c1 : Option Nat} {c2 : Option Nat} {c3 : Option Nat} {o1 : Bool} {o2 : Bool} {o3 : Bool} {i : Nat} : (nD50q a b u g1 g2 g3 n1 n2 n3 c1 c2 c3 o1 o2 o3 i).tab = [some ⟨.ints .u8 a, g1, o1, 5⟩, some ⟨.ints .u8 b, g2, o2, 5⟩, some ⟨.ints .i64 u, g3, o3, 3⟩, some ⟨.agg
 [.slice 1 0 g1 0 n1 c1, .slice 1 1 g2 0 n2 c2, .slice 1 2 g3 0 n3 c3], 0, true, 46⟩] := by kernel_rfl
noncomputable def nD50r (a : List Int) (b : List Int) (u : List Int) (g1 : Nat) (g2 : Nat) (g3 : Nat) (n1 : Nat) (n2 : Nat) (n3 : Nat) (c1 : Option Nat) (c2 : Option Nat) (c3 : Option Nat) (o1 : Bool) (o2 : Bool) (o3 : Bool) (i : Nat) : Out := trim 4 4 [2] (run (eN0 []) 59 ⟨4, []⟩ 400 (roundOf 0 f50) [(1, .var 3 0), (2, .bool false), (3, .int .i64 (i : Nat))] [some ⟨.ints .u8 a, g1, o1, 5⟩, some ⟨.ints .u8 b, g2, o2, 5⟩, some ⟨.ints .i64 u, g3, o3, 3⟩, some ⟨.agg [.slice 1 0 g1 0 n1 c1, .slice 1 1 g2 0 n2 c2, .slice 1 2 g3 0 n3 c3], 0, true, 46⟩] [some true, some false, some false, some true, some true])
theorem nD50r_ok {a : List Int} {b : List Int} {u : List Int} {g1 : Nat} {g2 : Nat} {g3 : Nat} {n1 : Nat} {n2 : Nat} {n3 : Nat} {c1 : Option Nat} {c2 : Option Nat} {c3 : Option Nat} {o1 : Bool} {o2 : Bool} {o3 : Bool} {i : Nat} (h : allP [.eqN g3 g3, .p (decide ((↑i : Int) < (↑n3 : Int)) = true), .eqN g3 g3, .leI 0 (↑i : Int), .leI ((↑i : Int) + 1) (↑n3 : Int), .eqN g3 g3, .leN (i + 1) u.length, .p
 (decide (u.getD i 0 < 0) = false), .eqN g3 g3, .leI 0 (↑i : Int), .leI ((↑i : Int) + 1) (↑n3 : Int), .eqN g3 g3, .leN (i + 1) u.length, .p (decide (64 ≤ u.getD i 0) = false), .p (decide (0 < (↑i : Int)) = true), .eqN g3 g3, .leI 0 (↑i : Int), .leI ((↑i : Int) + 1) (↑n3 : Int), .eqN g3 g3, .leN (i + 1) u.length, .rng (-9223372036854775808) ((↑i : Int) - 1) 9223372036854775807, .eqN g3 g3, .leI 0
 ((↑i : Int) - 1), .leI ((↑i : Int) - 1 + 1) (↑n3 : Int), .eqN g3 g3, .leN (((↑i : Int) - 1).toNat + 1) u.length, .p (decide (u.getD i 0 ≤ u.getD ((↑i : Int) - 1).toNat 0) = true)]) : Ok (nD50r a b u g1 g2 g3 n1 n2 n3 c1 c2 c3 o1 o2 o3 i) := Ok.dem (fl := bitsF 43 60364652999) (by kernel_rfl) (by kernel_rfl) (by kernel_rfl) h
theorem nD50r_ex {a : List Int} {b : List Int} {u : List Int} {g1 : Nat} {g2 : Nat} {g3 : Nat} {n1 : Nat} {n2 : Nat} {n3 : Nat} {c1 : Option Nat} {c2 : Option Nat} {c3 : Option Nat} {o1 : Bool} {o2 : Bool} {o3 : Bool} {i : Nat} : (nD50r a b u g1 g2 g3 n1 n2 n3 c1 c2 c3 o1 o2 o3 i).ex = .ret := by kernel_rfl
theorem nD50r_fm {a : List Int} {b : List Int} {u : List Int} {g1 : Nat} {g2 : Nat} {g3 : Nat} {n1 : Nat} {n2 : Nat} {n3 : Nat} {c1 : Option Nat} {c2 : Option Nat} {c3 : Option Nat} {o1 : Bool} {o2 : Bool} {o3 : Bool} {i : Nat} : (nD50r a b u g1 g2 g3 n1 n2 n3 c1 c2 c3 o1 o2 o3 i).fm = [(2, .bool false)] := by kernel_rfl
theorem nD50r_tab {a : List Int} {b : List Int} {u : List Int} {g1 : Nat} {g2 : Nat} {g3 : Nat} {n1 : Nat} {n2 : Nat} {n3 : Nat} {c1 : Option Nat} {c2 : Option Nat} {c3 : Option Nat} {o1 : Bool} {o2 : Bool} {o3 : Bool} {i : Nat} : (nD50r a b u g1 g2 g3 n1 n2 n3 c1 c2 c3 o1 o2 o3 i).tab = [some ⟨.ints .u8 a, g1, o1, 5⟩, some ⟨.ints .u8 b, g2, o2, 5⟩, some ⟨.ints .i64 u, g3, o3, 3⟩, some ⟨.agg
 [.slice 1 0 g1 0 n1 c1, .slice 1 1 g2 0 n2 c2, .slice 1 2 g3 0 n3 c3], 0, true, 46⟩] := by kernel_rfl
def F50 (i : Nat) : Fm := [(1, .var 3 0), (2, .bool false), (3, .int .i64 ((i : Nat) : Int))]
theorem rd50 {a b u : List Int} {g1 g2 g3 n1 n2 n3 : Nat} {c1 c2 c3 : Option Nat} {o1 o2 o3 : Bool} {i : Nat} (hn : n3 ≤ u.length) (hl : n3 ≤ 140737488355000) (hi : i < n3) (h0 : 0 ≤ u.getD i 0) (h : StepU u i) : To (eN0 []) 59 4 (roundOf 0 f50) (F50 i) [some ⟨.ints .u8 a, g1, o1, 5⟩, some ⟨.ints .u8 b, g2, o2, 5⟩, some ⟨.ints .i64 u, g3, o3, 3⟩, some ⟨.agg [.slice 1 0 g1 0 n1 c1, .slice 1 1 g2 0 n2 c2, .slice 1 2 g3 0 n3 c3], 0, true, 46⟩] .normal (F50 (i + 1)) [some ⟨.ints .u8 a, g1, o1, 5⟩, some ⟨.ints .u8 b, g2, o2, 5⟩, some ⟨.ints .i64 u, g3, o3, 3⟩, some ⟨.agg [.slice 1 0 g1 0 n1 c1, .slice 1 1 g2 0 n2 c2, .slice 1 2 g3 0 n3 c3], 0, true, 46⟩] := by
  obtain ⟨h1, h2⟩ := h
  cases i with
  | zero =>
    refine To.of (o := nD50a a b u g1 g2 g3 n1 n2 n3 c1 c2 c3 o1 o2 o3 0) eN0_ok hmN (Nat.le_refl 4) OrcOk.nil rfl (nD50a_ok (by
      simp only [allP, Con.h, eq_self, true_and, and_true, beq_iff_eq, beq_eq_false_iff_ne, ne_eq, decide_eq_true_eq, decide_eq_false_iff_not]
      omega)) nD50a_ex ?_ nD50a_tab
    rw [nD50a_fm]
    rfl
  | succ j =>
    have h1 : u.getD j 0 < u.getD (j + 1) 0 := h1
    have e : (((j + 1 : Nat) : Int) - 1).toNat = j := by omega
    refine To.of (o := nD50b a b u g1 g2 g3 n1 n2 n3 c1 c2 c3 o1 o2 o3 (j + 1)) eN0_ok hmN (Nat.le_refl 4) OrcOk.nil rfl (nD50b_ok (by
      simp only [allP, Con.h, eq_self, true_and, and_true, beq_iff_eq, beq_eq_false_iff_ne, ne_eq, decide_eq_true_eq, decide_eq_false_iff_not, e]
      omega)) nD50b_ex ?_ nD50b_tab
    rw [nD50b_fm]
    rfl
theorem rx50 {a b u : List Int} {g1 g2 g3 n1 n2 n3 : Nat} {c1 c2 c3 : Option Nat} {o1 o2 o3 : Bool} {i : Nat} (hn : n3 ≤ u.length) (hl : n3 ≤ 140737488355000) (hi : i < n3) (h0 : ∀ j, j < i → (j : Int) ≤ u.getD j 0) (h : ¬ StepU u i) : To (eN0 []) 59 4 (roundOf 0 f50) (F50 i) [some ⟨.ints .u8 a, g1, o1, 5⟩, some ⟨.ints .u8 b, g2, o2, 5⟩, some ⟨.ints .i64 u, g3, o3, 3⟩, some ⟨.agg [.slice 1 0 g1 0 n1 c1, .slice 1 1 g2 0 n2 c2, .slice 1 2 g3 0 n3 c3], 0, true, 46⟩] .ret [(2, .bool false)] [some ⟨.ints .u8 a, g1, o1, 5⟩, some ⟨.ints .u8 b, g2, o2, 5⟩, some ⟨.ints .i64 u, g3, o3, 3⟩, some ⟨.agg [.slice 1 0 g1 0 n1 c1, .slice 1 1 g2 0 n2 c2, .slice 1 2 g3 0 n3 c3], 0, true, 46⟩] := by
  by_cases q1 : u.getD i 0 < 0
  · exact To.of (o := nD50p a b u g1 g2 g3 n1 n2 n3 c1 c2 c3 o1 o2 o3 i) eN0_ok hmN (Nat.le_refl 4) OrcOk.nil rfl (nD50p_ok (by
      simp only [allP, Con.h, eq_self, true_and, and_true, beq_iff_eq, beq_eq_false_iff_ne, ne_eq, decide_eq_true_eq, decide_eq_false_iff_not]
      omega)) nD50p_ex nD50p_fm nD50p_tab
  by_cases q2 : 64 ≤ u.getD i 0
  · exact To.of (o := nD50q a b u g1 g2 g3 n1 n2 n3 c1 c2 c3 o1 o2 o3 i) eN0_ok hmN (Nat.le_refl 4) OrcOk.nil rfl (nD50q_ok (by
      simp only [allP, Con.h, eq_self, true_and, and_true, beq_iff_eq, beq_eq_false_iff_ne, ne_eq, decide_eq_true_eq, decide_eq_false_iff_not]
      omega)) nD50q_ex nD50q_fm nD50q_tab
  cases i with
  | zero => exact absurd ⟨(by show (-1 : Int) < _; omega), by omega⟩ h
  | succ j =>
    have h1 : ¬ u.getD j 0 < u.getD (j + 1) 0 := fun k => h ⟨k, by omega⟩
    have e : (((j + 1 : Nat) : Int) - 1).toNat = j := by omega
    exact To.of (o := nD50r a b u g1 g2 g3 n1 n2 n3 c1 c2 c3 o1 o2 o3 (j + 1)) eN0_ok hmN (Nat.le_refl 4) OrcOk.nil rfl (nD50r_ok (by
      simp only [allP, Con.h, eq_self, true_and, and_true, beq_iff_eq, beq_eq_false_iff_ne, ne_eq, decide_eq_true_eq, decide_eq_false_iff_not, e]
      omega)) nD50r_ex nD50r_fm nD50r_tab
noncomputable def nsm50c (args : List AVal) (T : Tab) (a : List Int) (b : List Int) (u : List Int) (g1 : Nat) (g2 : Nat) (g3 : Nat) (n1 : Nat) (n2 : Nat) (n3 : Nat) (c1 : Option Nat) (c2 : Option Nat) (c3 : Option Nat) (o1 : Bool) (o2 : Bool) (o3 : Bool) : Res := ⟨[.tab T [some ⟨.ints .u8 a, g1, o1, 5⟩, some ⟨.ints .u8 b, g2, o2, 5⟩, some ⟨.ints .i64 u, g3, o3, 3⟩], .val (.tuple args) (.tuple [.agg [.slice 1 0 g1 0 n1 c1, .slice 1 1 g2 0 n2 c2, .slice 1 2 g3 0 n3 c3]]), .leN n3 u.length, .leN n3 140737488355000], .bool (decide (RightU n1 n2 (List.take n3 u))), [some ⟨.ints .u8 a, g1, o1, 5⟩, some ⟨.ints .u8 b, g2, o2, 5⟩, some ⟨.ints .i64 u, g3, o3, 3⟩]⟩
theorem nsm50c_ok {args : List AVal} {T : Tab} {a : List Int} {b : List Int} {u : List Int} {g1 : Nat} {g2 : Nat} {g3 : Nat} {n1 : Nat} {n2 : Nat} {n3 : Nat} {c1 : Option Nat} {c2 : Option Nat} {c3 : Option Nat} {o1 : Bool} {o2 : Bool} {o3 : Bool} (h : allP (nsm50c args T a b u g1 g2 g3 n1 n2 n3 c1 c2 c3 o1 o2 o3).cs) : Small prog (fun _ => none) 50 args T (nsm50c args T a b u g1 g2 g3 n1 n2 n3 c1 c2 c3 o1 o2 o3).val (nsm50c args T a b u g1 g2 g3 n1 n2 n3 c1 c2 c3 o1 o2 o3).tab := by
  obtain ⟨hT, hv, h1, h2, _⟩ := h
  simp only [Con.h] at hT hv h1 h2
  injection hv with hv
  subst hT hv
  show Small prog (fun _ => none) 50 [.agg [.slice 1 0 g1 0 n1 c1, .slice 1 1 g2 0 n2 c2, .slice 1 2 g3 0 n3 c3]] [some ⟨.ints .u8 a, g1, o1, 5⟩, some ⟨.ints .u8 b, g2, o2, 5⟩, some ⟨.ints .i64 u, g3, o3, 3⟩] (.bool (decide (RightU n1 n2 (List.take n3 u)))) [some ⟨.ints .u8 a, g1, o1, 5⟩, some ⟨.ints .u8 b, g2, o2, 5⟩, some ⟨.ints .i64 u, g3, o3, 3⟩]
  have hU : (List.take n3 u).length = n3 := by rw [List.length_take]; omega
  by_cases qa : (n1 : Int) = 32
  rotate_left
  · rw [show decide (RightU n1 n2 (List.take n3 u)) = false from decide_eq_false (fun h => qa (by have := h.1; omega))]
    exact small_drop (small_of (R := nH50x a b u g1 g2 g3 n1 n2 n3 c1 c2 c3 o1 o2 o3) eN0_ok hmN (f := 50) (fn := f50) (by kernel_rfl) (by kernel_rfl) FnOrc.nil rfl (nH50x_ok (by
      simp only [allP, Con.h, eq_self, true_and, and_true, beq_iff_eq, beq_eq_false_iff_ne, ne_eq, decide_eq_true_eq, decide_eq_false_iff_not, bne_iff_ne, bne_eq_false_iff_eq]
      omega)) nH50x_val nH50x_tab)
  by_cases qb : n2 = 0 ∨ n2 = 32
  rotate_left
  · rw [show decide (RightU n1 n2 (List.take n3 u)) = false from decide_eq_false (fun h => qb h.2.1)]
    exact small_drop (small_of (R := nH50z a b u g1 g2 g3 n1 n2 n3 c1 c2 c3 o1 o2 o3) eN0_ok hmN (f := 50) (fn := f50) (by kernel_rfl) (by kernel_rfl) FnOrc.nil rfl (nH50z_ok (by
      simp only [allP, Con.h, eq_self, true_and, and_true, beq_iff_eq, beq_eq_false_iff_ne, ne_eq, decide_eq_true_eq, decide_eq_false_iff_not, bne_iff_ne, bne_eq_false_iff_eq]
      omega)) nH50z_val nH50z_tab)
  have hB : AWp (eN0 []) 59 4 (backC 2 (bodyOf f50)) [(1, .var 3 0), (2, .bool false)] [some ⟨.ints .u8 a, g1, o1, 5⟩, some ⟨.ints .u8 b, g2, o2, 5⟩, some ⟨.ints .i64 u, g3, o3, 3⟩, some ⟨.agg [.slice 1 0 g1 0 n1 c1, .slice 1 1 g2 0 n2 c2, .slice 1 2 g3 0 n3 c3], 0, true, 46⟩] fun ex fm T => (ex = .normal ∨ ex = .ret) ∧ T = [some ⟨.ints .u8 a, g1, o1, 5⟩, some ⟨.ints .u8 b, g2, o2, 5⟩, some ⟨.ints .i64 u, g3, o3, 3⟩, some ⟨.agg [.slice 1 0 g1 0 n1 c1, .slice 1 1 g2 0 n2 c2, .slice 1 2 g3 0 n3 c3], 0, true, 46⟩] ∧ ∃ cs us, aRes (eN0 []) fm T f50.results.toList = some (cs, us) ∧ allP cs ∧ retV us = .bool (decide (RightU n1 n2 (List.take n3 u))) := by
    rw [split50]
    refine AWp.seq (AWp.seq ((To.of (o := nI50 a b u g1 g2 g3 n1 n2 n3 c1 c2 c3 o1 o2 o3) eN0_ok hmN (Nat.le_refl 4) OrcOk.nil rfl (nI50_ok trivial) nI50_ex nI50_fm nI50_tab).mono ?_))
    rintro ex fm T ⟨rfl, rfl, rfl⟩
    by_cases hR : RiseU (List.take n3 u)
    · rw [decide_eq_true (show RightU n1 n2 (List.take n3 u) from ⟨by omega, qb, hR⟩)]
      have hS : ∀ i, i < n3 → StepU u i := fun i hi => (take_step hi).1 (hR i (by omega))
      refine (To.rounds F50 (fun _ => [some ⟨.ints .u8 a, g1, o1, 5⟩, some ⟨.ints .u8 b, g2, o2, 5⟩, some ⟨.ints .i64 u, g3, o3, 3⟩, some ⟨.agg [.slice 1 0 g1 0 n1 c1, .slice 1 1 g2 0 n2 c2, .slice 1 2 g3 0 n3 c3], 0, true, 46⟩]) n3 (fun i hi => rd50 h1 h2 hi (by have := rise_pre hS i hi; omega) (hS i hi)) (To.of (o := nD50e a b u g1 g2 g3 n1 n2 n3 c1 c2 c3 o1 o2 o3 n3) (fm' := F50 n3) eN0_ok hmN (Nat.le_refl 4) OrcOk.nil rfl (nD50e_ok (by
        simp only [allP, Con.h, eq_self, true_and, and_true, beq_iff_eq, beq_eq_false_iff_ne, ne_eq, decide_eq_true_eq, decide_eq_false_iff_not]
        omega)) nD50e_ex nD50e_fm nD50e_tab)).mono ?_
      rintro ex fm T ⟨rfl, rfl, rfl⟩
      refine (To.of (o := nJ50 a b u g1 g2 g3 n1 n2 n3 c1 c2 c3 o1 o2 o3 n3) eN0_ok hmN (Nat.le_refl 4) OrcOk.nil rfl (nJ50_ok trivial) nJ50_ex nJ50_fm nJ50_tab).mono ?_
      rintro ex fm T ⟨rfl, rfl, rfl⟩
      exact ⟨.inr rfl, rfl, [], [.bool true], by kernel_rfl, trivial, rfl⟩
    · rw [decide_eq_false (fun h : RightU n1 n2 (List.take n3 u) => hR h.2.2)]
      obtain ⟨k, k1, k2, k3⟩ := least (P := StepU (List.take n3 u)) hR
      have k2' : ¬ StepU u k := fun h => k2 ((take_step (by omega)).2 h)
      have k3' : ∀ i, i < k → StepU u i := fun i hi => (take_step (n := n3) (by omega)).1 (k3 i hi)
      refine (To.roundsRet F50 (fun _ => [some ⟨.ints .u8 a, g1, o1, 5⟩, some ⟨.ints .u8 b, g2, o2, 5⟩, some ⟨.ints .i64 u, g3, o3, 3⟩, some ⟨.agg [.slice 1 0 g1 0 n1 c1, .slice 1 1 g2 0 n2 c2, .slice 1 2 g3 0 n3 c3], 0, true, 46⟩]) k (fun i hi => rd50 h1 h2 (by omega) (by have := rise_pre k3' i hi; omega) (k3' i hi)) (rx50 h1 h2 (by omega) (rise_pre k3') k2') (fun h => by cases h) (fun h => by cases h)).mono ?_
      rintro ex fm T ⟨rfl, rfl, rfl⟩
      exact ⟨.inr rfl, rfl, [], [.bool false], by kernel_rfl, trivial, rfl⟩
  refine small_drop (T1 := [some ⟨.ints .u8 a, g1, o1, 5⟩, some ⟨.ints .u8 b, g2, o2, 5⟩, some ⟨.ints .i64 u, g3, o3, 3⟩, some ⟨.agg [.slice 1 0 g1 0 n1 c1, .slice 1 1 g2 0 n2 c2, .slice 1 2 g3 0 n3 c3], 0, true, 46⟩]) (small_of_awp eN0_ok (f := 50) (fn := f50) (c := bodyOf f50) (by kernel_rfl) (by kernel_rfl) (by kernel_rfl) ?_)
  have hW : AWp (eN0 []) 59 3 (bodyOf f50) (argF [.agg [.slice 1 0 g1 0 n1 c1, .slice 1 1 g2 0 n2 c2, .slice 1 2 g3 0 n3 c3]] 0) [some ⟨.ints .u8 a, g1, o1, 5⟩, some ⟨.ints .u8 b, g2, o2, 5⟩, some ⟨.ints .i64 u, g3, o3, 3⟩] fun ex fm T => (ex = .normal ∨ ex = .ret) ∧ T = [some ⟨.ints .u8 a, g1, o1, 5⟩, some ⟨.ints .u8 b, g2, o2, 5⟩, some ⟨.ints .i64 u, g3, o3, 3⟩, some ⟨.agg [.slice 1 0 g1 0 n1 c1, .slice 1 1 g2 0 n2 c2, .slice 1 2 g3 0 n3 c3], 0, true, 46⟩] ∧ ∃ cs us, aRes (eN0 []) fm T f50.results.toList = some (cs, us) ∧ allP cs ∧ retV us = .bool (decide (RightU n1 n2 (List.take n3 u))) := by
    rcases qb with q2 | q2
    · refine AWp.cutN eN0_ok hmN 2 (o := nH50y a b u g1 g2 g3 n1 n2 n3 c1 c2 c3 o1 o2 o3) rfl (nH50y_ok (by
        simp only [allP, Con.h, eq_self, true_and, and_true, beq_iff_eq, beq_eq_false_iff_ne, ne_eq, decide_eq_true_eq, decide_eq_false_iff_not, bne_iff_ne, bne_eq_false_iff_eq]
        omega)) nH50y_ex ?_
      rw [nH50y_fm, nH50y_tab]
      exact AWp.base (by decide) hB
    · refine AWp.cutN eN0_ok hmN 2 (o := nH50n a b u g1 g2 g3 n1 n2 n3 c1 c2 c3 o1 o2 o3) rfl (nH50n_ok (by
        simp only [allP, Con.h, eq_self, true_and, and_true, beq_iff_eq, beq_eq_false_iff_ne, ne_eq, decide_eq_true_eq, decide_eq_false_iff_not, bne_iff_ne, bne_eq_false_iff_eq]
        omega)) nH50n_ex ?_
      rw [nH50n_fm, nH50n_tab]
      exact AWp.base (by decide) hB
  exact hW
noncomputable def nsm50 : Summary := fun args T => nsm50c args T (xsAt T 0) (xsAt T 1) (xsAt T 2) (gAt T 0) (gAt T 1) (gAt T 2) (lenOf ((vAt args 0).get 0)) (lenOf ((vAt args 0).get 1)) (lenOf ((vAt args 0).get 2)) (capOf ((vAt args 0).get 0)) (capOf ((vAt args 0).get 1)) (capOf ((vAt args 0).get 2)) (owAt T 0) (owAt T 1) (owAt T 2)
theorem nsm50_ok : SmOk prog (fun _ => none) 50 nsm50 := fun args T h => nsm50c_ok h
noncomputable def nS50 : Summary := callR nsm50 []
theorem nS50_ok : SumOk prog (fun _ => none) 50 nS50 := callR_ok nsm50_ok []
end Go.Abs

set_option linter.unusedVariables false
set_option linter.unusedSimpArgs false
set_option maxRecDepth 100000
set_option maxHeartbeats 4000000
namespace Go.Abs
open Go.Proofs Go.Proofs.Try
/-! ### the document's parents, written -/
noncomputable def eM18 : Env := eN0 [(66, nS66), (67, S43)]
theorem eM18_ok : EnvOk eM18 := envOf_ok tysN_ok (SumsOk.cons (fn := f66) nS66_ok (by kernel_rfl) (by kernel_rfl) (by kernel_rfl) (SumsOk.cons (fn := f67) S43_ok (by kernel_rfl) (by kernel_rfl) (by kernel_rfl) trivial))
noncomputable def pre51 : Code := fstC (backC 2 (bodyOf f51))
noncomputable def r51 : Code := fstC pre51
noncomputable def c51 : Code := sndC (backC 2 (bodyOf f51))
theorem split51 : backC 2 (bodyOf f51) = .seq (.seq r51 (.block 0 (.loop (roundOf 0 f51)))) c51 := by kernel_rfl
noncomputable def nH51 (a : List Int) (b : List Int) (u : List Int) (g1 : Nat) (g2 : Nat) (g3 : Nat) (n1 : Nat) (n2 : Nat) (n3 : Nat) (c1 : Option Nat) (c2 : Option Nat) (c3 : Option Nat) (o1 : Bool) (o2 : Bool) (o3 : Bool) : Out := trim 3 4 [1,2,3] (runs eM18 27 ⟨3, []⟩ 400 (frontC 2 (bodyOf f51)) (argF [.agg [.slice 1 0 g1 0 n1 c1, .slice 1 1 g2 0 n2 c2, .slice 1 2 g3 0 n3 c3]] 0) [some ⟨.ints .u8 a, g1, o1, 5⟩, some ⟨.ints .u8 b, g2, o2, 5⟩, some ⟨.ints .i64 u, g3, o3, 3⟩] [])
theorem nH51_ok {a : List Int} {b : List Int} {u : List Int} {g1 : Nat} {g2 : Nat} {g3 : Nat} {n1 : Nat} {n2 : Nat} {n3 : Nat} {c1 : Option Nat} {c2 : Option Nat} {c3 : Option Nat} {o1 : Bool} {o2 : Bool} {o3 : Bool} (h : allP []) : Ok (nH51 a b u g1 g2 g3 n1 n2 n3 c1 c2 c3 o1 o2 o3) := Ok.dem (fl := []) (by kernel_rfl) (by kernel_rfl) (by kernel_rfl) h
theorem nH51_ex {a : List Int} {b : List Int} {u : List Int} {g1 : Nat} {g2 : Nat} {g3 : Nat} {n1 : Nat} {n2 : Nat} {n3 : Nat} {c1 : Option Nat} {c2 : Option Nat} {c3 : Option Nat} {o1 : Bool} {o2 : Bool} {o3 : Bool} : (nH51 a b u g1 g2 g3 n1 n2 n3 c1 c2 c3 o1 o2 o3).ex = .normal := by kernel_rfl
theorem nH51_fm {a : List Int} {b : List Int} {u : List Int} {g1 : Nat} {g2 : Nat} {g3 : Nat} {n1 : Nat} {n2 : Nat} {n3 : Nat} {c1 : Option Nat} {c2 : Option Nat} {c3 : Option Nat} {o1 : Bool} {o2 : Bool} {o3 : Bool} : (nH51 a b u g1 g2 g3 n1 n2 n3 c1 c2 c3 o1 o2 o3).fm = [(1, .var 3 0), (2, .nilSlice), (3, .nilSlice)] := by kernel_rfl
theorem nH51_tab {a : List Int} {b : List Int} {u : List Int} {g1 : Nat} {g2 : Nat} {g3 : Nat} {n1 : Nat} {n2 : Nat} {n3 : Nat} {c1 : Option Nat} {c2 : Option Nat} {c3 : Option Nat} {o1 : Bool} {o2 : Bool} {o3 : Bool} : (nH51 a b u g1 g2 g3 n1 n2 n3 c1 c2 c3 o1 o2 o3).tab = [some ⟨.ints .u8 a, g1, o1, 5⟩, some ⟨.ints .u8 b, g2, o2, 5⟩, some ⟨.ints .i64 u, g3, o3, 3⟩, some ⟨.agg [.slice 1 0 g1 0 n1
 c1, .slice 1 1 g2 0 n2 c2, .slice 1 2 g3 0 n3 c3], 0, true, 46⟩] := by kernel_rfl
noncomputable def nI51 (a : List Int) (b : List Int) (u : List Int) (g1 : Nat) (g2 : Nat) (g3 : Nat) (n1 : Nat) (n2 : Nat) (n3 : Nat) (c1 : Option Nat) (c2 : Option Nat) (c3 : Option Nat) (o1 : Bool) (o2 : Bool) (o3 : Bool) (X : List Int) (g : Nat) : Out := trim 5 5 [1,2,3,4] (run eM18 27 ⟨5, []⟩ 400 r51 [(1, .var 3 0), (2, .nilSlice), (3, .slice 1 4 g 0 X.length none)] [some ⟨.ints .u8 a, g1, o1, 5⟩, some ⟨.ints .u8 b, g2, o2, 5⟩, some ⟨.ints .i64 u, g3, o3, 3⟩, some ⟨.agg [.slice 1 0 g1 0 n1 c1, .slice 1 1 g2 0 n2 c2, .slice 1 2 g3 0 n3 c3], 0, true, 46⟩, some ⟨.ints .u8 X, g, true, 5⟩] [])
theorem nI51_ok {a : List Int} {b : List Int} {u : List Int} {g1 : Nat} {g2 : Nat} {g3 : Nat} {n1 : Nat} {n2 : Nat} {n3 : Nat} {c1 : Option Nat} {c2 : Option Nat} {c3 : Option Nat} {o1 : Bool} {o2 : Bool} {o3 : Bool} {X : List Int} {g : Nat} (h : allP []) : Ok (nI51 a b u g1 g2 g3 n1 n2 n3 c1 c2 c3 o1 o2 o3 X g) := Ok.dem (fl := []) (by kernel_rfl) (by kernel_rfl) (by kernel_rfl) h
theorem nI51_ex {a : List Int} {b : List Int} {u : List Int} {g1 : Nat} {g2 : Nat} {g3 : Nat} {n1 : Nat} {n2 : Nat} {n3 : Nat} {c1 : Option Nat} {c2 : Option Nat} {c3 : Option Nat} {o1 : Bool} {o2 : Bool} {o3 : Bool} {X : List Int} {g : Nat} : (nI51 a b u g1 g2 g3 n1 n2 n3 c1 c2 c3 o1 o2 o3 X g).ex = .normal := by kernel_rfl
theorem nI51_fm {a : List Int} {b : List Int} {u : List Int} {g1 : Nat} {g2 : Nat} {g3 : Nat} {n1 : Nat} {n2 : Nat} {n3 : Nat} {c1 : Option Nat} {c2 : Option Nat} {c3 : Option Nat} {o1 : Bool} {o2 : Bool} {o3 : Bool} {X : List Int} {g : Nat} : (nI51 a b u g1 g2 g3 n1 n2 n3 c1 c2 c3 o1 o2 o3 X g).fm = [(1, .var 3 0), (2, .nilSlice), (3, .slice 1 4 g 0 X.length none), (4, .int .i64 0)] := by
 kernel_rfl
theorem nI51_tab {a : List Int} {b : List Int} {u : List Int} {g1 : Nat} {g2 : Nat} {g3 : Nat} {n1 : Nat} {n2 : Nat} {n3 : Nat} {c1 : Option Nat} {c2 : Option Nat} {c3 : Option Nat} {o1 : Bool} {o2 : Bool} {o3 : Bool} {X : List Int} {g : Nat} : (nI51 a b u g1 g2 g3 n1 n2 n3 c1 c2 c3 o1 o2 o3 X g).tab = [some ⟨.ints .u8 a, g1, o1, 5⟩, some ⟨.ints .u8 b, g2, o2, 5⟩, some ⟨.ints .i64 u, g3, o3, 3⟩,
 some ⟨.agg [.slice 1 0 g1 0 n1 c1, .slice 1 1 g2 0 n2 c2, .slice 1 2 g3 0 n3 c3], 0, true, 46⟩, some ⟨.ints .u8 X, g, true, 5⟩] := by kernel_rfl
noncomputable def nD51 (a : List Int) (b : List Int) (u : List Int) (g1 : Nat) (g2 : Nat) (g3 : Nat) (n1 : Nat) (n2 : Nat) (n3 : Nat) (c1 : Option Nat) (c2 : Option Nat) (c3 : Option Nat) (o1 : Bool) (o2 : Bool) (o3 : Bool) (X : List Int) (g i : Nat) : Out := trim 5 5 [1,2,3,4] (run eM18 27 ⟨5, []⟩ 400 (roundOf 0 f51) [(1, .var 3 0), (2, .nilSlice), (3, .slice 1 4 g 0 X.length none), (4, .int .i64 (i : Nat))] [some ⟨.ints .u8 a, g1, o1, 5⟩, some ⟨.ints .u8 b, g2, o2, 5⟩, some ⟨.ints .i64 u, g3, o3, 3⟩, some ⟨.agg [.slice 1 0 g1 0 n1 c1, .slice 1 1 g2 0 n2 c2, .slice 1 2 g3 0 n3 c3], 0, true, 46⟩, some ⟨.ints .u8 X, g, true, 5⟩] [some true])
theorem nD51_ok {a : List Int} {b : List Int} {u : List Int} {g1 : Nat} {g2 : Nat} {g3 : Nat} {n1 : Nat} {n2 : Nat} {n3 : Nat} {c1 : Option Nat} {c2 : Option Nat} {c3 : Option Nat} {o1 : Bool} {o2 : Bool} {o3 : Bool} {X : List Int} {g i : Nat} (h : allP [.eqN g3 g3, .p (decide ((↑i : Int) < (↑n3 : Int)) = true), .eqN g3 g3, .leI 0 (↑i : Int), .leI ((↑i : Int) + 1) (↑n3 : Int), .eqN g3 g3, .leN (i +
 1) u.length, .eqN g g, .leN (0 + X.length) X.length, .leN (addO X.length 4) 140737488355328, .rng (-9223372036854775808) ((↑i : Int) + 1) 9223372036854775807]) : Ok (nD51 a b u g1 g2 g3 n1 n2 n3 c1 c2 c3 o1 o2 o3 X g i) := Ok.dem (fl := bitsF 71 1051464412201444434151) (by kernel_rfl) (by kernel_rfl) (by kernel_rfl) h
theorem nD51_ex {a : List Int} {b : List Int} {u : List Int} {g1 : Nat} {g2 : Nat} {g3 : Nat} {n1 : Nat} {n2 : Nat} {n3 : Nat} {c1 : Option Nat} {c2 : Option Nat} {c3 : Option Nat} {o1 : Bool} {o2 : Bool} {o3 : Bool} {X : List Int} {g i : Nat} : (nD51 a b u g1 g2 g3 n1 n2 n3 c1 c2 c3 o1 o2 o3 X g i).ex = .normal := by kernel_rfl
theorem nD51_fm {a : List Int} {b : List Int} {u : List Int} {g1 : Nat} {g2 : Nat} {g3 : Nat} {n1 : Nat} {n2 : Nat} {n3 : Nat} {c1 : Option Nat} {c2 : Option Nat} {c3 : Option Nat} {o1 : Bool} {o2 : Bool} {o3 : Bool} {X : List Int} {g i : Nat} : (nD51 a b u g1 g2 g3 n1 n2 n3 c1 c2 c3 o1 o2 o3 X g i).fm = [(1, .var 3 0), (2, .nilSlice), (3, .slice 1 4 (g + 1) 0 (addO X.length 4) none), (4, .int .i64
 ((↑i : Int) + 1))] := by kernel_rfl
theorem nD51_tab {a : List Int} {b : List Int} {u : List Int} {g1 : Nat} {g2 : Nat} {g3 : Nat} {n1 : Nat} {n2 : Nat} {n3 : Nat} {c1 : Option Nat} {c2 : Option Nat} {c3 : Option Nat} {o1 : Bool} {o2 : Bool} {o3 : Bool} {X : List Int} {g i : Nat} : (nD51 a b u g1 g2 g3 n1 n2 n3 c1 c2 c3 o1 o2 o3 X g i).tab = [some ⟨.ints .u8 a, g1, o1, 5⟩, some ⟨.ints .u8 b, g2, o2, 5⟩, some ⟨.ints .i64 u, g3, o3,
 3⟩, some ⟨.agg [.slice 1 0 g1 0 n1 c1, .slice 1 1 g2 0 n2 c2, .slice 1 2 g3 0 n3 c3], 0, true, 46⟩, some ⟨.ints .u8 (List.take X.length X ++ [u.getD i 0 / 16777216 % 256, u.getD i 0 / 65536 % 256, u.getD i 0 / 256 % 256, u.getD i 0 / 1 % 256]), g + 1, true, 5⟩] := by kernel_rfl
noncomputable def nE51 (a : List Int) (b : List Int) (u : List Int) (g1 : Nat) (g2 : Nat) (g3 : Nat) (n1 : Nat) (n2 : Nat) (n3 : Nat) (c1 : Option Nat) (c2 : Option Nat) (c3 : Option Nat) (o1 : Bool) (o2 : Bool) (o3 : Bool) (X : List Int) (g i : Nat) : Out := trim 5 5 [1,2,3] (run eM18 27 ⟨5, []⟩ 400 (roundOf 0 f51) [(1, .var 3 0), (2, .nilSlice), (3, .slice 1 4 g 0 X.length none), (4, .int .i64 (i : Nat))] [some ⟨.ints .u8 a, g1, o1, 5⟩, some ⟨.ints .u8 b, g2, o2, 5⟩, some ⟨.ints .i64 u, g3, o3, 3⟩, some ⟨.agg [.slice 1 0 g1 0 n1 c1, .slice 1 1 g2 0 n2 c2, .slice 1 2 g3 0 n3 c3], 0, true, 46⟩, some ⟨.ints .u8 X, g, true, 5⟩] [some false])
theorem nE51_ok {a : List Int} {b : List Int} {u : List Int} {g1 : Nat} {g2 : Nat} {g3 : Nat} {n1 : Nat} {n2 : Nat} {n3 : Nat} {c1 : Option Nat} {c2 : Option Nat} {c3 : Option Nat} {o1 : Bool} {o2 : Bool} {o3 : Bool} {X : List Int} {g i : Nat} (h : allP [.eqN g3 g3, .p (decide ((↑i : Int) < (↑n3 : Int)) = false)]) : Ok (nE51 a b u g1 g2 g3 n1 n2 n3 c1 c2 c3 o1 o2 o3 X g i) := Ok.dem (fl := [true,
 true, true, false, false]) (by kernel_rfl) (by kernel_rfl) (by kernel_rfl) h
theorem nE51_ex {a : List Int} {b : List Int} {u : List Int} {g1 : Nat} {g2 : Nat} {g3 : Nat} {n1 : Nat} {n2 : Nat} {n3 : Nat} {c1 : Option Nat} {c2 : Option Nat} {c3 : Option Nat} {o1 : Bool} {o2 : Bool} {o3 : Bool} {X : List Int} {g i : Nat} : (nE51 a b u g1 g2 g3 n1 n2 n3 c1 c2 c3 o1 o2 o3 X g i).ex = .exit 0 := by kernel_rfl
theorem nE51_fm {a : List Int} {b : List Int} {u : List Int} {g1 : Nat} {g2 : Nat} {g3 : Nat} {n1 : Nat} {n2 : Nat} {n3 : Nat} {c1 : Option Nat} {c2 : Option Nat} {c3 : Option Nat} {o1 : Bool} {o2 : Bool} {o3 : Bool} {X : List Int} {g i : Nat} : (nE51 a b u g1 g2 g3 n1 n2 n3 c1 c2 c3 o1 o2 o3 X g i).fm = [(1, .var 3 0), (2, .nilSlice), (3, .slice 1 4 g 0 X.length none)] := by kernel_rfl
theorem nE51_tab {a : List Int} {b : List Int} {u : List Int} {g1 : Nat} {g2 : Nat} {g3 : Nat} {n1 : Nat} {n2 : Nat} {n3 : Nat} {c1 : Option Nat} {c2 : Option Nat} {c3 : Option Nat} {o1 : Bool} {o2 : Bool} {o3 : Bool} {X : List Int} {g i : Nat} : (nE51 a b u g1 g2 g3 n1 n2 n3 c1 c2 c3 o1 o2 o3 X g i).tab = [some ⟨.ints .u8 a, g1, o1, 5⟩, some ⟨.ints .u8 b, g2, o2, 5⟩, some ⟨.ints .i64 u, g3, o3,
 3⟩, some ⟨.agg [.slice 1 0 g1 0 n1 c1, .slice 1 1 g2 0 n2 c2, .slice 1 2 g3 0 n3 c3], 0, true, 46⟩, some ⟨.ints .u8 X, g, true, 5⟩] := by kernel_rfl
noncomputable def nJ51 (a : List Int) (b : List Int) (u : List Int) (g1 : Nat) (g2 : Nat) (g3 : Nat) (n1 : Nat) (n2 : Nat) (n3 : Nat) (c1 : Option Nat) (c2 : Option Nat) (c3 : Option Nat) (o1 : Bool) (o2 : Bool) (o3 : Bool) (X : List Int) (g : Nat) : Out := trimG 3 [0, 1, 2, 6] [2] (run eM18 27 ⟨5, []⟩ 400 c51 [(1, .var 3 0), (2, .nilSlice), (3, .slice 1 4 g 0 X.length none)] [some ⟨.ints .u8 a, g1, o1, 5⟩, some ⟨.ints .u8 b, g2, o2, 5⟩, some ⟨.ints .i64 u, g3, o3, 3⟩, some ⟨.agg [.slice 1 0 g1 0 n1 c1, .slice 1 1 g2 0 n2 c2, .slice 1 2 g3 0 n3 c3], 0, true, 46⟩, some ⟨.ints .u8 X, g, true, 5⟩] [])
theorem nJ51_ok {a : List Int} {b : List Int} {u : List Int} {g1 : Nat} {g2 : Nat} {g3 : Nat} {n1 : Nat} {n2 : Nat} {n3 : Nat} {c1 : Option Nat} {c2 : Option Nat} {c3 : Option Nat} {o1 : Bool} {o2 : Bool} {o3 : Bool} {X : List Int} {g : Nat} (h : allP [.eqN g1 g1, .eqN g2 g2, .eqN g g, .leN n1 a.length, .leN n2 b.length, .leN X.length X.length, .leN n1 65536, .leN n2 65536, .leN X.length 65536]) :
 Ok (nJ51 a b u g1 g2 g3 n1 n2 n3 c1 c2 c3 o1 o2 o3 X g) := Ok.dem (fl := bitsF 25 16383) (by kernel_rfl) (by kernel_rfl) (by kernel_rfl) h
theorem nJ51_ex {a : List Int} {b : List Int} {u : List Int} {g1 : Nat} {g2 : Nat} {g3 : Nat} {n1 : Nat} {n2 : Nat} {n3 : Nat} {c1 : Option Nat} {c2 : Option Nat} {c3 : Option Nat} {o1 : Bool} {o2 : Bool} {o3 : Bool} {X : List Int} {g : Nat} : (nJ51 a b u g1 g2 g3 n1 n2 n3 c1 c2 c3 o1 o2 o3 X g).ex = .ret := by kernel_rfl
theorem nJ51_fm {a : List Int} {b : List Int} {u : List Int} {g1 : Nat} {g2 : Nat} {g3 : Nat} {n1 : Nat} {n2 : Nat} {n3 : Nat} {c1 : Option Nat} {c2 : Option Nat} {c3 : Option Nat} {o1 : Bool} {o2 : Bool} {o3 : Bool} {X : List Int} {g : Nat} : (nJ51 a b u g1 g2 g3 n1 n2 n3 c1 c2 c3 o1 o2 o3 X g).fm = [(2, .slice 1 3 2 0 (jn3Law (List.take n1 a) (List.take n2 b) (List.take X.length X)).length none)]
 := by kernel_rfl
theorem nJ51_tab {a : List Int} {b : List Int} {u : List Int} {g1 : Nat} {g2 : Nat} {g3 : Nat} {n1 : Nat} {n2 : Nat} {n3 : Nat} {c1 : Option Nat} {c2 : Option Nat} {c3 : Option Nat} {o1 : Bool} {o2 : Bool} {o3 : Bool} {X : List Int} {g : Nat} : (nJ51 a b u g1 g2 g3 n1 n2 n3 c1 c2 c3 o1 o2 o3 X g).tab = [some ⟨.ints .u8 a, g1, o1, 5⟩, some ⟨.ints .u8 b, g2, o2, 5⟩, some ⟨.ints .i64 u, g3, o3, 3⟩,
 some ⟨.ints .u8 (jn3Law (List.take n1 a) (List.take n2 b) (List.take X.length X)), 2, true, 5⟩] := by kernel_rfl
theorem puN_take {u : List Int} {n : Nat} : ∀ i, i ≤ n → puN (List.take n u) i = puN u i
  | 0, _ => rfl
  | i + 1, h => by rw [puN, puN, puN_take i (by omega), take_get (by omega)]
theorem pu_take {u : List Int} {n : Nat} (h : n ≤ u.length) : puLaw (List.take n u) = puN u n := by
  unfold puLaw
  rw [show (List.take n u).length = n by rw [List.length_take]; omega]
  exact puN_take n (Nat.le_refl n)
def F51 (u : List Int) (i : Nat) : Fm := [(1, .var 3 0), (2, .nilSlice), (3, .slice 1 4 i 0 (puN u i).length none), (4, .int .i64 ((i : Nat) : Int))]
theorem loop51 {a b u : List Int} {g1 g2 g3 n1 n2 n3 : Nat} {c1 c2 c3 : Option Nat} {o1 o2 o3 : Bool} (hn : n3 ≤ u.length) (hl : n3 ≤ 64) (hs : ∀ i, i < n3 → 0 ≤ u.getD i 0 ∧ u.getD i 0 < 64) : To eM18 27 5 (.block 0 (.loop (roundOf 0 f51))) (F51 u 0) [some ⟨.ints .u8 a, g1, o1, 5⟩, some ⟨.ints .u8 b, g2, o2, 5⟩, some ⟨.ints .i64 u, g3, o3, 3⟩, some ⟨.agg [.slice 1 0 g1 0 n1 c1, .slice 1 1 g2 0 n2 c2, .slice 1 2 g3 0 n3 c3], 0, true, 46⟩, some ⟨.ints .u8 (puN u 0), 0, true, 5⟩] .normal [(1, .var 3 0), (2, .nilSlice), (3, .slice 1 4 n3 0 (puN u n3).length none)] [some ⟨.ints .u8 a, g1, o1, 5⟩, some ⟨.ints .u8 b, g2, o2, 5⟩, some ⟨.ints .i64 u, g3, o3, 3⟩, some ⟨.agg [.slice 1 0 g1 0 n1 c1, .slice 1 1 g2 0 n2 c2, .slice 1 2 g3 0 n3 c3], 0, true, 46⟩, some ⟨.ints .u8 (puN u n3), n3, true, 5⟩] := by
  refine To.rounds (F51 u) (fun i => [some ⟨.ints .u8 a, g1, o1, 5⟩, some ⟨.ints .u8 b, g2, o2, 5⟩, some ⟨.ints .i64 u, g3, o3, 3⟩, some ⟨.agg [.slice 1 0 g1 0 n1 c1, .slice 1 1 g2 0 n2 c2, .slice 1 2 g3 0 n3 c3], 0, true, 46⟩, some ⟨.ints .u8 (puN u i), i, true, 5⟩]) n3 (fun i hi => ?_) (To.of (o := nE51 a b u g1 g2 g3 n1 n2 n3 c1 c2 c3 o1 o2 o3 (puN u n3) n3 n3) eM18_ok hmN (Nat.le_refl 5) OrcOk.nil rfl (nE51_ok (by
      simp only [allP, Con.h, eq_self, true_and, and_true, beq_iff_eq, beq_eq_false_iff_ne, ne_eq, decide_eq_true_eq, decide_eq_false_iff_not]
      omega)) nE51_ex nE51_fm nE51_tab)
  have hx := puN_len u i
  have h4 := num4 (hs i hi).1 (hs i hi).2
  have e : puN u (i + 1) = puN u i ++ [u.getD i 0 / 16777216 % 256, u.getD i 0 / 65536 % 256, u.getD i 0 / 256 % 256, u.getD i 0 / 1 % 256] := by rw [puN, h4]
  have el : (puN u (i + 1)).length = (puN u i).length + 4 := by rw [e, List.length_append]; rfl
  have hi0 := (hs i hi).1
  refine To.of (o := nD51 a b u g1 g2 g3 n1 n2 n3 c1 c2 c3 o1 o2 o3 (puN u i) i i) eM18_ok hmN (Nat.le_refl 5) OrcOk.nil rfl (nD51_ok (by
    simp only [allP, Con.h, eq_self, true_and, and_true, beq_iff_eq, beq_eq_false_iff_ne, ne_eq, decide_eq_true_eq, decide_eq_false_iff_not, addO_eq]
    omega)) nD51_ex ?_ ?_
  · rw [nD51_fm, addO_eq]
    unfold F51
    rw [el]
    rfl
  · rw [nD51_tab, e]
    simp only [List.take_length]
noncomputable def nsm51c (args : List AVal) (T : Tab) (a : List Int) (b : List Int) (u : List Int) (g1 : Nat) (g2 : Nat) (g3 : Nat) (n1 : Nat) (n2 : Nat) (n3 : Nat) (c1 : Option Nat) (c2 : Option Nat) (c3 : Option Nat) (o1 : Bool) (o2 : Bool) (o3 : Bool) : Res := ⟨[.tab T [some ⟨.ints .u8 a, g1, o1, 5⟩, some ⟨.ints .u8 b, g2, o2, 5⟩, some ⟨.ints .i64 u, g3, o3, 3⟩], .val (.tuple args) (.tuple [.agg [.slice 1 0 g1 0 n1 c1, .slice 1 1 g2 0 n2 c2, .slice 1 2 g3 0 n3 c3]]), .leN n1 a.length, .leN n2 b.length, .leN n3 u.length, .p (RightU n1 n2 (List.take n3 u))], .slice 1 3 2 0 (jn3Law (List.take n1 a) (List.take n2 b) (puLaw (List.take n3 u))).length none, [some ⟨.ints .u8 a, g1, o1, 5⟩, some ⟨.ints .u8 b, g2, o2, 5⟩, some ⟨.ints .i64 u, g3, o3, 3⟩, some ⟨.ints .u8 (jn3Law (List.take n1 a) (List.take n2 b) (puLaw (List.take n3 u))), 2, true, 5⟩]⟩
theorem nsm51c_ok {args : List AVal} {T : Tab} {a : List Int} {b : List Int} {u : List Int} {g1 : Nat} {g2 : Nat} {g3 : Nat} {n1 : Nat} {n2 : Nat} {n3 : Nat} {c1 : Option Nat} {c2 : Option Nat} {c3 : Option Nat} {o1 : Bool} {o2 : Bool} {o3 : Bool} (h : allP (nsm51c args T a b u g1 g2 g3 n1 n2 n3 c1 c2 c3 o1 o2 o3).cs) : Small prog (fun _ => none) 51 args T (nsm51c args T a b u g1 g2 g3 n1 n2 n3 c1 c2 c3 o1 o2 o3).val (nsm51c args T a b u g1 g2 g3 n1 n2 n3 c1 c2 c3 o1 o2 o3).tab := by
  obtain ⟨hT, hv, h1, h2, h3, h4, _⟩ := h
  simp only [Con.h] at hT hv h1 h2 h3 h4
  injection hv with hv
  subst hT hv
  show Small prog (fun _ => none) 51 [.agg [.slice 1 0 g1 0 n1 c1, .slice 1 1 g2 0 n2 c2, .slice 1 2 g3 0 n3 c3]] [some ⟨.ints .u8 a, g1, o1, 5⟩, some ⟨.ints .u8 b, g2, o2, 5⟩, some ⟨.ints .i64 u, g3, o3, 3⟩] (.slice 1 3 2 0 (jn3Law (List.take n1 a) (List.take n2 b) (puLaw (List.take n3 u))).length none) [some ⟨.ints .u8 a, g1, o1, 5⟩, some ⟨.ints .u8 b, g2, o2, 5⟩, some ⟨.ints .i64 u, g3, o3, 3⟩, some ⟨.ints .u8 (jn3Law (List.take n1 a) (List.take n2 b) (puLaw (List.take n3 u))), 2, true, 5⟩]
  have h4 : RightU n1 n2 (List.take n3 u) := h4
  obtain ⟨q1, q2, q3⟩ := h4
  have hU : (List.take n3 u).length = n3 := by rw [List.length_take]; omega
  have hl := rise_len q3
  rw [hU] at hl
  have hS : ∀ i, i < n3 → 0 ≤ u.getD i 0 ∧ u.getD i 0 < 64 := fun i hi => by
    have := rise_in q3 (i := i) (by omega)
    rwa [take_get hi] at this
  have hx := puN_len u n3
  rw [pu_take h3]
  have ht : List.take (puN u n3).length (puN u n3) = puN u n3 := List.take_length
  refine small_of_awp eM18_ok (f := 51) (fn := f51) (c := bodyOf f51) (by kernel_rfl) (by kernel_rfl) (by kernel_rfl) ?_
  have hW : AWp eM18 27 3 (bodyOf f51) (argF [.agg [.slice 1 0 g1 0 n1 c1, .slice 1 1 g2 0 n2 c2, .slice 1 2 g3 0 n3 c3]] 0) [some ⟨.ints .u8 a, g1, o1, 5⟩, some ⟨.ints .u8 b, g2, o2, 5⟩, some ⟨.ints .i64 u, g3, o3, 3⟩] fun ex fm T' => (ex = .normal ∨ ex = .ret) ∧ T' = [some ⟨.ints .u8 a, g1, o1, 5⟩, some ⟨.ints .u8 b, g2, o2, 5⟩, some ⟨.ints .i64 u, g3, o3, 3⟩, some ⟨.ints .u8 (jn3Law (List.take n1 a) (List.take n2 b) (puN u n3)), 2, true, 5⟩] ∧ ∃ cs us, aRes eM18 fm T' f51.results.toList = some (cs, us) ∧ allP cs ∧ retV us = .slice 1 3 2 0 (jn3Law (List.take n1 a) (List.take n2 b) (puN u n3)).length none := by
    refine AWp.cutN eM18_ok hmN 2 (o := nH51 a b u g1 g2 g3 n1 n2 n3 c1 c2 c3 o1 o2 o3) rfl (nH51_ok trivial) nH51_ex ?_
    rw [nH51_fm, nH51_tab, split51]
    refine AWp.nilTo [(1, .var 3 0), (2, .nilSlice), (3, .slice 1 4 0 0 (puN u 0).length none)] .u8 5 ?_ ?_
    · intro s v hs
      match s, hs with
      | 1, hs => exact .inl hs
      | 2, hs => exact .inl hs
      | 3, hs => exact .inr ⟨rfl, 1, by injection hs with hs; exact hs.symm⟩
      | 0, hs => cases hs
      | s + 4, hs => exact .inl hs
    refine AWp.seq (AWp.seq (AWp.base (by decide) (To.of (o := nI51 a b u g1 g2 g3 n1 n2 n3 c1 c2 c3 o1 o2 o3 (puN u 0) 0) (T' := [some ⟨.ints .u8 a, g1, o1, 5⟩, some ⟨.ints .u8 b, g2, o2, 5⟩, some ⟨.ints .i64 u, g3, o3, 3⟩, some ⟨.agg [.slice 1 0 g1 0 n1 c1, .slice 1 1 g2 0 n2 c2, .slice 1 2 g3 0 n3 c3], 0, true, 46⟩, some ⟨.ints .u8 (puN u 0), 0, true, 5⟩]) (fm' := F51 u 0) eM18_ok hmN (Nat.le_refl 5) OrcOk.nil rfl (nI51_ok trivial) nI51_ex nI51_fm nI51_tab) |>.mono ?_))
    rintro ex fm T ⟨rfl, rfl, rfl⟩
    refine (AWp.base (by decide) (loop51 h3 hl hS)).mono ?_
    rintro ex fm T ⟨rfl, rfl, rfl⟩
    refine (To.ofG (o := nJ51 a b u g1 g2 g3 n1 n2 n3 c1 c2 c3 o1 o2 o3 (puN u n3) n3) eM18_ok hmN (by decide) OrcOk.nil rfl (nJ51_ok (by
      simp only [allP, Con.h, eq_self, true_and, and_true, beq_iff_eq, beq_eq_false_iff_ne, ne_eq, decide_eq_true_eq, decide_eq_false_iff_not, Nat.zero_add]
      omega)) nJ51_ex nJ51_fm nJ51_tab).mono ?_
    rintro ex fm T ⟨rfl, rfl, rfl⟩
    rw [ht]
    exact ⟨.inr rfl, rfl, [], [_], by kernel_rfl, trivial, rfl⟩
  exact hW
noncomputable def nsm51 : Summary := fun args T => nsm51c args T (xsAt T 0) (xsAt T 1) (xsAt T 2) (gAt T 0) (gAt T 1) (gAt T 2) (lenOf ((vAt args 0).get 0)) (lenOf ((vAt args 0).get 1)) (lenOf ((vAt args 0).get 2)) (capOf ((vAt args 0).get 0)) (capOf ((vAt args 0).get 1)) (capOf ((vAt args 0).get 2)) (owAt T 0) (owAt T 1) (owAt T 2)
theorem nsm51_ok : SmOk prog (fun _ => none) 51 nsm51 := fun args T h => nsm51c_ok h
noncomputable def nS51 : Summary := callR nsm51 []
theorem nS51_ok : SumOk prog (fun _ => none) 51 nS51 := callR_ok nsm51_ok []
noncomputable def eM19 : Env := eN0 [(50, nS50), (51, nS51)]
theorem eM19_ok : EnvOk eM19 := envOf_ok tysN_ok (SumsOk.cons (fn := f50) nS50_ok (by kernel_rfl) (by kernel_rfl) (by kernel_rfl) (SumsOk.cons (fn := f51) nS51_ok (by kernel_rfl) (by kernel_rfl) (by kernel_rfl) trivial))
noncomputable def nR22g (a : List Int) (b : List Int) (u : List Int) (g1 : Nat) (g2 : Nat) (g3 : Nat) (n1 : Nat) (n2 : Nat) (n3 : Nat) (c1 : Option Nat) (c2 : Option Nat) (c3 : Option Nat) (o1 : Bool) (o2 : Bool) (o3 : Bool) : Res := resG 3 [0, 1, 2, 4] (runF eM19 f22 [] 400 [.agg [.slice 1 0 g1 0 n1 c1, .slice 1 1 g2 0 n2 c2, .slice 1 2 g3 0 n3 c3]] [some ⟨.ints .u8 a, g1, o1, 5⟩, some ⟨.ints .u8 b, g2, o2, 5⟩, some ⟨.ints .i64 u, g3, o3, 3⟩] [some true])
theorem nR22g_ok {a : List Int} {b : List Int} {u : List Int} {g1 : Nat} {g2 : Nat} {g3 : Nat} {n1 : Nat} {n2 : Nat} {n3 : Nat} {c1 : Option Nat} {c2 : Option Nat} {c3 : Option Nat} {o1 : Bool} {o2 : Bool} {o3 : Bool} (h : allP [.eqN g1 g1, .eqN g2 g2, .eqN g3 g3, .leN n3 u.length, .leN n3 140737488355000, .p (decide (n1 = 32 ∧ (n2 = 0 ∨ n2 = 32) ∧ RiseU (List.take n3 u)) = true), .eqN g1 g1, .eqN
 g2 g2, .eqN g3 g3, .leN n1 a.length, .leN n2 b.length, .leN n3 u.length, .p (n1 = 32 ∧ (n2 = 0 ∨ n2 = 32) ∧ RiseU (List.take n3 u))]) : OkR (nR22g a b u g1 g2 g3 n1 n2 n3 c1 c2 c3 o1 o2 o3) := OkR.dem (fl := bitsF 21 3075) (by kernel_rfl) (by kernel_rfl) (by kernel_rfl) h
theorem nR22g_val {a : List Int} {b : List Int} {u : List Int} {g1 : Nat} {g2 : Nat} {g3 : Nat} {n1 : Nat} {n2 : Nat} {n3 : Nat} {c1 : Option Nat} {c2 : Option Nat} {c3 : Option Nat} {o1 : Bool} {o2 : Bool} {o3 : Bool} : (nR22g a b u g1 g2 g3 n1 n2 n3 c1 c2 c3 o1 o2 o3).val = .tuple [.slice 1 3 2 0 (jn3Law (List.take n1 a) (List.take n2 b) (puLaw (List.take n3 u))).length none, .int .i64 0] := by
 kernel_rfl
theorem nR22g_tab {a : List Int} {b : List Int} {u : List Int} {g1 : Nat} {g2 : Nat} {g3 : Nat} {n1 : Nat} {n2 : Nat} {n3 : Nat} {c1 : Option Nat} {c2 : Option Nat} {c3 : Option Nat} {o1 : Bool} {o2 : Bool} {o3 : Bool} : (nR22g a b u g1 g2 g3 n1 n2 n3 c1 c2 c3 o1 o2 o3).tab = [some ⟨.ints .u8 a, g1, o1, 5⟩, some ⟨.ints .u8 b, g2, o2, 5⟩, some ⟨.ints .i64 u, g3, o3, 3⟩, some ⟨.ints .u8 (jn3Law
 (List.take n1 a) (List.take n2 b) (puLaw (List.take n3 u))), 2, true, 5⟩] := by kernel_rfl
noncomputable def nR22b (a : List Int) (b : List Int) (u : List Int) (g1 : Nat) (g2 : Nat) (g3 : Nat) (n1 : Nat) (n2 : Nat) (n3 : Nat) (c1 : Option Nat) (c2 : Option Nat) (c3 : Option Nat) (o1 : Bool) (o2 : Bool) (o3 : Bool) : Res := resG 3 [0, 1, 2] (runF eM19 f22 [] 400 [.agg [.slice 1 0 g1 0 n1 c1, .slice 1 1 g2 0 n2 c2, .slice 1 2 g3 0 n3 c3]] [some ⟨.ints .u8 a, g1, o1, 5⟩, some ⟨.ints .u8 b, g2, o2, 5⟩, some ⟨.ints .i64 u, g3, o3, 3⟩] [some false])
theorem nR22b_ok {a : List Int} {b : List Int} {u : List Int} {g1 : Nat} {g2 : Nat} {g3 : Nat} {n1 : Nat} {n2 : Nat} {n3 : Nat} {c1 : Option Nat} {c2 : Option Nat} {c3 : Option Nat} {o1 : Bool} {o2 : Bool} {o3 : Bool} (h : allP [.eqN g1 g1, .eqN g2 g2, .eqN g3 g3, .leN n3 u.length, .leN n3 140737488355000, .p (decide (n1 = 32 ∧ (n2 = 0 ∨ n2 = 32) ∧ RiseU (List.take n3 u)) = false)]) : OkR (nR22b a
 b u g1 g2 g3 n1 n2 n3 c1 c2 c3 o1 o2 o3) := OkR.dem (fl := [true, true, false, false, false, false, false, false, false, false]) (by kernel_rfl) (by kernel_rfl) (by kernel_rfl) h
theorem nR22b_val {a : List Int} {b : List Int} {u : List Int} {g1 : Nat} {g2 : Nat} {g3 : Nat} {n1 : Nat} {n2 : Nat} {n3 : Nat} {c1 : Option Nat} {c2 : Option Nat} {c3 : Option Nat} {o1 : Bool} {o2 : Bool} {o3 : Bool} : (nR22b a b u g1 g2 g3 n1 n2 n3 c1 c2 c3 o1 o2 o3).val = .tuple [.nilSlice, .int .i64 1] := by kernel_rfl
theorem nR22b_tab {a : List Int} {b : List Int} {u : List Int} {g1 : Nat} {g2 : Nat} {g3 : Nat} {n1 : Nat} {n2 : Nat} {n3 : Nat} {c1 : Option Nat} {c2 : Option Nat} {c3 : Option Nat} {o1 : Bool} {o2 : Bool} {o3 : Bool} : (nR22b a b u g1 g2 g3 n1 n2 n3 c1 c2 c3 o1 o2 o3).tab = [some ⟨.ints .u8 a, g1, o1, 5⟩, some ⟨.ints .u8 b, g2, o2, 5⟩, some ⟨.ints .i64 u, g3, o3, 3⟩] := by kernel_rfl
def ppG2Law (a b u : List Int) : Nat := if RightPa a b u then 2 else 0
noncomputable def nsm22c (args : List AVal) (T : Tab) (a : List Int) (b : List Int) (u : List Int) (g1 : Nat) (g2 : Nat) (g3 : Nat) (n1 : Nat) (n2 : Nat) (n3 : Nat) (c1 : Option Nat) (c2 : Option Nat) (c3 : Option Nat) (o1 : Bool) (o2 : Bool) (o3 : Bool) : Res := ⟨[.tab T [some ⟨.ints .u8 a, g1, o1, 5⟩, some ⟨.ints .u8 b, g2, o2, 5⟩, some ⟨.ints .i64 u, g3, o3, 3⟩], .val (.tuple args) (.tuple [.agg [.slice 1 0 g1 0 n1 c1, .slice 1 1 g2 0 n2 c2, .slice 1 2 g3 0 n3 c3]]), .leN n1 a.length, .leN n2 b.length, .leN n3 u.length, .leN n3 140737488355000], .tuple [.slice 1 3 (ppG2Law (List.take n1 a) (List.take n2 b) (List.take n3 u)) 0 (ppBLaw (List.take n1 a) (List.take n2 b) (List.take n3 u)).length none, .int .i64 (ppELaw (List.take n1 a) (List.take n2 b) (List.take n3 u))], [some ⟨.ints .u8 a, g1, o1, 5⟩, some ⟨.ints .u8 b, g2, o2, 5⟩, some ⟨.ints .i64 u, g3, o3, 3⟩, some ⟨.ints .u8 (ppBLaw (List.take n1 a) (List.take n2 b) (List.take n3 u)), ppG2Law (List.take n1 a) (List.take n2 b) (List.take n3 u), true, 5⟩]⟩
theorem nsm22c_ok {args : List AVal} {T : Tab} {a : List Int} {b : List Int} {u : List Int} {g1 : Nat} {g2 : Nat} {g3 : Nat} {n1 : Nat} {n2 : Nat} {n3 : Nat} {c1 : Option Nat} {c2 : Option Nat} {c3 : Option Nat} {o1 : Bool} {o2 : Bool} {o3 : Bool} (h : allP (nsm22c args T a b u g1 g2 g3 n1 n2 n3 c1 c2 c3 o1 o2 o3).cs) : Small prog (fun _ => none) 22 args T (nsm22c args T a b u g1 g2 g3 n1 n2 n3 c1 c2 c3 o1 o2 o3).val (nsm22c args T a b u g1 g2 g3 n1 n2 n3 c1 c2 c3 o1 o2 o3).tab := by
  obtain ⟨hT, hv, h1, h2, h3, h4, _⟩ := h
  simp only [Con.h] at hT hv h1 h2 h3 h4
  injection hv with hv
  subst hT hv
  show Small prog (fun _ => none) 22 [.agg [.slice 1 0 g1 0 n1 c1, .slice 1 1 g2 0 n2 c2, .slice 1 2 g3 0 n3 c3]] [some ⟨.ints .u8 a, g1, o1, 5⟩, some ⟨.ints .u8 b, g2, o2, 5⟩, some ⟨.ints .i64 u, g3, o3, 3⟩] (.tuple [.slice 1 3 (ppG2Law (List.take n1 a) (List.take n2 b) (List.take n3 u)) 0 (ppBLaw (List.take n1 a) (List.take n2 b) (List.take n3 u)).length none, .int .i64 (ppELaw (List.take n1 a) (List.take n2 b) (List.take n3 u))]) [some ⟨.ints .u8 a, g1, o1, 5⟩, some ⟨.ints .u8 b, g2, o2, 5⟩, some ⟨.ints .i64 u, g3, o3, 3⟩, some ⟨.ints .u8 (ppBLaw (List.take n1 a) (List.take n2 b) (List.take n3 u)), ppG2Law (List.take n1 a) (List.take n2 b) (List.take n3 u), true, 5⟩]
  have l1 : (List.take n1 a).length = n1 := by rw [List.length_take]; omega
  have l2 : (List.take n2 b).length = n2 := by rw [List.length_take]; omega
  by_cases hR : RightPa (List.take n1 a) (List.take n2 b) (List.take n3 u)
  · have hN : RightU n1 n2 (List.take n3 u) := by unfold RightPa at hR; rwa [l1, l2] at hR
    rw [(pp_in hR).1, (pp_in hR).2.1, show ppG2Law (List.take n1 a) (List.take n2 b) (List.take n3 u) = 2 from if_pos hR]
    have hd : decide (RightU n1 n2 (List.take n3 u)) = true := decide_eq_true hN
    refine small_ofG (R := nR22g a b u g1 g2 g3 n1 n2 n3 c1 c2 c3 o1 o2 o3) eM19_ok hmN (f := 22) (fn := f22) (by kernel_rfl) (by kernel_rfl) FnOrc.nil rfl (nR22g_ok ?_) nR22g_val nR22g_tab
    simp only [allP, Con.h, eq_self, true_and, and_true, beq_iff_eq, beq_eq_false_iff_ne, ne_eq, decide_eq_true_eq, decide_eq_false_iff_not, hd]
    exact ⟨h3, h4, hN, h1, h2, h3, hN⟩
  · have hN : ¬ RightU n1 n2 (List.take n3 u) := by unfold RightPa at hR; rwa [l1, l2] at hR
    rw [(pp_out hR).1, (pp_out hR).2.1, show ppG2Law (List.take n1 a) (List.take n2 b) (List.take n3 u) = 0 from if_neg hR]
    have hd : decide (RightU n1 n2 (List.take n3 u)) = false := decide_eq_false hN
    exact small_nil2 .u8 5 (.inr rfl) (small_ofG (R := nR22b a b u g1 g2 g3 n1 n2 n3 c1 c2 c3 o1 o2 o3) eM19_ok hmN (f := 22) (fn := f22) (by kernel_rfl) (by kernel_rfl) FnOrc.nil rfl (nR22b_ok (by
      simp only [allP, Con.h, eq_self, true_and, and_true, beq_iff_eq, beq_eq_false_iff_ne, ne_eq, decide_eq_true_eq, decide_eq_false_iff_not, hd]
      exact ⟨h3, h4, hN⟩)) nR22b_val nR22b_tab) (by simp)
noncomputable def nsm22 : Summary := fun args T => nsm22c args T (xsAt T 0) (xsAt T 1) (xsAt T 2) (gAt T 0) (gAt T 1) (gAt T 2) (lenOf ((vAt args 0).get 0)) (lenOf ((vAt args 0).get 1)) (lenOf ((vAt args 0).get 2)) (capOf ((vAt args 0).get 0)) (capOf ((vAt args 0).get 1)) (capOf ((vAt args 0).get 2)) (owAt T 0) (owAt T 1) (owAt T 2)
theorem nsm22_ok : SmOk prog (fun _ => none) 22 nsm22 := fun args T h => nsm22c_ok h
noncomputable def nS22 : Summary := callR nsm22 []
theorem nS22_ok : SumOk prog (fun _ => none) 22 nS22 := callR_ok nsm22_ok []
end Go.Abs

set_option linter.unusedVariables false
set_option linter.unusedSimpArgs false
set_option maxRecDepth 100000
set_option maxHeartbeats 4000000
namespace Go.Abs
open Go.Proofs Go.Proofs.Try
/-! ### a list of numbers, read chunk by chunk -/
def theCall (o : Oper) : Call := match o.op with | .call c => c | _ => { callee := .value (.tmp 0), args := #[], argTypes := #[] }
def rfAssign : Code → Code
  | .rangeFunc _ _ a _ => a
  | c => c
def rfBody : Code → Code
  | .rangeFunc _ _ _ b => b
  | c => c
noncomputable def rf23 : Code := blkC (sndC (fstC (backC 3 (bodyOf f23))))
noncomputable def as23 : Code := rfAssign rf23
noncomputable def bd23 : Code := rfBody rf23
noncomputable def nS53 : Summary := sumI modeO (eN0 []) f53 [] 100 [some false] []
theorem nS53_ok : SumOk prog (fun _ => none) 53 nS53 := sumI_ok eN0_ok hmN (fn := f53) (by kernel_rfl) (by kernel_rfl) [] FnOrc.nil 100 [some false] []
noncomputable def eG6 : Env := eN0 [(42, S23r), (52, S29r), (53, nS53), (54, S25r)]
theorem eG6_ok : EnvOk eG6 := envOf_ok tysN_ok (SumsOk.cons (fn := f42) S23r_ok (by kernel_rfl) (by kernel_rfl) (by kernel_rfl) (SumsOk.cons (fn := f52) S29r_ok (by kernel_rfl) (by kernel_rfl) (by kernel_rfl) (SumsOk.cons (fn := f53) nS53_ok (by kernel_rfl) (by kernel_rfl) (by kernel_rfl) (SumsOk.cons (fn := f54) S25r_ok (by kernel_rfl) (by kernel_rfl) (by kernel_rfl) trivial))))
noncomputable def f23a : Code := fstC (fstC (backC 3 (bodyOf f23)))
noncomputable def hd81 : Code := fstC (roundOf 0 f81)
noncomputable def x81 : Code := blkC (fstC (sndC (roundOf 0 f81)))
noncomputable def ra81 : Code := fstC x81
noncomputable def rb81 : Code := fstC (sndC x81)
noncomputable def ops81 : Array Oper := match rb81 with | .region _ o _ => o | _ => #[]
noncomputable def cnd81 : Code := sndC (sndC x81)
noncomputable def rz81 : Code := sndC (sndC (roundOf 0 f81))
theorem split81 : roundOf 0 f81 = .seq hd81 (.seq (.block 1 (.seq ra81 (.seq (.region 4 ops81 false) cnd81))) rz81) := by kernel_rfl
theorem splitb81 : bodyOf f81 = .seq (fstC (bodyOf f81)) (.block 0 (.loop (roundOf 0 f81))) := by kernel_rfl
theorem rf23_eq : rf23 = .rangeFunc (.tmp 16) #[17] as23 bd23 := by kernel_rfl
theorem res81 : f81.results.toList = [] := by kernel_rfl
noncomputable def nHd (zs Bs xs hs us ks : List Int) (g off n ro rn gk i : Nat) (cp : Option Nat) (ow : Bool) (re : Int) (l : Nat) : Out := trim 11 11 [0,1,2,4] (run eG6 31 ⟨11, []⟩ 400 hd81 [(0, .func (.yield l) [] []), (1, .var 8 0), (2, .var 9 0), (4, .int .i64 (4 * (i : Nat)))] [some ⟨.ints .u8 zs, g, ow, 5⟩, some ⟨.agg [.nilSlice, .nilSlice, .nilSlice], 0, true, 47⟩, some ⟨.agg [.slice 1 3 1 ro rn none, .int .i64 re, .bool true], 0, true, 115⟩, some ⟨.ints .u8 Bs, 1, true, 5⟩, some ⟨.agg [.slice 1 5 1 0 xs.length none, .slice 1 6 1 0 hs.length none, .slice 1 10 gk 0 ks.length none], 0, true, 47⟩, some ⟨.ints .u8 xs, 1, true, 5⟩, some ⟨.ints .u8 hs, 1, true, 5⟩, some ⟨.ints .u8 us, 1, true, 5⟩, some ⟨.agg [.slice 1 7 1 0 us.length none], 0, true, 22⟩, some ⟨.ints .i64 [4], 0, true, 3⟩, some ⟨.ints .i64 ks, gk, true, 3⟩] [some true])
theorem nHd_ok {zs Bs xs hs us ks : List Int} {g off n ro rn gk i : Nat} {cp : Option Nat} {ow : Bool} {re : Int} {l : Nat} (h : allP [.p (decide (4 * (↑i : Int) < (↑us.length : Int)) = true)]) : Ok (nHd zs Bs xs hs us ks g off n ro rn gk i cp ow re l) := Ok.dem (fl := [true, true, true, false]) (by kernel_rfl) (by kernel_rfl) (by kernel_rfl) h
theorem nHd_ex {zs Bs xs hs us ks : List Int} {g off n ro rn gk i : Nat} {cp : Option Nat} {ow : Bool} {re : Int} {l : Nat} : (nHd zs Bs xs hs us ks g off n ro rn gk i cp ow re l).ex = .normal := by kernel_rfl
theorem nHd_fm {zs Bs xs hs us ks : List Int} {g off n ro rn gk i : Nat} {cp : Option Nat} {ow : Bool} {re : Int} {l : Nat} : (nHd zs Bs xs hs us ks g off n ro rn gk i cp ow re l).fm = [(0, .func (Fn.yield l) [] []), (1, .var 8 0), (2, .var 9 0), (4, .int .i64 (4 * (↑i : Int)))] := by kernel_rfl
theorem nHd_tab {zs Bs xs hs us ks : List Int} {g off n ro rn gk i : Nat} {cp : Option Nat} {ow : Bool} {re : Int} {l : Nat} : (nHd zs Bs xs hs us ks g off n ro rn gk i cp ow re l).tab = [some ⟨.ints .u8 zs, g, ow, 5⟩, some ⟨.agg [.nilSlice, .nilSlice, .nilSlice], 0, true, 47⟩, some ⟨.agg [.slice 1 3 1 ro rn none, .int .i64 re, .bool true], 0, true, 115⟩, some ⟨.ints .u8 Bs, 1, true, 5⟩, some ⟨.agg
 [.slice 1 5 1 0 xs.length none, .slice 1 6 1 0 hs.length none, .slice 1 10 gk 0 ks.length none], 0, true, 47⟩, some ⟨.ints .u8 xs, 1, true, 5⟩, some ⟨.ints .u8 hs, 1, true, 5⟩, some ⟨.ints .u8 us, 1, true, 5⟩, some ⟨.agg [.slice 1 7 1 0 us.length none], 0, true, 22⟩, some ⟨.ints .i64 [4], 0, true, 3⟩, some ⟨.ints .i64 ks, gk, true, 3⟩] := by kernel_rfl
noncomputable def nHe (zs Bs xs hs us ks : List Int) (g off n ro rn gk i : Nat) (cp : Option Nat) (ow : Bool) (re : Int) (l : Nat) : Out := trim 11 11 [] (run eG6 31 ⟨11, []⟩ 400 hd81 [(0, .func (.yield l) [] []), (1, .var 8 0), (2, .var 9 0), (4, .int .i64 (4 * (i : Nat)))] [some ⟨.ints .u8 zs, g, ow, 5⟩, some ⟨.agg [.nilSlice, .nilSlice, .nilSlice], 0, true, 47⟩, some ⟨.agg [.slice 1 3 1 ro rn none, .int .i64 re, .bool true], 0, true, 115⟩, some ⟨.ints .u8 Bs, 1, true, 5⟩, some ⟨.agg [.slice 1 5 1 0 xs.length none, .slice 1 6 1 0 hs.length none, .slice 1 10 gk 0 ks.length none], 0, true, 47⟩, some ⟨.ints .u8 xs, 1, true, 5⟩, some ⟨.ints .u8 hs, 1, true, 5⟩, some ⟨.ints .u8 us, 1, true, 5⟩, some ⟨.agg [.slice 1 7 1 0 us.length none], 0, true, 22⟩, some ⟨.ints .i64 [4], 0, true, 3⟩, some ⟨.ints .i64 ks, gk, true, 3⟩] [some false])
theorem nHe_ok {zs Bs xs hs us ks : List Int} {g off n ro rn gk i : Nat} {cp : Option Nat} {ow : Bool} {re : Int} {l : Nat} (h : allP [.p (decide (4 * (↑i : Int) < (↑us.length : Int)) = false)]) : Ok (nHe zs Bs xs hs us ks g off n ro rn gk i cp ow re l) := Ok.dem (fl := [true, true, true, false]) (by kernel_rfl) (by kernel_rfl) (by kernel_rfl) h
theorem nHe_ex {zs Bs xs hs us ks : List Int} {g off n ro rn gk i : Nat} {cp : Option Nat} {ow : Bool} {re : Int} {l : Nat} : (nHe zs Bs xs hs us ks g off n ro rn gk i cp ow re l).ex = .exit 0 := by kernel_rfl
theorem nHe_fm {zs Bs xs hs us ks : List Int} {g off n ro rn gk i : Nat} {cp : Option Nat} {ow : Bool} {re : Int} {l : Nat} : (nHe zs Bs xs hs us ks g off n ro rn gk i cp ow re l).fm = [] := by kernel_rfl
theorem nHe_tab {zs Bs xs hs us ks : List Int} {g off n ro rn gk i : Nat} {cp : Option Nat} {ow : Bool} {re : Int} {l : Nat} : (nHe zs Bs xs hs us ks g off n ro rn gk i cp ow re l).tab = [some ⟨.ints .u8 zs, g, ow, 5⟩, some ⟨.agg [.nilSlice, .nilSlice, .nilSlice], 0, true, 47⟩, some ⟨.agg [.slice 1 3 1 ro rn none, .int .i64 re, .bool true], 0, true, 115⟩, some ⟨.ints .u8 Bs, 1, true, 5⟩, some ⟨.agg
 [.slice 1 5 1 0 xs.length none, .slice 1 6 1 0 hs.length none, .slice 1 10 gk 0 ks.length none], 0, true, 47⟩, some ⟨.ints .u8 xs, 1, true, 5⟩, some ⟨.ints .u8 hs, 1, true, 5⟩, some ⟨.ints .u8 us, 1, true, 5⟩, some ⟨.agg [.slice 1 7 1 0 us.length none], 0, true, 22⟩, some ⟨.ints .i64 [4], 0, true, 3⟩, some ⟨.ints .i64 ks, gk, true, 3⟩] := by kernel_rfl
noncomputable def nRa (zs Bs xs hs us ks : List Int) (g off n ro rn gk i : Nat) (cp : Option Nat) (ow : Bool) (re : Int) (l : Nat) : Out := trim 11 11 [0,1,2,4,5] (run eG6 31 ⟨11, []⟩ 400 ra81 [(0, .func (.yield l) [] []), (1, .var 8 0), (2, .var 9 0), (4, .int .i64 (4 * (i : Nat)))] [some ⟨.ints .u8 zs, g, ow, 5⟩, some ⟨.agg [.nilSlice, .nilSlice, .nilSlice], 0, true, 47⟩, some ⟨.agg [.slice 1 3 1 ro rn none, .int .i64 re, .bool true], 0, true, 115⟩, some ⟨.ints .u8 Bs, 1, true, 5⟩, some ⟨.agg [.slice 1 5 1 0 xs.length none, .slice 1 6 1 0 hs.length none, .slice 1 10 gk 0 ks.length none], 0, true, 47⟩, some ⟨.ints .u8 xs, 1, true, 5⟩, some ⟨.ints .u8 hs, 1, true, 5⟩, some ⟨.ints .u8 us, 1, true, 5⟩, some ⟨.agg [.slice 1 7 1 0 us.length none], 0, true, 22⟩, some ⟨.ints .i64 [4], 0, true, 3⟩, some ⟨.ints .i64 ks, gk, true, 3⟩] [])
theorem nRa_ok {zs Bs xs hs us ks : List Int} {g off n ro rn gk i : Nat} {cp : Option Nat} {ow : Bool} {re : Int} {l : Nat} (h : allP [.leI 0 (4 * (↑i : Int)), .leN (4 * i) us.length]) : Ok (nRa zs Bs xs hs us ks g off n ro rn gk i cp ow re l) := Ok.dem (fl := [false, true, true, true, true, false, true, false, true]) (by kernel_rfl) (by kernel_rfl) (by kernel_rfl) h
theorem nRa_ex {zs Bs xs hs us ks : List Int} {g off n ro rn gk i : Nat} {cp : Option Nat} {ow : Bool} {re : Int} {l : Nat} : (nRa zs Bs xs hs us ks g off n ro rn gk i cp ow re l).ex = .normal := by kernel_rfl
theorem nRa_fm {zs Bs xs hs us ks : List Int} {g off n ro rn gk i : Nat} {cp : Option Nat} {ow : Bool} {re : Int} {l : Nat} : (nRa zs Bs xs hs us ks g off n ro rn gk i cp ow re l).fm = [(0, .func (Fn.yield l) [] []), (1, .var 8 0), (2, .var 9 0), (4, .int .i64 (4 * (↑i : Int))), (5, .int .i64 (if (↑(subO us.length (4 * i)) : Int) < 4 then (↑(subO us.length (4 * i)) : Int) else 4))] := by kernel_rfl
theorem nRa_tab {zs Bs xs hs us ks : List Int} {g off n ro rn gk i : Nat} {cp : Option Nat} {ow : Bool} {re : Int} {l : Nat} : (nRa zs Bs xs hs us ks g off n ro rn gk i cp ow re l).tab = [some ⟨.ints .u8 zs, g, ow, 5⟩, some ⟨.agg [.nilSlice, .nilSlice, .nilSlice], 0, true, 47⟩, some ⟨.agg [.slice 1 3 1 ro rn none, .int .i64 re, .bool true], 0, true, 115⟩, some ⟨.ints .u8 Bs, 1, true, 5⟩, some ⟨.agg
 [.slice 1 5 1 0 xs.length none, .slice 1 6 1 0 hs.length none, .slice 1 10 gk 0 ks.length none], 0, true, 47⟩, some ⟨.ints .u8 xs, 1, true, 5⟩, some ⟨.ints .u8 hs, 1, true, 5⟩, some ⟨.ints .u8 us, 1, true, 5⟩, some ⟨.agg [.slice 1 7 1 0 us.length none], 0, true, 22⟩, some ⟨.ints .i64 [4], 0, true, 3⟩, some ⟨.ints .i64 ks, gk, true, 3⟩] := by kernel_rfl
noncomputable def nYp (zs Bs xs hs us ks : List Int) (g off n ro rn gk i : Nat) (cp : Option Nat) (ow : Bool) (re : Int) (e l : Nat) : Out := runOps eG6 ops81.toList 31 (ops81.toList.take 10) [(0, .func (.yield l) [] []), (1, .var 8 0), (2, .var 9 0), (4, .int .i64 (4 * (i : Nat))), (5, .int .i64 (e : Nat))] (([some ⟨.ints .u8 zs, g, ow, 5⟩, some ⟨.agg [.nilSlice, .nilSlice, .nilSlice], 0, true, 47⟩, some ⟨.agg [.slice 1 3 1 ro rn none, .int .i64 re, .bool true], 0, true, 115⟩, some ⟨.ints .u8 Bs, 1, true, 5⟩, some ⟨.agg [.slice 1 5 1 0 xs.length none, .slice 1 6 1 0 hs.length none, .slice 1 10 gk 0 ks.length none], 0, true, 47⟩, some ⟨.ints .u8 xs, 1, true, 5⟩, some ⟨.ints .u8 hs, 1, true, 5⟩, some ⟨.ints .u8 us, 1, true, 5⟩, some ⟨.agg [.slice 1 7 1 0 us.length none], 0, true, 22⟩, some ⟨.ints .i64 [4], 0, true, 3⟩, some ⟨.ints .i64 ks, gk, true, 3⟩] : Tab) ++ holes (cntA eG6 (ops81.toList.take 10))) ([some ⟨.ints .u8 zs, g, ow, 5⟩, some ⟨.agg [.nilSlice, .nilSlice, .nilSlice], 0, true, 47⟩, some ⟨.agg [.slice 1 3 1 ro rn none, .int .i64 re, .bool true], 0, true, 115⟩, some ⟨.ints .u8 Bs, 1, true, 5⟩, some ⟨.agg [.slice 1 5 1 0 xs.length none, .slice 1 6 1 0 hs.length none, .slice 1 10 gk 0 ks.length none], 0, true, 47⟩, some ⟨.ints .u8 xs, 1, true, 5⟩, some ⟨.ints .u8 hs, 1, true, 5⟩, some ⟨.ints .u8 us, 1, true, 5⟩, some ⟨.agg [.slice 1 7 1 0 us.length none], 0, true, 22⟩, some ⟨.ints .i64 [4], 0, true, 3⟩, some ⟨.ints .i64 ks, gk, true, 3⟩] : Tab).length []
theorem nYp_ok {zs Bs xs hs us ks : List Int} {g off n ro rn gk i : Nat} {cp : Option Nat} {ow : Bool} {re : Int} {e l : Nat} (h : allP [.rng (-9223372036854775808) (4 * (↑i : Int) + (↑e : Int)) 9223372036854775807, .rng (-9223372036854775808) (4 * (↑i : Int) + (↑e : Int)) 9223372036854775807, .leI 0 (4 * (↑i : Int)), .leI 0 (4 * (↑i : Int) + (↑e : Int)), .leI 0 (4 * (↑i : Int) + (↑e : Int)), .leN
 (4 * i) (4 * i + e), .leN (4 * i + e) (4 * i + e), .orN (4 * i + e) us.length (0 + (4 * i + e)) us.length]) : Ok (nYp zs Bs xs hs us ks g off n ro rn gk i cp ow re e l) := Ok.dem (fl := [true, true, false, false, false, false, false, true, false, false, false]) (by kernel_rfl) (by kernel_rfl) (by kernel_rfl) h
theorem nYp_fm {zs Bs xs hs us ks : List Int} {g off n ro rn gk i : Nat} {cp : Option Nat} {ow : Bool} {re : Int} {e l : Nat} : (nYp zs Bs xs hs us ks g off n ro rn gk i cp ow re e l).fm = [(28, .slice 1 7 1 (4 * i) (subO (4 * i + e) (4 * i)) (some (subO (4 * i + e) (4 * i)))), (27, .int .i64 (4 * (↑i : Int) + (↑e : Int))), (26, .int .i64 (↑e : Int)), (25, .int .i64 (4 * (↑i : Int))), (24, .int
 .i64 (4 * (↑i : Int) + (↑e : Int))), (23, .int .i64 (↑e : Int)), (22, .int .i64 (4 * (↑i : Int))), (21, .int .i64 (4 * (↑i : Int))), (20, .slice 1 7 1 0 us.length none), (19, .func (Fn.yield l) [] []), (0, .func (Fn.yield l) [] []), (1, .var 8 0), (2, .var 9 0), (4, .int .i64 (4 * (↑i : Int))), (5, .int .i64 (↑e : Int))] := by kernel_rfl
theorem nYp_tab {zs Bs xs hs us ks : List Int} {g off n ro rn gk i : Nat} {cp : Option Nat} {ow : Bool} {re : Int} {e l : Nat} : (nYp zs Bs xs hs us ks g off n ro rn gk i cp ow re e l).tab = [some ⟨.ints .u8 zs, g, ow, 5⟩, some ⟨.agg [.nilSlice, .nilSlice, .nilSlice], 0, true, 47⟩, some ⟨.agg [.slice 1 3 1 ro rn none, .int .i64 re, .bool true], 0, true, 115⟩, some ⟨.ints .u8 Bs, 1, true, 5⟩, some
 ⟨.agg [.slice 1 5 1 0 xs.length none, .slice 1 6 1 0 hs.length none, .slice 1 10 gk 0 ks.length none], 0, true, 47⟩, some ⟨.ints .u8 xs, 1, true, 5⟩, some ⟨.ints .u8 hs, 1, true, 5⟩, some ⟨.ints .u8 us, 1, true, 5⟩, some ⟨.agg [.slice 1 7 1 0 us.length none], 0, true, 22⟩, some ⟨.ints .i64 [4], 0, true, 3⟩, some ⟨.ints .i64 ks, gk, true, 3⟩] := by kernel_rfl
noncomputable def nAs (zs Bs xs hs us ks : List Int) (g off n ro rn gk i : Nat) (cp : Option Nat) (ow : Bool) (re : Int) (e : Nat) : Out := trim 11 11 [0,2,3,4,5,6,16] (run eG6 32 ⟨11, []⟩ 400 as23 ((17, .slice 1 7 1 (4 * i) e (some e)) :: [(0, .slice 1 0 g off n cp), (2, .var 1 0), (3, .int .i64 0), (4, .var 2 0), (5, .var 4 0), (16, .func (.func 81) [] [.var 8 0, .var 9 0])]) [some ⟨.ints .u8 zs, g, ow, 5⟩, some ⟨.agg [.nilSlice, .nilSlice, .nilSlice], 0, true, 47⟩, some ⟨.agg [.slice 1 3 1 ro rn none, .int .i64 re, .bool true], 0, true, 115⟩, some ⟨.ints .u8 Bs, 1, true, 5⟩, some ⟨.agg [.slice 1 5 1 0 xs.length none, .slice 1 6 1 0 hs.length none, .slice 1 10 gk 0 ks.length none], 0, true, 47⟩, some ⟨.ints .u8 xs, 1, true, 5⟩, some ⟨.ints .u8 hs, 1, true, 5⟩, some ⟨.ints .u8 us, 1, true, 5⟩, some ⟨.agg [.slice 1 7 1 0 us.length none], 0, true, 22⟩, some ⟨.ints .i64 [4], 0, true, 3⟩, some ⟨.ints .i64 ks, gk, true, 3⟩] [])
theorem nAs_ok {zs Bs xs hs us ks : List Int} {g off n ro rn gk i : Nat} {cp : Option Nat} {ow : Bool} {re : Int} {e : Nat} (h : allP []) : Ok (nAs zs Bs xs hs us ks g off n ro rn gk i cp ow re e) := Ok.dem (fl := []) (by kernel_rfl) (by kernel_rfl) (by kernel_rfl) h
theorem nAs_ex {zs Bs xs hs us ks : List Int} {g off n ro rn gk i : Nat} {cp : Option Nat} {ow : Bool} {re : Int} {e : Nat} : (nAs zs Bs xs hs us ks g off n ro rn gk i cp ow re e).ex = .normal := by kernel_rfl
theorem nAs_fm {zs Bs xs hs us ks : List Int} {g off n ro rn gk i : Nat} {cp : Option Nat} {ow : Bool} {re : Int} {e : Nat} : (nAs zs Bs xs hs us ks g off n ro rn gk i cp ow re e).fm = [(0, .slice 1 0 g off n cp), (2, .var 1 0), (3, .int .i64 0), (4, .var 2 0), (5, .var 4 0), (6, .slice 1 7 1 (4 * i) e (some e)), (16, .func (Fn.func 81) [] [.var 8 0, .var 9 0])] := by kernel_rfl
theorem nAs_tab {zs Bs xs hs us ks : List Int} {g off n ro rn gk i : Nat} {cp : Option Nat} {ow : Bool} {re : Int} {e : Nat} : (nAs zs Bs xs hs us ks g off n ro rn gk i cp ow re e).tab = [some ⟨.ints .u8 zs, g, ow, 5⟩, some ⟨.agg [.nilSlice, .nilSlice, .nilSlice], 0, true, 47⟩, some ⟨.agg [.slice 1 3 1 ro rn none, .int .i64 re, .bool true], 0, true, 115⟩, some ⟨.ints .u8 Bs, 1, true, 5⟩, some ⟨.agg
 [.slice 1 5 1 0 xs.length none, .slice 1 6 1 0 hs.length none, .slice 1 10 gk 0 ks.length none], 0, true, 47⟩, some ⟨.ints .u8 xs, 1, true, 5⟩, some ⟨.ints .u8 hs, 1, true, 5⟩, some ⟨.ints .u8 us, 1, true, 5⟩, some ⟨.agg [.slice 1 7 1 0 us.length none], 0, true, 22⟩, some ⟨.ints .i64 [4], 0, true, 3⟩, some ⟨.ints .i64 ks, gk, true, 3⟩] := by kernel_rfl
noncomputable def nBd (zs Bs xs hs us ks : List Int) (g off n ro rn gk i : Nat) (cp : Option Nat) (ow : Bool) (re : Int) (e : Nat) : Out := trimG 11 [0, 1, 2, 3, 4, 5, 6, 7, 8, 9, 10] [0,2,3,4,5,16] (run eG6 32 ⟨11, []⟩ 400 bd23 [(0, .slice 1 0 g off n cp), (2, .var 1 0), (3, .int .i64 0), (4, .var 2 0), (5, .var 4 0), (6, .slice 1 7 1 (4 * i) e (some e)), (16, .func (.func 81) [] [.var 8 0, .var 9 0])] [some ⟨.ints .u8 zs, g, ow, 5⟩, some ⟨.agg [.nilSlice, .nilSlice, .nilSlice], 0, true, 47⟩, some ⟨.agg [.slice 1 3 1 ro rn none, .int .i64 re, .bool true], 0, true, 115⟩, some ⟨.ints .u8 Bs, 1, true, 5⟩, some ⟨.agg [.slice 1 5 1 0 xs.length none, .slice 1 6 1 0 hs.length none, .slice 1 10 gk 0 ks.length none], 0, true, 47⟩, some ⟨.ints .u8 xs, 1, true, 5⟩, some ⟨.ints .u8 hs, 1, true, 5⟩, some ⟨.ints .u8 us, 1, true, 5⟩, some ⟨.agg [.slice 1 7 1 0 us.length none], 0, true, 22⟩, some ⟨.ints .i64 [4], 0, true, 3⟩, some ⟨.ints .i64 ks, gk, true, 3⟩] [])
theorem nBd_ok {zs Bs xs hs us ks : List Int} {g off n ro rn gk i : Nat} {cp : Option Nat} {ow : Bool} {re : Int} {e : Nat} (h : allP [.leN (4 * i + e) us.length, .leN e 140737488355000, .eqN e ((subLaw us (4 * i) e).length - 0), .leN 0 (subLaw us (4 * i) e).length, .p (ByLaw (subLaw us (4 * i) e)), .eqN gk gk, .leN (0 + ks.length) ks.length, .leN (addO ks.length 1 * 8) 140737488355328]) : Ok (nBd
 zs Bs xs hs us ks g off n ro rn gk i cp ow re e) := Ok.dem (fl := bitsF 44 8642414795734) (by kernel_rfl) (by kernel_rfl) (by kernel_rfl) h
theorem nBd_ex {zs Bs xs hs us ks : List Int} {g off n ro rn gk i : Nat} {cp : Option Nat} {ow : Bool} {re : Int} {e : Nat} : (nBd zs Bs xs hs us ks g off n ro rn gk i cp ow re e).ex = .normal := by kernel_rfl
theorem nBd_fm {zs Bs xs hs us ks : List Int} {g off n ro rn gk i : Nat} {cp : Option Nat} {ow : Bool} {re : Int} {e : Nat} : (nBd zs Bs xs hs us ks g off n ro rn gk i cp ow re e).fm = [(0, .slice 1 0 g off n cp), (2, .var 1 0), (3, .int .i64 0), (4, .var 2 0), (5, .var 4 0), (16, .func (Fn.func 81) [] [.var 8 0, .var 9 0])] := by kernel_rfl
theorem nBd_tab {zs Bs xs hs us ks : List Int} {g off n ro rn gk i : Nat} {cp : Option Nat} {ow : Bool} {re : Int} {e : Nat} : (nBd zs Bs xs hs us ks g off n ro rn gk i cp ow re e).tab = [some ⟨.ints .u8 zs, g, ow, 5⟩, some ⟨.agg [.nilSlice, .nilSlice, .nilSlice], 0, true, 47⟩, some ⟨.agg [.slice 1 3 1 ro rn none, .int .i64 re, .bool true], 0, true, 115⟩, some ⟨.ints .u8 Bs, 1, true, 5⟩, some ⟨.agg
 [.slice 1 5 1 0 xs.length none, .slice 1 6 1 0 hs.length none, .slice 1 10 (gk + 1) 0 (addO ks.length 1) none], 0, true, 47⟩, some ⟨.ints .u8 xs, 1, true, 5⟩, some ⟨.ints .u8 hs, 1, true, 5⟩, some ⟨.ints .u8 us, 1, true, 5⟩, some ⟨.agg [.slice 1 7 1 0 us.length none], 0, true, 22⟩, some ⟨.ints .i64 [4], 0, true, 3⟩, some ⟨.ints .i64 (List.take ks.length ks ++ List.take 1 ([0].set 0 (rnVLaw (subLaw
 us (4 * i) e) 0 0 4))), gk + 1, true, 3⟩] := by kernel_rfl
noncomputable def nYn (zs Bs xs hs us ks : List Int) (g off n ro rn gk i : Nat) (cp : Option Nat) (ow : Bool) (re : Int) (e l : Nat) : Out := runOps eG6 ops81.toList 31 (ops81.toList.drop 11) ((29, .bool true) :: (nYp zs Bs xs hs us ks g off n ro rn gk i cp ow re e l).fm) (([some ⟨.ints .u8 zs, g, ow, 5⟩, some ⟨.agg [.nilSlice, .nilSlice, .nilSlice], 0, true, 47⟩, some ⟨.agg [.slice 1 3 1 ro rn none, .int .i64 re, .bool true], 0, true, 115⟩, some ⟨.ints .u8 Bs, 1, true, 5⟩, some ⟨.agg [.slice 1 5 1 0 xs.length none, .slice 1 6 1 0 hs.length none, .slice 1 10 gk 0 ks.length none], 0, true, 47⟩, some ⟨.ints .u8 xs, 1, true, 5⟩, some ⟨.ints .u8 hs, 1, true, 5⟩, some ⟨.ints .u8 us, 1, true, 5⟩, some ⟨.agg [.slice 1 7 1 0 us.length none], 0, true, 22⟩, some ⟨.ints .i64 [4], 0, true, 3⟩, some ⟨.ints .i64 ks, gk, true, 3⟩] : Tab) ++ holes (cntA eG6 (ops81.toList.drop 11))) ([some ⟨.ints .u8 zs, g, ow, 5⟩, some ⟨.agg [.nilSlice, .nilSlice, .nilSlice], 0, true, 47⟩, some ⟨.agg [.slice 1 3 1 ro rn none, .int .i64 re, .bool true], 0, true, 115⟩, some ⟨.ints .u8 Bs, 1, true, 5⟩, some ⟨.agg [.slice 1 5 1 0 xs.length none, .slice 1 6 1 0 hs.length none, .slice 1 10 gk 0 ks.length none], 0, true, 47⟩, some ⟨.ints .u8 xs, 1, true, 5⟩, some ⟨.ints .u8 hs, 1, true, 5⟩, some ⟨.ints .u8 us, 1, true, 5⟩, some ⟨.agg [.slice 1 7 1 0 us.length none], 0, true, 22⟩, some ⟨.ints .i64 [4], 0, true, 3⟩, some ⟨.ints .i64 ks, gk, true, 3⟩] : Tab).length []
theorem nYn_ok {zs Bs xs hs us ks : List Int} {g off n ro rn gk i : Nat} {cp : Option Nat} {ow : Bool} {re : Int} {e l : Nat} (h : allP []) : Ok (nYn zs Bs xs hs us ks g off n ro rn gk i cp ow re e l) := Ok.dem (fl := []) (by kernel_rfl) (by kernel_rfl) (by kernel_rfl) h
theorem nYn_fm {zs Bs xs hs us ks : List Int} {g off n ro rn gk i : Nat} {cp : Option Nat} {ow : Bool} {re : Int} {e l : Nat} : (nYn zs Bs xs hs us ks g off n ro rn gk i cp ow re e l).fm = [(30, .bool false), (29, .bool true), (28, .slice 1 7 1 (4 * i) (subO (4 * i + e) (4 * i)) (some (subO (4 * i + e) (4 * i)))), (27, .int .i64 (4 * (↑i : Int) + (↑e : Int))), (26, .int .i64 (↑e : Int)), (25, .int
 .i64 (4 * (↑i : Int))), (24, .int .i64 (4 * (↑i : Int) + (↑e : Int))), (23, .int .i64 (↑e : Int)), (22, .int .i64 (4 * (↑i : Int))), (21, .int .i64 (4 * (↑i : Int))), (20, .slice 1 7 1 0 us.length none), (19, .func (Fn.yield l) [] []), (0, .func (Fn.yield l) [] []), (1, .var 8 0), (2, .var 9 0), (4, .int .i64 (4 * (↑i : Int))), (5, .int .i64 (↑e : Int))] := by kernel_rfl
theorem nYn_tab {zs Bs xs hs us ks : List Int} {g off n ro rn gk i : Nat} {cp : Option Nat} {ow : Bool} {re : Int} {e l : Nat} : (nYn zs Bs xs hs us ks g off n ro rn gk i cp ow re e l).tab = [some ⟨.ints .u8 zs, g, ow, 5⟩, some ⟨.agg [.nilSlice, .nilSlice, .nilSlice], 0, true, 47⟩, some ⟨.agg [.slice 1 3 1 ro rn none, .int .i64 re, .bool true], 0, true, 115⟩, some ⟨.ints .u8 Bs, 1, true, 5⟩, some
 ⟨.agg [.slice 1 5 1 0 xs.length none, .slice 1 6 1 0 hs.length none, .slice 1 10 gk 0 ks.length none], 0, true, 47⟩, some ⟨.ints .u8 xs, 1, true, 5⟩, some ⟨.ints .u8 hs, 1, true, 5⟩, some ⟨.ints .u8 us, 1, true, 5⟩, some ⟨.agg [.slice 1 7 1 0 us.length none], 0, true, 22⟩, some ⟨.ints .i64 [4], 0, true, 3⟩, some ⟨.ints .i64 ks, gk, true, 3⟩] := by kernel_rfl
noncomputable def nCn (zs Bs xs hs us ks : List Int) (g off n ro rn gk i : Nat) (cp : Option Nat) (ow : Bool) (re : Int) (e l : Nat) : Out := trim 11 11 [0,1,2,4,5] (run eG6 31 ⟨11, []⟩ 400 cnd81 (nYn zs Bs xs hs us ks g off n ro rn gk i cp ow re e l).fm [some ⟨.ints .u8 zs, g, ow, 5⟩, some ⟨.agg [.nilSlice, .nilSlice, .nilSlice], 0, true, 47⟩, some ⟨.agg [.slice 1 3 1 ro rn none, .int .i64 re, .bool true], 0, true, 115⟩, some ⟨.ints .u8 Bs, 1, true, 5⟩, some ⟨.agg [.slice 1 5 1 0 xs.length none, .slice 1 6 1 0 hs.length none, .slice 1 10 gk 0 ks.length none], 0, true, 47⟩, some ⟨.ints .u8 xs, 1, true, 5⟩, some ⟨.ints .u8 hs, 1, true, 5⟩, some ⟨.ints .u8 us, 1, true, 5⟩, some ⟨.agg [.slice 1 7 1 0 us.length none], 0, true, 22⟩, some ⟨.ints .i64 [4], 0, true, 3⟩, some ⟨.ints .i64 ks, gk, true, 3⟩] [])
theorem nCn_ok {zs Bs xs hs us ks : List Int} {g off n ro rn gk i : Nat} {cp : Option Nat} {ow : Bool} {re : Int} {e l : Nat} (h : allP []) : Ok (nCn zs Bs xs hs us ks g off n ro rn gk i cp ow re e l) := Ok.dem (fl := []) (by kernel_rfl) (by kernel_rfl) (by kernel_rfl) h
theorem nCn_ex {zs Bs xs hs us ks : List Int} {g off n ro rn gk i : Nat} {cp : Option Nat} {ow : Bool} {re : Int} {e l : Nat} : (nCn zs Bs xs hs us ks g off n ro rn gk i cp ow re e l).ex = .normal := by kernel_rfl
theorem nCn_fm {zs Bs xs hs us ks : List Int} {g off n ro rn gk i : Nat} {cp : Option Nat} {ow : Bool} {re : Int} {e l : Nat} : (nCn zs Bs xs hs us ks g off n ro rn gk i cp ow re e l).fm = [(0, .func (Fn.yield l) [] []), (1, .var 8 0), (2, .var 9 0), (4, .int .i64 (4 * (↑i : Int))), (5, .int .i64 (↑e : Int))] := by kernel_rfl
theorem nCn_tab {zs Bs xs hs us ks : List Int} {g off n ro rn gk i : Nat} {cp : Option Nat} {ow : Bool} {re : Int} {e l : Nat} : (nCn zs Bs xs hs us ks g off n ro rn gk i cp ow re e l).tab = [some ⟨.ints .u8 zs, g, ow, 5⟩, some ⟨.agg [.nilSlice, .nilSlice, .nilSlice], 0, true, 47⟩, some ⟨.agg [.slice 1 3 1 ro rn none, .int .i64 re, .bool true], 0, true, 115⟩, some ⟨.ints .u8 Bs, 1, true, 5⟩, some
 ⟨.agg [.slice 1 5 1 0 xs.length none, .slice 1 6 1 0 hs.length none, .slice 1 10 gk 0 ks.length none], 0, true, 47⟩, some ⟨.ints .u8 xs, 1, true, 5⟩, some ⟨.ints .u8 hs, 1, true, 5⟩, some ⟨.ints .u8 us, 1, true, 5⟩, some ⟨.agg [.slice 1 7 1 0 us.length none], 0, true, 22⟩, some ⟨.ints .i64 [4], 0, true, 3⟩, some ⟨.ints .i64 ks, gk, true, 3⟩] := by kernel_rfl
noncomputable def nRz (zs Bs xs hs us ks : List Int) (g off n ro rn gk i : Nat) (cp : Option Nat) (ow : Bool) (re : Int) (e l : Nat) : Out := trim 11 11 [0,1,2,4] (run eG6 31 ⟨11, []⟩ 400 rz81 [(0, .func (.yield l) [] []), (1, .var 8 0), (2, .var 9 0), (4, .int .i64 (4 * (i : Nat))), (5, .int .i64 (e : Nat))] [some ⟨.ints .u8 zs, g, ow, 5⟩, some ⟨.agg [.nilSlice, .nilSlice, .nilSlice], 0, true, 47⟩, some ⟨.agg [.slice 1 3 1 ro rn none, .int .i64 re, .bool true], 0, true, 115⟩, some ⟨.ints .u8 Bs, 1, true, 5⟩, some ⟨.agg [.slice 1 5 1 0 xs.length none, .slice 1 6 1 0 hs.length none, .slice 1 10 gk 0 ks.length none], 0, true, 47⟩, some ⟨.ints .u8 xs, 1, true, 5⟩, some ⟨.ints .u8 hs, 1, true, 5⟩, some ⟨.ints .u8 us, 1, true, 5⟩, some ⟨.agg [.slice 1 7 1 0 us.length none], 0, true, 22⟩, some ⟨.ints .i64 [4], 0, true, 3⟩, some ⟨.ints .i64 ks, gk, true, 3⟩] [])
theorem nRz_ok {zs Bs xs hs us ks : List Int} {g off n ro rn gk i : Nat} {cp : Option Nat} {ow : Bool} {re : Int} {e l : Nat} (h : allP [.rng (-9223372036854775808) (4 * (↑i : Int) + 4) 9223372036854775807]) : Ok (nRz zs Bs xs hs us ks g off n ro rn gk i cp ow re e l) := Ok.dem (fl := [true, true, false]) (by kernel_rfl) (by kernel_rfl) (by kernel_rfl) h
theorem nRz_ex {zs Bs xs hs us ks : List Int} {g off n ro rn gk i : Nat} {cp : Option Nat} {ow : Bool} {re : Int} {e l : Nat} : (nRz zs Bs xs hs us ks g off n ro rn gk i cp ow re e l).ex = .normal := by kernel_rfl
theorem nRz_fm {zs Bs xs hs us ks : List Int} {g off n ro rn gk i : Nat} {cp : Option Nat} {ow : Bool} {re : Int} {e l : Nat} : (nRz zs Bs xs hs us ks g off n ro rn gk i cp ow re e l).fm = [(0, .func (Fn.yield l) [] []), (1, .var 8 0), (2, .var 9 0), (4, .int .i64 (4 * (↑i : Int) + 4))] := by kernel_rfl
theorem nRz_tab {zs Bs xs hs us ks : List Int} {g off n ro rn gk i : Nat} {cp : Option Nat} {ow : Bool} {re : Int} {e l : Nat} : (nRz zs Bs xs hs us ks g off n ro rn gk i cp ow re e l).tab = [some ⟨.ints .u8 zs, g, ow, 5⟩, some ⟨.agg [.nilSlice, .nilSlice, .nilSlice], 0, true, 47⟩, some ⟨.agg [.slice 1 3 1 ro rn none, .int .i64 re, .bool true], 0, true, 115⟩, some ⟨.ints .u8 Bs, 1, true, 5⟩, some
 ⟨.agg [.slice 1 5 1 0 xs.length none, .slice 1 6 1 0 hs.length none, .slice 1 10 gk 0 ks.length none], 0, true, 47⟩, some ⟨.ints .u8 xs, 1, true, 5⟩, some ⟨.ints .u8 hs, 1, true, 5⟩, some ⟨.ints .u8 us, 1, true, 5⟩, some ⟨.agg [.slice 1 7 1 0 us.length none], 0, true, 22⟩, some ⟨.ints .i64 [4], 0, true, 3⟩, some ⟨.ints .i64 ks, gk, true, 3⟩] := by kernel_rfl
noncomputable def nRs (zs Bs xs hs us ks : List Int) (g off n ro rn gk i : Nat) (cp : Option Nat) (ow : Bool) (re : Int) (l : Nat) : Out := trim 11 11 [0,1,2,4] (run eG6 31 ⟨11, []⟩ 400 (fstC (bodyOf f81)) (argF [.func (.yield l) [] [], .var 8 0, .var 9 0] 0) [some ⟨.ints .u8 zs, g, ow, 5⟩, some ⟨.agg [.nilSlice, .nilSlice, .nilSlice], 0, true, 47⟩, some ⟨.agg [.slice 1 3 1 ro rn none, .int .i64 re, .bool true], 0, true, 115⟩, some ⟨.ints .u8 Bs, 1, true, 5⟩, some ⟨.agg [.slice 1 5 1 0 xs.length none, .slice 1 6 1 0 hs.length none, .slice 1 10 gk 0 ks.length none], 0, true, 47⟩, some ⟨.ints .u8 xs, 1, true, 5⟩, some ⟨.ints .u8 hs, 1, true, 5⟩, some ⟨.ints .u8 us, 1, true, 5⟩, some ⟨.agg [.slice 1 7 1 0 us.length none], 0, true, 22⟩, some ⟨.ints .i64 [4], 0, true, 3⟩, some ⟨.ints .i64 ks, gk, true, 3⟩] [])
theorem nRs_ok {zs Bs xs hs us ks : List Int} {g off n ro rn gk i : Nat} {cp : Option Nat} {ow : Bool} {re : Int} {l : Nat} (h : allP []) : Ok (nRs zs Bs xs hs us ks g off n ro rn gk i cp ow re l) := Ok.dem (fl := []) (by kernel_rfl) (by kernel_rfl) (by kernel_rfl) h
theorem nRs_ex {zs Bs xs hs us ks : List Int} {g off n ro rn gk i : Nat} {cp : Option Nat} {ow : Bool} {re : Int} {l : Nat} : (nRs zs Bs xs hs us ks g off n ro rn gk i cp ow re l).ex = .normal := by kernel_rfl
theorem nRs_fm {zs Bs xs hs us ks : List Int} {g off n ro rn gk i : Nat} {cp : Option Nat} {ow : Bool} {re : Int} {l : Nat} : (nRs zs Bs xs hs us ks g off n ro rn gk i cp ow re l).fm = [(0, .func (Fn.yield l) [] []), (1, .var 8 0), (2, .var 9 0), (4, .int .i64 0)] := by kernel_rfl
theorem nRs_tab {zs Bs xs hs us ks : List Int} {g off n ro rn gk i : Nat} {cp : Option Nat} {ow : Bool} {re : Int} {l : Nat} : (nRs zs Bs xs hs us ks g off n ro rn gk i cp ow re l).tab = [some ⟨.ints .u8 zs, g, ow, 5⟩, some ⟨.agg [.nilSlice, .nilSlice, .nilSlice], 0, true, 47⟩, some ⟨.agg [.slice 1 3 1 ro rn none, .int .i64 re, .bool true], 0, true, 115⟩, some ⟨.ints .u8 Bs, 1, true, 5⟩, some ⟨.agg
 [.slice 1 5 1 0 xs.length none, .slice 1 6 1 0 hs.length none, .slice 1 10 gk 0 ks.length none], 0, true, 47⟩, some ⟨.ints .u8 xs, 1, true, 5⟩, some ⟨.ints .u8 hs, 1, true, 5⟩, some ⟨.ints .u8 us, 1, true, 5⟩, some ⟨.agg [.slice 1 7 1 0 us.length none], 0, true, 22⟩, some ⟨.ints .i64 [4], 0, true, 3⟩, some ⟨.ints .i64 ks, gk, true, 3⟩] := by kernel_rfl
end Go.Abs

set_option linter.unusedVariables false
set_option linter.unusedSimpArgs false
set_option maxRecDepth 100000
set_option maxHeartbeats 4000000
namespace Go.Abs
open Go.Proofs Go.Proofs.Try
/-! ### chunk by chunk -/
def eN (us : List Int) (i : Nat) : Nat := if us.length - 4 * i < 4 then us.length - 4 * i else 4
def kuN (us : List Int) : Nat → List Int
  | 0 => []
  | i + 1 => kuN us i ++ [rnVLaw (subLaw us (4 * i) (eN us i)) 0 0 4]
theorem kuN_len (us : List Int) : ∀ i, (kuN us i).length = i
  | 0 => rfl
  | i + 1 => by rw [kuN, List.length_append, kuN_len us i]; rfl
def cntNLaw (m : Nat) : Nat := (m + 3) / 4
def Fc81 (l i : Nat) : Fm := [(0, .func (.yield l) [] []), (1, .var 8 0), (2, .var 9 0), (4, .int .i64 (4 * (i : Nat)))]
def TT81 (zs Bs xs hs us : List Int) (g off n ro rn : Nat) (cp : Option Nat) (ow : Bool) (re : Int) (i : Nat) : Tab := [some ⟨.ints .u8 zs, g, ow, 5⟩, some ⟨.agg [.nilSlice, .nilSlice, .nilSlice], 0, true, 47⟩, some ⟨.agg [.slice 1 3 1 ro rn none, .int .i64 re, .bool true], 0, true, 115⟩, some ⟨.ints .u8 Bs, 1, true, 5⟩, some ⟨.agg [.slice 1 5 1 0 xs.length none, .slice 1 6 1 0 hs.length none, .slice 1 10 i 0 (kuN us i).length none], 0, true, 47⟩, some ⟨.ints .u8 xs, 1, true, 5⟩, some ⟨.ints .u8 hs, 1, true, 5⟩, some ⟨.ints .u8 us, 1, true, 5⟩, some ⟨.agg [.slice 1 7 1 0 us.length none], 0, true, 22⟩, some ⟨.ints .i64 [4], 0, true, 3⟩, some ⟨.ints .i64 (kuN us i), i, true, 3⟩]
noncomputable def Hs81 (g off n : Nat) (cp : Option Nat) : Host := ⟨#[17], as23, bd23, [(0, .slice 1 0 g off n cp), (2, .var 1 0), (3, .int .i64 0), (4, .var 2 0), (5, .var 4 0), (16, .func (.func 81) [] [.var 8 0, .var 9 0])], 32⟩
theorem sub_by {us : List Int} (h : ByLaw us) (a b : Nat) : ByLaw (subLaw us a b) := by_mem (fun c hc => by_of h c (List.mem_of_mem_drop (List.mem_of_mem_take hc)))
theorem rnd81 {zs Bs xs hs us : List Int} {g off n ro rn : Nat} {cp : Option Nat} {ow : Bool} {re : Int} (hb : ByLaw us) (hl : us.length ≤ 65536) (l : Nat) {i : Nat} (hi : 4 * i < us.length) :
    YWp eG6 31 11 [(l, Hs81 g off n cp)] (roundOf 0 f81) (Fc81 l i) (TT81 zs Bs xs hs us g off n ro rn cp ow re i) [(.ready, none)] fun ex fm T' σ' => ex = .normal ∧ fm = Fc81 l (i + 1) ∧ T' = TT81 zs Bs xs hs us g off n ro rn cp ow re (i + 1) ∧ σ' = [(.ready, none)] := by
  have hamb : ambIn 11 [(l, Hs81 g off n cp)] := ambIn_one rfl
  have hk := kuN_len us i
  have hsub : (subO (4 * i + eN us i) (4 * i)) = eN us i := by rw [subO_eq]; omega
  have he : eN us i ≤ us.length - 4 * i ∧ eN us i ≤ 4 := by unfold eN; split <;> omega
  have hsl : (subLaw us (4 * i) (eN us i)).length = eN us i := subLaw_len (by omega)
  have hbs := sub_by hb (4 * i) (eN us i)
  rw [split81]
  refine YWp.seq (YWp.ofTo (To.of (o := nHd zs Bs xs hs us (kuN us i) g off n ro rn i i cp ow re l) eG6_ok hmN (Nat.le_refl 11) OrcOk.nil rfl (nHd_ok (by
    simp only [allP, Con.h, eq_self, true_and, and_true, decide_eq_true_eq, decide_eq_false_iff_not]
    omega)) nHd_ex nHd_fm nHd_tab) hamb ?_)
  refine YWp.seq (YWp.block (YWp.seq (YWp.ofTo (To.of (o := nRa zs Bs xs hs us (kuN us i) g off n ro rn i i cp ow re l) (fm' := ([(0, .func (.yield l) [] []), (1, .var 8 0), (2, .var 9 0), (4, .int .i64 (4 * (i : Nat))), (5, .int .i64 ((eN us i : Nat) : Int))])) eG6_ok hmN (Nat.le_refl 11) OrcOk.nil rfl (nRa_ok (by
    simp only [allP, Con.h, eq_self, true_and, and_true, decide_eq_true_eq, decide_eq_false_iff_not]
    omega)) nRa_ex ?_ nRa_tab) hamb ?_)))
  · rw [nRa_fm, subO_eq]
    have : (if ((us.length - 4 * i : Nat) : Int) < 4 then ((us.length - 4 * i : Nat) : Int) else 4) = ((eN us i : Nat) : Int) := by
      unfold eN
      split <;> split <;> omega
    rw [this]
  refine YWp.seq (YWp.yieldRegion eG6_ok (l1 := ops81.toList.take 10) (l2 := ops81.toList.drop 11) (oy := ops81.toList.getD 10 default) (by kernel_rfl) (ds1 := []) (o1 := nYp zs Bs xs hs us (kuN us i) g off n ro rn i i cp ow re (eN us i) l) (by kernel_rfl) (nYp_ok (by
    simp only [allP, Con.h, eq_self, true_and, and_true, decide_eq_true_eq, decide_eq_false_iff_not]
    omega)) (f := .tmp 19) (x := .tmp 28) (t := 29) (c := theCall (ops81.toList.getD 10 default)) (by kernel_rfl) (by kernel_rfl) (by kernel_rfl) (by kernel_rfl) (by kernel_rfl) (by decide) (i := 0) (l := l) (H := Hs81 g off n cp) (by rw [nYp_fm]; rfl) (v := .slice 1 7 1 (4 * i) (subO (4 * i + eN us i) (4 * i)) (some (subO (4 * i + eN us i) (4 * i)))) (by rw [nYp_fm]; rfl) rfl rfl (p := 17) rfl (by show 17 < 32; decide) (kk := 11) (by decide) (by rw [nYp_fm]; exact fmIn_of rfl) hamb ?_)
  rw [nYp_tab]
  refine YWp.ofTo (To.of (o := nAs zs Bs xs hs us (kuN us i) g off n ro rn i i cp ow re (subO (4 * i + eN us i) (4 * i))) eG6_ok hmN (Nat.le_refl 11) OrcOk.nil rfl (nAs_ok trivial) nAs_ex nAs_fm nAs_tab) hamb ⟨rfl, rfl, ?_⟩
  refine YWp.ofTo (To.ofG (o := nBd zs Bs xs hs us (kuN us i) g off n ro rn i i cp ow re (subO (4 * i + eN us i) (4 * i))) (T' := TT81 zs Bs xs hs us g off n ro rn cp ow re (i + 1)) eG6_ok hmN (Nat.le_refl 11) OrcOk.nil rfl (nBd_ok ?_) nBd_ex nBd_fm ?_) hamb ⟨by decide, [], nYn zs Bs xs hs us (kuN us (i + 1)) g off n ro rn (i + 1) i cp ow re (eN us i) l, by rw [nYp_fm]; rfl, nYn_ok trivial, ?_⟩
  · rw [hsub]
    simp only [allP, Con.h, eq_self, true_and, and_true, decide_eq_true_eq, decide_eq_false_iff_not, hsl, hbs, addO_eq, hk, Nat.sub_zero, Nat.zero_le, Nat.zero_add, Nat.le_refl]
    omega
  · rw [nBd_tab, hsub, addO_eq, List.take_length]
    unfold TT81
    rw [show (kuN us (i + 1)).length = (kuN us i).length + 1 by rw [kuN, List.length_append]; rfl]
    rfl
  rw [nYn_fm, nYn_tab]
  refine YWp.ofTo (To.of (o := nCn zs Bs xs hs us (kuN us (i + 1)) g off n ro rn (i + 1) i cp ow re (eN us i) l) eG6_ok hmN (Nat.le_refl 11) OrcOk.nil rfl (nCn_ok trivial) nCn_ex nCn_fm nCn_tab) hamb ?_
  refine YWp.ofTo (To.of (o := nRz zs Bs xs hs us (kuN us (i + 1)) g off n ro rn (i + 1) i cp ow re (eN us i) l) eG6_ok hmN (Nat.le_refl 11) OrcOk.nil rfl (nRz_ok (by
    simp only [allP, Con.h, eq_self, true_and, and_true, decide_eq_true_eq, decide_eq_false_iff_not]
    omega)) nRz_ex nRz_fm nRz_tab) hamb ?_
  refine ⟨rfl, ?_, rfl, rfl⟩
  unfold Fc81
  rw [show (4 * ((i + 1 : Nat) : Int)) = 4 * (i : Int) + 4 by omega]
theorem callee81 {zs Bs xs hs us : List Int} {g off n ro rn : Nat} {cp : Option Nat} {ow : Bool} {re : Int} (hb : ByLaw us) (hl : us.length ≤ 65536) (l : Nat) : YWp eG6 31 11 [(l, Hs81 g off n cp)] (bodyOf f81) (argF ([] ++ (.func (.yield l) [] [] :: [.var 8 0, .var 9 0])) 0) (TT81 zs Bs xs hs us g off n ro rn cp ow re 0) [(.ready, none)] fun ex fm' T' σ' =>
    (ex = .normal ∨ ex = .ret) ∧ (∃ cs us, aRes eG6 fm' T' f81.results.toList = some (cs, us) ∧ allP cs) ∧ ∃ st σ2, σ' = st :: σ2 ∧ st.1 ≠ .busy ∧
      match st.2 with
      | none => (AExit.normal = .normal ∨ AExit.normal = .exit 0) ∧ [(0, .slice 1 0 g off n cp), (2, .var 1 0), (3, .int .i64 0), (4, .var 2 0), (5, .var 4 0), (16, .func (.func 81) [] [.var 8 0, .var 9 0])] = (Hs81 g off n cp).fm ∧ T' = TT81 zs Bs xs hs us g off n ro rn cp ow re (cntNLaw us.length)
      | some (.exit id) => (AExit.exit id = .normal ∨ AExit.exit id = .exit 0) ∧ [(0, .slice 1 0 g off n cp), (2, .var 1 0), (3, .int .i64 0), (4, .var 2 0), (5, .var 4 0), (16, .func (.func 81) [] [.var 8 0, .var 9 0])] = (Hs81 g off n cp).fm ∧ T' = TT81 zs Bs xs hs us g off n ro rn cp ow re (cntNLaw us.length)
      | some .ret => (AExit.ret = .normal ∨ AExit.ret = .exit 0) ∧ [(0, .slice 1 0 g off n cp), (2, .var 1 0), (3, .int .i64 0), (4, .var 2 0), (5, .var 4 0), (16, .func (.func 81) [] [.var 8 0, .var 9 0])] = (Hs81 g off n cp).fm ∧ T' = TT81 zs Bs xs hs us g off n ro rn cp ow re (cntNLaw us.length)
      | _ => False := by
  have hamb : ambIn 11 [(l, Hs81 g off n cp)] := ambIn_one rfl
  rw [splitb81, res81]
  refine YWp.seq (YWp.ofTo (To.of (o := nRs zs Bs xs hs us (kuN us 0) g off n ro rn 0 0 cp ow re l) (fm' := Fc81 l 0) eG6_ok hmN (Nat.le_refl 11) OrcOk.nil rfl (nRs_ok trivial) nRs_ex nRs_fm nRs_tab) hamb ?_)
  refine YWp.block (YWp.loop (fun fm T σ μ => ∃ i, i ≤ cntNLaw us.length ∧ μ = cntNLaw us.length - i ∧ fm = Fc81 l i ∧ T = TT81 zs Bs xs hs us g off n ro rn cp ow re i ∧ σ = [(.ready, none)]) (cntNLaw us.length) ⟨0, Nat.zero_le _, rfl, rfl, rfl, rfl⟩ ?_)
  rintro fm T σ μ ⟨i, hi, rfl, rfl, rfl, rfl⟩
  have hc : cntNLaw us.length = (us.length + 3) / 4 := rfl
  by_cases h4 : 4 * i < us.length
  · refine YWp.mono (rnd81 hb hl l h4) fun ex fm T σ hP => ?_
    obtain ⟨rfl, rfl, rfl, rfl⟩ := hP
    exact ⟨cntNLaw us.length - (i + 1), by omega, i + 1, by omega, rfl, rfl, rfl, rfl⟩
  · obtain rfl : i = cntNLaw us.length := by omega
    rw [split81]
    refine YWp.seq (YWp.ofTo (To.of (o := nHe zs Bs xs hs us (kuN us (cntNLaw us.length)) g off n ro rn (cntNLaw us.length) (cntNLaw us.length) cp ow re l) (T := TT81 zs Bs xs hs us g off n ro rn cp ow re (cntNLaw us.length)) (fm := Fc81 l (cntNLaw us.length)) eG6_ok hmN (Nat.le_refl 11) OrcOk.nil rfl (nHe_ok (by
      simp only [allP, Con.h, eq_self, true_and, and_true, decide_eq_true_eq, decide_eq_false_iff_not]
      omega)) nHe_ex nHe_fm nHe_tab) hamb ?_)
    exact ⟨.inl rfl, ⟨[], [], rfl, trivial⟩, (.ready, none), [], rfl, by decide, .inl rfl, rfl, rfl⟩
theorem blk23 {zs Bs xs hs us : List Int} {g off n ro rn : Nat} {cp : Option Nat} {ow : Bool} {re : Int} (hb : ByLaw us) (hl : us.length ≤ 65536) : To eG6 32 11 (.block 0 rf23) [(0, .slice 1 0 g off n cp), (2, .var 1 0), (3, .int .i64 0), (4, .var 2 0), (5, .var 4 0), (16, .func (.func 81) [] [.var 8 0, .var 9 0])] (TT81 zs Bs xs hs us g off n ro rn cp ow re 0) .normal [(0, .slice 1 0 g off n cp), (2, .var 1 0), (3, .int .i64 0), (4, .var 2 0), (5, .var 4 0), (16, .func (.func 81) [] [.var 8 0, .var 9 0])] (TT81 zs Bs xs hs us g off n ro rn cp ow re (cntNLaw us.length)) := by
  refine AWp.block (AWp.ofY ?_)
  rw [rf23_eq]
  refine YWp.mono (YWp.rangeFunc (post := fun ex fm T' σ' => (ex = .normal ∨ ex = .exit 0) ∧ fm = (Hs81 g off n cp).fm ∧ T' = TT81 zs Bs xs hs us g off n ro rn cp ow re (cntNLaw us.length)) eG6_ok (gf := 81) (gfn := f81) (c := bodyOf f81) (first := []) (caps := [.var 8 0, .var 9 0]) rfl (by kernel_rfl) (by kernel_rfl) (by kernel_rfl) (kk := 11) (Nat.le_refl _) (fmIn_of rfl) (by kernel_rfl) (fun l => callee81 hb hl l)) fun ex fm T σ hP => ?_
  obtain ⟨h1, rfl, rfl⟩ := hP
  rcases h1 with rfl | rfl
  · exact ⟨rfl, rfl, rfl⟩
  · exact ⟨rfl, rfl, rfl⟩
end Go.Abs

set_option linter.unusedVariables false
set_option linter.unusedSimpArgs false
set_option maxRecDepth 100000
set_option maxHeartbeats 4000000
namespace Go.Abs
open Go.Proofs Go.Proofs.Try
/-! ### any bytes, as a parent -/
theorem rv_short (B : List Int) (off : Nat) (e : Int) : (rvVLaw B off e).length ≤ 65536 := by
  unfold rvVLaw rvP
  by_cases he : e ≠ 0
  · rw [if_pos he]; simp
  rw [if_neg he]
  show (rtVLaw B (rlOLaw B off 0) (rvE1 B off) (rlVLaw B off 0)).length ≤ 65536
  unfold rtVLaw rtP
  by_cases h1 : rvE1 B off ≠ 0
  · rw [if_pos h1]; simp
  rw [if_neg h1]
  by_cases h2 : rlVLaw B off 0 < 0
  · rw [if_pos h2]; simp
  rw [if_neg h2]
  by_cases h3 : ((B.length - rlOLaw B off 0 : Nat) : Int) < rlVLaw B off 0
  · rw [if_pos h3]; simp
  rw [if_neg h3]
  show (subLaw B (rlOLaw B off 0) (rlVLaw B off 0).toNat).length ≤ 65536
  have h4 : rlVLaw B off 0 ≤ 65536 := by
    have h1 : rvE1 B off = 0 := Classical.not_not.1 h1
    unfold rvE1 at h1
    split at h1
    · cases h1
    · rename_i hx
      by_cases h5 : 65536 < rlVLaw B off 0
      · exact absurd ⟨h1, h5⟩ hx
      · omega
  unfold subLaw
  rw [List.length_take]
  omega
theorem rv_by {B : List Int} (hb : ByLaw B) (off : Nat) (e : Int) : ByLaw (rvVLaw B off e) := by
  have nil : ByLaw [] := fun i => by simp
  unfold rvVLaw rvP
  by_cases he : e ≠ 0
  · rw [if_pos he]; exact nil
  rw [if_neg he]
  show ByLaw (rtVLaw B (rlOLaw B off 0) (rvE1 B off) (rlVLaw B off 0))
  unfold rtVLaw rtP
  split
  · exact nil
  split
  · exact nil
  split
  · exact nil
  · exact sub_by hb _ _
/-- the three vectors -/
def qO1Law (B : List Int) : Nat := rvOLaw B 0 0
def qE1Law (B : List Int) : Int := rvELaw B 0 0
def qO2Law (B : List Int) : Nat := rvOLaw B (qO1Law B) (qE1Law B)
def qE2Law (B : List Int) : Int := rvELaw B (qO1Law B) (qE1Law B)
def qO3Law (B : List Int) : Nat := rvOLaw B (qO2Law B) (qE2Law B)
def qE3Law (B : List Int) : Int := rvELaw B (qO2Law B) (qE2Law B)
def qXLaw (B : List Int) : List Int := rvVLaw B 0 0
def qHLaw (B : List Int) : List Int := rvVLaw B (qO1Law B) (qE1Law B)
def qULaw (B : List Int) : List Int := rvVLaw B (qO2Law B) (qE2Law B)
def qKLaw (B : List Int) : List Int := kuN (qULaw B) (cntNLaw (qULaw B).length)
theorem q_off (B : List Int) : qO1Law B ≤ B.length ∧ qO2Law B ≤ B.length ∧ qO3Law B ≤ B.length := by
  have k1 := (rv_off (B := B) (off := 0) (Nat.zero_le _) 0).2
  have k2 := (rv_off k1 (qE1Law B)).2
  exact ⟨k1, k2, (rv_off k2 (qE2Law B)).2⟩
theorem q_canon {B : List Int} (hb : ByLaw B) (h : reLaw B (qO3Law B) (qE3Law B) = 0) : B = vec1Law (qXLaw B) ++ (vec1Law (qHLaw B) ++ vec1Law (qULaw B)) := by
  obtain ⟨h3, hl⟩ := re_zero h
  have h2 : qE2Law B = 0 := rvE_zero h3
  have h1 : qE1Law B = 0 := rvE_zero h2
  have c0 := rv_canon (off := 0) hb h1
  have c1 := rv_canon (off := qO1Law B) hb (by have k := h2; unfold qE2Law at k; rwa [h1] at k)
  have c2 := rv_canon (off := qO2Law B) hb (by have k := h3; unfold qE3Law at k; rwa [h2] at k)
  have hH : qHLaw B = rvVLaw B (qO1Law B) 0 := by unfold qHLaw; rw [h1]
  have hO2 : qO2Law B = rvOLaw B (qO1Law B) 0 := by unfold qO2Law; rw [h1]
  have hU : qULaw B = rvVLaw B (qO2Law B) 0 := by unfold qULaw; rw [h2]
  have hO3 : qO3Law B = rvOLaw B (qO2Law B) 0 := by unfold qO3Law; rw [h2]
  have e := c0.2.2.2
  rw [List.drop_zero, show rvOLaw B 0 0 = qO1Law B from rfl, c1.2.2.2, ← hO2, c2.2.2.2, ← hO3, ← hH, ← hU, List.drop_of_length_le hl, List.append_nil, show rvVLaw B 0 0 = qXLaw B from rfl] at e
  exact e
theorem four {us : List Int} {i : Nat} (hb : ByLaw us) (h : 4 * i + 4 ≤ us.length) : numLaw (rnVLaw (subLaw us (4 * i) 4) 0 0 4) 4 = subLaw us (4 * i) 4 ∧ 0 ≤ rnVLaw (subLaw us (4 * i) 4) 0 0 4 ∧ rnVLaw (subLaw us (4 * i) 4) 0 0 4 = rnVLaw us (4 * i) 0 4 ∧ rnVLaw us (4 * i) 0 4 < 4294967296 := by
  have hl : (subLaw us (4 * i) 4).length = 4 := subLaw_len (by omega)
  have hs := sub_by hb (4 * i) 4
  have hg : ∀ j, j < 4 → (subLaw us (4 * i) 4).getD j 0 = us.getD (4 * i + j) 0 := fun j hj => by
    unfold subLaw
    rw [take_get hj]
    simp [List.getD_eq_getElem?_getD]
  have e4 : rnP (subLaw us (4 * i) 4) 0 0 4 = (numAtLaw 4 (subLaw us (4 * i) 4) 0, 4, 0) := by
    unfold rnP
    rw [if_neg (by decide), if_neg (by decide), if_neg (by omega), if_neg (by omega)]
    rfl
  have f4 : rnP us (4 * i) 0 4 = (numAtLaw 4 us (4 * i), 4 * i + 4, 0) := by
    unfold rnP
    rw [if_neg (by decide), if_neg (by decide), if_neg (by omega), if_neg (by omega)]
    rfl
  have hv : rnVLaw (subLaw us (4 * i) 4) 0 0 4 = us.getD (4 * i) 0 * 16777216 + us.getD (4 * i + 1) 0 * 65536 + us.getD (4 * i + 2) 0 * 256 + us.getD (4 * i + 3) 0 := by
    unfold rnVLaw
    rw [e4]
    show beN 4 _ 0 = _
    unfold beN beN beN beN beN
    simp only [Nat.zero_add]
    rw [hg 0 (by decide), hg 1 (by decide), hg 2 (by decide), hg 3 (by decide), Nat.add_zero]
    omega
  have hw : rnVLaw us (4 * i) 0 4 = us.getD (4 * i) 0 * 16777216 + us.getD (4 * i + 1) 0 * 65536 + us.getD (4 * i + 2) 0 * 256 + us.getD (4 * i + 3) 0 := by
    unfold rnVLaw
    rw [f4]
    show beN 4 _ (4 * i) = _
    unfold beN beN beN beN beN
    rw [Nat.add_zero]
    omega
  have b0 := hb (4 * i)
  have b1 := hb (4 * i + 1)
  have b2 := hb (4 * i + 2)
  have b3 := hb (4 * i + 3)
  refine ⟨?_, by omega, by rw [hv, hw], by omega⟩
  rw [(num_in (n := rnVLaw (subLaw us (4 * i) 4) 0 0 4) (size := 4) (by decide) ⟨by omega, by show _ < (4294967296 : Int); omega⟩).1, hv]
  have hd : subLaw us (4 * i) 4 = [us.getD (4 * i) 0, us.getD (4 * i + 1) 0, us.getD (4 * i + 2) 0, us.getD (4 * i + 3) 0] := by
    generalize hL : subLaw us (4 * i) 4 = L at hl hg
    match L, hl with
    | [a, b, c, d], _ =>
      have g0 : a = us.getD (4 * i + 0) 0 := hg 0 (by decide)
      have g1 : b = us.getD (4 * i + 1) 0 := hg 1 (by decide)
      have g2 : c = us.getD (4 * i + 2) 0 := hg 2 (by decide)
      have g3 : d = us.getD (4 * i + 3) 0 := hg 3 (by decide)
      rw [g0, g1, g2, g3, Nat.add_zero]
  rw [hd]
  rw [show beLaw (us.getD (4 * i) 0 * 16777216 + us.getD (4 * i + 1) 0 * 65536 + us.getD (4 * i + 2) 0 * 256 + us.getD (4 * i + 3) 0) (Int.toNat 4) = [(us.getD (4 * i) 0 * 16777216 + us.getD (4 * i + 1) 0 * 65536 + us.getD (4 * i + 2) 0 * 256 + us.getD (4 * i + 3) 0) / 16777216 % 256, (us.getD (4 * i) 0 * 16777216 + us.getD (4 * i + 1) 0 * 65536 + us.getD (4 * i + 2) 0 * 256 + us.getD (4 * i + 3) 0) / 65536 % 256, (us.getD (4 * i) 0 * 16777216 + us.getD (4 * i + 1) 0 * 65536 + us.getD (4 * i + 2) 0 * 256 + us.getD (4 * i + 3) 0) / 256 % 256, (us.getD (4 * i) 0 * 16777216 + us.getD (4 * i + 1) 0 * 65536 + us.getD (4 * i + 2) 0 * 256 + us.getD (4 * i + 3) 0) / 1 % 256] from rfl]
  simp only [List.cons.injEq, and_true]
  refine ⟨?_, ?_, ?_, ?_⟩ <;> omega
theorem pu_full {us : List Int} (hb : ByLaw us) : ∀ i, 4 * i ≤ us.length → puN (kuN us i) i = us.take (4 * i) ∧ ∀ j, j ≤ i → puN (kuN us i) j = puN (kuN us j) j
  | 0, _ => ⟨by simp [puN], fun j hj => by obtain rfl : j = 0 := by omega
                                           rfl⟩
  | i + 1, h => by
    obtain ⟨h1, h2⟩ := pu_full hb i (by omega)
    have hk := kuN_len us i
    have he : eN us i = 4 := by unfold eN; rw [if_neg (by omega)]
    have hpre : ∀ j, j ≤ i → puN (kuN us (i + 1)) j = puN (kuN us i) j := fun j hj => by
      have : List.take i (kuN us (i + 1)) = kuN us i := by rw [kuN, List.take_append_of_le_length (by omega), List.take_of_length_le (by omega)]
      rw [← this, puN_take j (by omega)]
    have hlast : (kuN us (i + 1)).getD i 0 = rnVLaw (subLaw us (4 * i) 4) 0 0 4 := by
      rw [kuN, List.getD_eq_getElem?_getD, List.getElem?_append_right (by omega), hk, he]
      simp
    have h3 : puN (kuN us (i + 1)) (i + 1) = us.take (4 * (i + 1)) := by
      rw [puN, hpre i (Nat.le_refl _), h1, hlast, (four hb (by omega)).1]
      unfold subLaw
      rw [show 4 * (i + 1) = 4 * i + 4 by omega, List.take_add]
    refine ⟨h3, fun j hj => ?_⟩
    rcases Nat.lt_or_ge j (i + 1) with k | k
    · rw [hpre j (by omega), h2 j (by omega)]
    · obtain rfl : j = i + 1 := by omega
      rfl
/-- the list, written, is what it was read from, if nothing is over -/
theorem pu_all {us : List Int} (hb : ByLaw us) (h : us.length % 4 = 0) : puLaw (kuN us (cntNLaw us.length)) = us := by
  have hc : 4 * cntNLaw us.length = us.length := by unfold cntNLaw; omega
  unfold puLaw
  rw [kuN_len, (pu_full hb (cntNLaw us.length) (by omega)).1, hc, List.take_length]
theorem pu_len4 {ks : List Int} (h : RiseU ks) : ∀ i, i ≤ ks.length → (puN ks i).length = 4 * i
  | 0, _ => rfl
  | i + 1, hi => by
    have hr := rise_in h (i := i) (by omega)
    rw [puN, List.length_append, pu_len4 h i (by omega), num4 hr.1 hr.2]
    simp only [List.length_cons, List.length_nil]
    omega
def gpOK (B : List Int) : Prop := reLaw B (qO3Law B) (qE3Law B) = 0 ∧ RightPa (qXLaw B) (qHLaw B) (qKLaw B) ∧ ppBLaw (qXLaw B) (qHLaw B) (qKLaw B) = B
instance (B : List Int) : Decidable (gpOK B) := by unfold gpOK; exact inferInstance
theorem vec_inj {a b : List Int} (h : a.length ≤ 65536) (h2 : b.length ≤ 65536) (e : vec1Law a = vec1Law b) : a = b := by
  have r1 := rv_at (P := []) (S := []) (row := a) h
  have r2 := rv_at (P := []) (S := []) (row := b) h2
  rw [e] at r1
  exact congrArg Prod.fst (r1.symm.trans r2)
theorem gp_iff {B : List Int} (hb : ByLaw B) (h : reLaw B (qO3Law B) (qE3Law B) = 0) (hR : RightPa (qXLaw B) (qHLaw B) (qKLaw B)) : ppBLaw (qXLaw B) (qHLaw B) (qKLaw B) = B ↔ (qULaw B).length % 4 = 0 := by
  have hc := q_canon hb h
  have hs : (qULaw B).length ≤ 65536 := rv_short B _ _
  have hu : ByLaw (qULaw B) := rv_by hb _ _
  rw [(pp_in hR).1]
  constructor
  · intro e
    have e2 := e.trans hc
    unfold jn3Law at e2
    have e3 := vec_inj (by
      have h1 := puN_len (qKLaw B) (qKLaw B).length
      have h2 := rise_len hR.2.2
      show (puN (qKLaw B) (qKLaw B).length).length ≤ 65536
      omega) hs (List.append_cancel_left (List.append_cancel_left e2))
    have hl : (puLaw (qKLaw B)).length = 4 * (qKLaw B).length := pu_len4 hR.2.2 _ (Nat.le_refl _)
    rw [e3] at hl
    omega
  · intro e
    have := pu_all hu e
    unfold qKLaw jn3Law
    rw [this]
    exact hc.symm
theorem pp_bytes {a b u : List Int} (ha : ∀ c ∈ a, 0 ≤ c ∧ c < 256) (hb : ∀ c ∈ b, 0 ≤ c ∧ c < 256) : ∀ c ∈ ppBLaw a b u, 0 ≤ c ∧ c < 256 := by
  unfold ppBLaw
  split
  · unfold jn3Law
    refine app_by (vec1_by ha) (app_by (vec1_by hb) (vec1_by ?_))
    have : ∀ i, ∀ c ∈ puN u i, 0 ≤ c ∧ c < 256 := fun i => by
      induction i with
      | zero => exact nil_by
      | succ i ih => exact app_by ih (num_by _ _)
    exact this _
  · exact nil_by
def gpXLaw (B : List Int) : List Int := if gpOK B then qXLaw B else []
def gpHLaw (B : List Int) : List Int := if gpOK B then qHLaw B else []
def gpKLaw (B : List Int) : List Int := if gpOK B then qKLaw B else []
def gpGLaw (B : List Int) : Nat := if gpOK B then cntNLaw (qULaw B).length else 0
def gpELaw (B : List Int) : Int := if gpOK B then 0 else 21
end Go.Abs

set_option linter.unusedVariables false
set_option linter.unusedSimpArgs false
set_option maxRecDepth 100000
set_option maxHeartbeats 4000000
namespace Go.Abs
open Go.Proofs Go.Proofs.Try
/-! ### GetParent -/
theorem SRel.env {E E' : Env} (hg : E.gl = E'.gl) {D : List Deferred} {ν : Nu} {fm : Fm} {T : Tab} {n : Nat} {a : Act} {w : World} (h : SRel E D ν fm T n a w) : SRel E' D ν fm T n a w := ⟨hg ▸ h.hr, h.fm, h.size, h.defers⟩
theorem AWp.env {E E' : Env} (hP : E.P = E'.P) (hg : E.gl = E'.gl) {n k : Nat} {c : Code} {fm : Fm} {T : Tab} {post : AExit → Fm → Tab → Prop} (h : AWp E n k c fm T post) : AWp E' n k c fm T post := by
  intro rr D ν a w hs hrd
  have h1 := h rr D ν a w (hs.env hg.symm) hrd
  rw [hP] at h1
  refine wpIn_mono h1 fun e a' w' ⟨ex, fm', T', ν', e1, e2, ⟨ms, s1, m1⟩, e4, e5⟩ => ⟨ex, fm', T', ν', e1, e2, ⟨ms, s1.env hg, m1⟩, e4, e5⟩
noncomputable def eG7 : Env := eN0 [(21, nS21), (75, S36r), (76, nS76)]
theorem eG7_ok : EnvOk eG7 := envOf_ok tysN_ok (SumsOk.cons (fn := f21) nS21_ok (by kernel_rfl) (by kernel_rfl) (by kernel_rfl) (SumsOk.cons (fn := f75) S36r_ok (by kernel_rfl) (by kernel_rfl) (by kernel_rfl) (SumsOk.cons (fn := f76) nS76_ok (by kernel_rfl) (by kernel_rfl) (by kernel_rfl) trivial)))
noncomputable def c23 : Code := sndC (backC 3 (bodyOf f23))
theorem split23 : backC 3 (bodyOf f23) = .seq (.seq f23a (.block 0 rf23)) c23 := by kernel_rfl
noncomputable def nS55a : Summary := sumI modeO eG7 f55 [] 400 [some true] [false, false, false, true]
theorem nS55a_ok : SumOk prog (fun _ => none) 55 nS55a := sumI_ok eG7_ok hmN (fn := f55) (by kernel_rfl) (by kernel_rfl) [] FnOrc.nil 400 [some true] [false, false, false, true]
noncomputable def eG8a : Env := eN0 [(55, nS55a)]
theorem eG8a_ok : EnvOk eG8a := envOf_ok tysN_ok (SumsOk.cons (fn := f55) nS55a_ok (by kernel_rfl) (by kernel_rfl) (by kernel_rfl) trivial)
noncomputable def nC23a (zs Bs xs hs us ks : List Int) (g off n ro rn gk i : Nat) (cp : Option Nat) (ow : Bool) (re : Int) : Out := trimG 1 [0, 1] [2, 3] (run eG8a 32 ⟨11, []⟩ 400 c23 [(0, .slice 1 0 g off n cp), (2, .var 1 0), (3, .int .i64 0), (4, .var 2 0), (5, .var 4 0), (16, .func (.func 81) [] [.var 8 0, .var 9 0])] [some ⟨.ints .u8 zs, g, ow, 5⟩, some ⟨.agg [.nilSlice, .nilSlice, .nilSlice], 0, true, 47⟩, some ⟨.agg [.slice 1 3 1 ro rn none, .int .i64 re, .bool true], 0, true, 115⟩, some ⟨.ints .u8 Bs, 1, true, 5⟩, some ⟨.agg [.slice 1 5 1 0 xs.length none, .slice 1 6 1 0 hs.length none, .slice 1 10 gk 0 ks.length none], 0, true, 47⟩, some ⟨.ints .u8 xs, 1, true, 5⟩, some ⟨.ints .u8 hs, 1, true, 5⟩, some ⟨.ints .u8 us, 1, true, 5⟩, some ⟨.agg [.slice 1 7 1 0 us.length none], 0, true, 22⟩, some ⟨.ints .i64 [4], 0, true, 3⟩, some ⟨.ints .i64 ks, gk, true, 3⟩] [])
theorem nC23a_ok {zs Bs xs hs us ks : List Int} {g off n ro rn gk i : Nat} {cp : Option Nat} {ow : Bool} {re : Int} (h : allP [.eqN gk gk, .eqN g g, .eqN gk gk, .eqN xs.length xs.length, .eqN hs.length hs.length, .eqN ks.length ks.length, .leN ks.length 140737488355000, .eqN rn (Bs.length - ro), .p ((reLaw Bs ro re != 0) = true)]) : Ok (nC23a zs Bs xs hs us ks g off n ro rn gk i cp ow re) := Ok.dem
 (fl := bitsF 35 34351613903) (by kernel_rfl) (by kernel_rfl) (by kernel_rfl) h
theorem nC23a_ex {zs Bs xs hs us ks : List Int} {g off n ro rn gk i : Nat} {cp : Option Nat} {ow : Bool} {re : Int} : (nC23a zs Bs xs hs us ks g off n ro rn gk i cp ow re).ex = .ret := by kernel_rfl
theorem nC23a_fm {zs Bs xs hs us ks : List Int} {g off n ro rn gk i : Nat} {cp : Option Nat} {ow : Bool} {re : Int} : (nC23a zs Bs xs hs us ks g off n ro rn gk i cp ow re).fm = [(2, .var 1 0), (3, .int .i64 21)] := by kernel_rfl
theorem nC23a_tab {zs Bs xs hs us ks : List Int} {g off n ro rn gk i : Nat} {cp : Option Nat} {ow : Bool} {re : Int} : (nC23a zs Bs xs hs us ks g off n ro rn gk i cp ow re).tab = [some ⟨.ints .u8 zs, g, ow, 5⟩, some ⟨.agg [.nilSlice, .nilSlice, .nilSlice], 0, true, 47⟩] := by kernel_rfl
noncomputable def nS55b : Summary := sumI modeO eG7 f55 [] 400 [some false, some true] [false, false, false, true]
theorem nS55b_ok : SumOk prog (fun _ => none) 55 nS55b := sumI_ok eG7_ok hmN (fn := f55) (by kernel_rfl) (by kernel_rfl) [] FnOrc.nil 400 [some false, some true] [false, false, false, true]
noncomputable def eG8b : Env := eN0 [(55, nS55b)]
theorem eG8b_ok : EnvOk eG8b := envOf_ok tysN_ok (SumsOk.cons (fn := f55) nS55b_ok (by kernel_rfl) (by kernel_rfl) (by kernel_rfl) trivial)
noncomputable def nC23b (zs Bs xs hs us ks : List Int) (g off n ro rn gk i : Nat) (cp : Option Nat) (ow : Bool) (re : Int) : Out := trimG 1 [0, 1] [2, 3] (run eG8b 32 ⟨11, []⟩ 400 c23 [(0, .slice 1 0 g off n cp), (2, .var 1 0), (3, .int .i64 0), (4, .var 2 0), (5, .var 4 0), (16, .func (.func 81) [] [.var 8 0, .var 9 0])] [some ⟨.ints .u8 zs, g, ow, 5⟩, some ⟨.agg [.nilSlice, .nilSlice, .nilSlice], 0, true, 47⟩, some ⟨.agg [.slice 1 3 1 ro rn none, .int .i64 re, .bool true], 0, true, 115⟩, some ⟨.ints .u8 Bs, 1, true, 5⟩, some ⟨.agg [.slice 1 5 1 0 xs.length none, .slice 1 6 1 0 hs.length none, .slice 1 10 gk 0 ks.length none], 0, true, 47⟩, some ⟨.ints .u8 xs, 1, true, 5⟩, some ⟨.ints .u8 hs, 1, true, 5⟩, some ⟨.ints .u8 us, 1, true, 5⟩, some ⟨.agg [.slice 1 7 1 0 us.length none], 0, true, 22⟩, some ⟨.ints .i64 [4], 0, true, 3⟩, some ⟨.ints .i64 ks, gk, true, 3⟩] [])
theorem nC23b_ok {zs Bs xs hs us ks : List Int} {g off n ro rn gk i : Nat} {cp : Option Nat} {ow : Bool} {re : Int} (h : allP [.eqN gk gk, .eqN g g, .eqN gk gk, .eqN xs.length xs.length, .eqN hs.length hs.length, .eqN ks.length ks.length, .leN ks.length 140737488355000, .eqN rn (Bs.length - ro), .p ((reLaw Bs ro re != 0) = false), .p ((ppELaw xs hs ks != 0) = true)]) : Ok (nC23b zs Bs xs hs us ks g
 off n ro rn gk i cp ow re) := Ok.dem (fl := bitsF 36 68702963663) (by kernel_rfl) (by kernel_rfl) (by kernel_rfl) h
theorem nC23b_ex {zs Bs xs hs us ks : List Int} {g off n ro rn gk i : Nat} {cp : Option Nat} {ow : Bool} {re : Int} : (nC23b zs Bs xs hs us ks g off n ro rn gk i cp ow re).ex = .ret := by kernel_rfl
theorem nC23b_fm {zs Bs xs hs us ks : List Int} {g off n ro rn gk i : Nat} {cp : Option Nat} {ow : Bool} {re : Int} : (nC23b zs Bs xs hs us ks g off n ro rn gk i cp ow re).fm = [(2, .var 1 0), (3, .int .i64 21)] := by kernel_rfl
theorem nC23b_tab {zs Bs xs hs us ks : List Int} {g off n ro rn gk i : Nat} {cp : Option Nat} {ow : Bool} {re : Int} : (nC23b zs Bs xs hs us ks g off n ro rn gk i cp ow re).tab = [some ⟨.ints .u8 zs, g, ow, 5⟩, some ⟨.agg [.nilSlice, .nilSlice, .nilSlice], 0, true, 47⟩] := by kernel_rfl
noncomputable def nS55c : Summary := sumI modeO eG7 f55 [] 400 [some false, some false, some true] [false, false, false, true]
theorem nS55c_ok : SumOk prog (fun _ => none) 55 nS55c := sumI_ok eG7_ok hmN (fn := f55) (by kernel_rfl) (by kernel_rfl) [] FnOrc.nil 400 [some false, some false, some true] [false, false, false, true]
noncomputable def eG8c : Env := eN0 [(55, nS55c)]
theorem eG8c_ok : EnvOk eG8c := envOf_ok tysN_ok (SumsOk.cons (fn := f55) nS55c_ok (by kernel_rfl) (by kernel_rfl) (by kernel_rfl) trivial)
noncomputable def nC23c (zs Bs xs hs us ks : List Int) (g off n ro rn gk i : Nat) (cp : Option Nat) (ow : Bool) (re : Int) : Out := trimG 1 [0, 1, 5, 6, 10] [2, 3] (run eG8c 32 ⟨11, []⟩ 400 c23 [(0, .slice 1 0 g off n cp), (2, .var 1 0), (3, .int .i64 0), (4, .var 2 0), (5, .var 4 0), (16, .func (.func 81) [] [.var 8 0, .var 9 0])] [some ⟨.ints .u8 zs, g, ow, 5⟩, some ⟨.agg [.nilSlice, .nilSlice, .nilSlice], 0, true, 47⟩, some ⟨.agg [.slice 1 3 1 ro rn none, .int .i64 re, .bool true], 0, true, 115⟩, some ⟨.ints .u8 Bs, 1, true, 5⟩, some ⟨.agg [.slice 1 5 1 0 xs.length none, .slice 1 6 1 0 hs.length none, .slice 1 10 gk 0 ks.length none], 0, true, 47⟩, some ⟨.ints .u8 xs, 1, true, 5⟩, some ⟨.ints .u8 hs, 1, true, 5⟩, some ⟨.ints .u8 us, 1, true, 5⟩, some ⟨.agg [.slice 1 7 1 0 us.length none], 0, true, 22⟩, some ⟨.ints .i64 [4], 0, true, 3⟩, some ⟨.ints .i64 ks, gk, true, 3⟩] [])
theorem nC23c_ok {zs Bs xs hs us ks : List Int} {g off n ro rn gk i : Nat} {cp : Option Nat} {ow : Bool} {re : Int} (h : allP [.eqN gk gk, .eqN g g, .eqN gk gk, .eqN xs.length xs.length, .eqN hs.length hs.length, .eqN ks.length ks.length, .leN ks.length 140737488355000, .eqN rn (Bs.length - ro), .p ((reLaw Bs ro re != 0) = false), .p ((ppELaw xs hs ks != 0) = false), .eqN (ppGLaw xs hs ks) (ppGLaw
 xs hs ks), .eqN g g, .eqN (ppGLaw xs hs ks) (ppGLaw xs hs ks), .leN (0 + (ppBLaw xs hs ks).length) (ppBLaw xs hs ks).length, .eqN g g, .leN (off + n) zs.length, .p ((List.map byteOf (List.take (ppBLaw xs hs ks).length (ppBLaw xs hs ks)) == List.map byteOf (List.take n (dropO off zs))) = true)]) : Ok (nC23c zs Bs xs hs us ks g off n ro rn gk i cp ow re) := Ok.dem (fl := bitsF 43 8793945802703) (by
 kernel_rfl) (by kernel_rfl) (by kernel_rfl) h
theorem nC23c_ex {zs Bs xs hs us ks : List Int} {g off n ro rn gk i : Nat} {cp : Option Nat} {ow : Bool} {re : Int} : (nC23c zs Bs xs hs us ks g off n ro rn gk i cp ow re).ex = .ret := by kernel_rfl
theorem nC23c_fm {zs Bs xs hs us ks : List Int} {g off n ro rn gk i : Nat} {cp : Option Nat} {ow : Bool} {re : Int} : (nC23c zs Bs xs hs us ks g off n ro rn gk i cp ow re).fm = [(2, .var 1 0), (3, .int .i64 0)] := by kernel_rfl
theorem nC23c_tab {zs Bs xs hs us ks : List Int} {g off n ro rn gk i : Nat} {cp : Option Nat} {ow : Bool} {re : Int} : (nC23c zs Bs xs hs us ks g off n ro rn gk i cp ow re).tab = [some ⟨.ints .u8 zs, g, ow, 5⟩, some ⟨.agg [.slice 1 2 1 0 xs.length none, .slice 1 3 1 0 hs.length none, .slice 1 4 gk 0 ks.length none], 0, true, 47⟩, some ⟨.ints .u8 xs, 1, true, 5⟩, some ⟨.ints .u8 hs, 1, true, 5⟩,
 some ⟨.ints .i64 ks, gk, true, 3⟩] := by kernel_rfl
noncomputable def nS55d : Summary := sumI modeO eG7 f55 [] 400 [some false, some false, some false] [false, false, false, true]
theorem nS55d_ok : SumOk prog (fun _ => none) 55 nS55d := sumI_ok eG7_ok hmN (fn := f55) (by kernel_rfl) (by kernel_rfl) [] FnOrc.nil 400 [some false, some false, some false] [false, false, false, true]
noncomputable def eG8d : Env := eN0 [(55, nS55d)]
theorem eG8d_ok : EnvOk eG8d := envOf_ok tysN_ok (SumsOk.cons (fn := f55) nS55d_ok (by kernel_rfl) (by kernel_rfl) (by kernel_rfl) trivial)
noncomputable def nC23d (zs Bs xs hs us ks : List Int) (g off n ro rn gk i : Nat) (cp : Option Nat) (ow : Bool) (re : Int) : Out := trimG 1 [0, 1] [2, 3] (run eG8d 32 ⟨11, []⟩ 400 c23 [(0, .slice 1 0 g off n cp), (2, .var 1 0), (3, .int .i64 0), (4, .var 2 0), (5, .var 4 0), (16, .func (.func 81) [] [.var 8 0, .var 9 0])] [some ⟨.ints .u8 zs, g, ow, 5⟩, some ⟨.agg [.nilSlice, .nilSlice, .nilSlice], 0, true, 47⟩, some ⟨.agg [.slice 1 3 1 ro rn none, .int .i64 re, .bool true], 0, true, 115⟩, some ⟨.ints .u8 Bs, 1, true, 5⟩, some ⟨.agg [.slice 1 5 1 0 xs.length none, .slice 1 6 1 0 hs.length none, .slice 1 10 gk 0 ks.length none], 0, true, 47⟩, some ⟨.ints .u8 xs, 1, true, 5⟩, some ⟨.ints .u8 hs, 1, true, 5⟩, some ⟨.ints .u8 us, 1, true, 5⟩, some ⟨.agg [.slice 1 7 1 0 us.length none], 0, true, 22⟩, some ⟨.ints .i64 [4], 0, true, 3⟩, some ⟨.ints .i64 ks, gk, true, 3⟩] [])
theorem nC23d_ok {zs Bs xs hs us ks : List Int} {g off n ro rn gk i : Nat} {cp : Option Nat} {ow : Bool} {re : Int} (h : allP [.eqN gk gk, .eqN g g, .eqN gk gk, .eqN xs.length xs.length, .eqN hs.length hs.length, .eqN ks.length ks.length, .leN ks.length 140737488355000, .eqN rn (Bs.length - ro), .p ((reLaw Bs ro re != 0) = false), .p ((ppELaw xs hs ks != 0) = false), .eqN (ppGLaw xs hs ks) (ppGLaw
 xs hs ks), .eqN g g, .eqN (ppGLaw xs hs ks) (ppGLaw xs hs ks), .leN (0 + (ppBLaw xs hs ks).length) (ppBLaw xs hs ks).length, .eqN g g, .leN (off + n) zs.length, .p ((List.map byteOf (List.take (ppBLaw xs hs ks).length (ppBLaw xs hs ks)) == List.map byteOf (List.take n (dropO off zs))) = false)]) : Ok (nC23d zs Bs xs hs us ks g off n ro rn gk i cp ow re) := Ok.dem (fl := bitsF 43 8793945802703) (by
 kernel_rfl) (by kernel_rfl) (by kernel_rfl) h
theorem nC23d_ex {zs Bs xs hs us ks : List Int} {g off n ro rn gk i : Nat} {cp : Option Nat} {ow : Bool} {re : Int} : (nC23d zs Bs xs hs us ks g off n ro rn gk i cp ow re).ex = .ret := by kernel_rfl
theorem nC23d_fm {zs Bs xs hs us ks : List Int} {g off n ro rn gk i : Nat} {cp : Option Nat} {ow : Bool} {re : Int} : (nC23d zs Bs xs hs us ks g off n ro rn gk i cp ow re).fm = [(2, .var 1 0), (3, .int .i64 21)] := by kernel_rfl
theorem nC23d_tab {zs Bs xs hs us ks : List Int} {g off n ro rn gk i : Nat} {cp : Option Nat} {ow : Bool} {re : Int} : (nC23d zs Bs xs hs us ks g off n ro rn gk i cp ow re).tab = [some ⟨.ints .u8 zs, g, ow, 5⟩, some ⟨.agg [.nilSlice, .nilSlice, .nilSlice], 0, true, 47⟩] := by kernel_rfl
noncomputable def nF23 (zs : List Int) (g : Nat) (off : Nat) (n : Nat) (cp : Option Nat) (ow : Bool) : Out := trim 1 7 [0,2,3,4,5] (runs eG6 32 ⟨1, []⟩ 400 (frontC 3 (bodyOf f23)) (argF [.slice 1 0 g off n cp] 0) [some ⟨.ints .u8 zs, g, ow, 5⟩] [])
theorem nF23_ok {zs : List Int} {g : Nat} {off : Nat} {n : Nat} {cp : Option Nat} {ow : Bool} (h : allP [.eqN g g, .leN (off + n) zs.length, .leN n 140737488355000, .eqN n ((subLaw zs off n).length - 0), .leN 0 (subLaw zs off n).length, .p (ByLaw (subLaw zs off n)), .leN (subLaw zs off n).length 140737488355000, .eqN ((subLaw zs off n).length - rvOLaw (subLaw zs off n) 0 0) ((subLaw zs off
 n).length - rvOLaw (subLaw zs off n) 0 0), .leN (rvOLaw (subLaw zs off n) 0 0) (subLaw zs off n).length, .p (ByLaw (subLaw zs off n)), .leN (subLaw zs off n).length 140737488355000]) : Ok (nF23 zs g off n cp ow) := Ok.dem (fl := bitsF 27 133697568) (by kernel_rfl) (by kernel_rfl) (by kernel_rfl) h
theorem nF23_ex {zs : List Int} {g : Nat} {off : Nat} {n : Nat} {cp : Option Nat} {ow : Bool} : (nF23 zs g off n cp ow).ex = .normal := by kernel_rfl
theorem nF23_fm {zs : List Int} {g : Nat} {off : Nat} {n : Nat} {cp : Option Nat} {ow : Bool} : (nF23 zs g off n cp ow).fm = [(0, .slice 1 0 g off n cp), (2, .var 1 0), (3, .int .i64 0), (4, .var 2 0), (5, .var 4 0)] := by kernel_rfl
theorem nF23_tab {zs : List Int} {g : Nat} {off : Nat} {n : Nat} {cp : Option Nat} {ow : Bool} : (nF23 zs g off n cp ow).tab = [some ⟨.ints .u8 zs, g, ow, 5⟩, some ⟨.agg [.nilSlice, .nilSlice, .nilSlice], 0, true, 47⟩, some ⟨.agg [.slice 1 3 1 (rvOLaw (subLaw zs off n) (rvOLaw (subLaw zs off n) 0 0) (rvELaw (subLaw zs off n) 0 0)) ((subLaw zs off n).length - rvOLaw (subLaw zs off n) (rvOLaw (subLaw
 zs off n) 0 0) (rvELaw (subLaw zs off n) 0 0)) none, .int .i64 (rvELaw (subLaw zs off n) (rvOLaw (subLaw zs off n) 0 0) (rvELaw (subLaw zs off n) 0 0)), .bool true], 0, true, 115⟩, some ⟨.ints .u8 (subLaw zs off n), 1, true, 5⟩, some ⟨.agg [.slice 1 5 1 0 (rvVLaw (subLaw zs off n) 0 0).length none, .slice 1 6 1 0 (rvVLaw (subLaw zs off n) (rvOLaw (subLaw zs off n) 0 0) (rvELaw (subLaw zs off n) 0
 0)).length none, .nilSlice], 0, true, 47⟩, some ⟨.ints .u8 (rvVLaw (subLaw zs off n) 0 0), 1, true, 5⟩, some ⟨.ints .u8 (rvVLaw (subLaw zs off n) (rvOLaw (subLaw zs off n) 0 0) (rvELaw (subLaw zs off n) 0 0)), 1, true, 5⟩] := by kernel_rfl
noncomputable def nG23 (zs Bs xs hs : List Int) (g off n ro : Nat) (cp : Option Nat) (ow : Bool) (re : Int) : Out := trim 7 10 [0,2,3,4,5,16] (run eG6 32 ⟨7, []⟩ 400 f23a [(0, .slice 1 0 g off n cp), (2, .var 1 0), (3, .int .i64 0), (4, .var 2 0), (5, .var 4 0)] [some ⟨.ints .u8 zs, g, ow, 5⟩, some ⟨.agg [.nilSlice, .nilSlice, .nilSlice], 0, true, 47⟩, some ⟨.agg [.slice 1 3 1 ro (Bs.length - ro) none, .int .i64 re, .bool true], 0, true, 115⟩, some ⟨.ints .u8 Bs, 1, true, 5⟩, some ⟨.agg [.slice 1 5 1 0 xs.length none, .slice 1 6 1 0 hs.length none, .nilSlice], 0, true, 47⟩, some ⟨.ints .u8 xs, 1, true, 5⟩, some ⟨.ints .u8 hs, 1, true, 5⟩] [])
theorem nG23_ok {zs Bs xs hs : List Int} {g off n ro : Nat} {cp : Option Nat} {ow : Bool} {re : Int} (h : allP [.eqN (Bs.length - ro) (Bs.length - ro), .leN ro Bs.length, .p (ByLaw Bs), .leN Bs.length 140737488355000, .p (false = false)]) : Ok (nG23 zs Bs xs hs g off n ro cp ow re) := Ok.dem (fl := [true, false, false, false, false, false, false, true, true, true, false]) (by kernel_rfl) (by
 kernel_rfl) (by kernel_rfl) h
theorem nG23_ex {zs Bs xs hs : List Int} {g off n ro : Nat} {cp : Option Nat} {ow : Bool} {re : Int} : (nG23 zs Bs xs hs g off n ro cp ow re).ex = .normal := by kernel_rfl
theorem nG23_fm {zs Bs xs hs : List Int} {g off n ro : Nat} {cp : Option Nat} {ow : Bool} {re : Int} : (nG23 zs Bs xs hs g off n ro cp ow re).fm = [(0, .slice 1 0 g off n cp), (2, .var 1 0), (3, .int .i64 0), (4, .var 2 0), (5, .var 4 0), (16, .func (Fn.func 81) [] [.var 8 0, .var 9 0])] := by kernel_rfl
theorem nG23_tab {zs Bs xs hs : List Int} {g off n ro : Nat} {cp : Option Nat} {ow : Bool} {re : Int} : (nG23 zs Bs xs hs g off n ro cp ow re).tab = [some ⟨.ints .u8 zs, g, ow, 5⟩, some ⟨.agg [.nilSlice, .nilSlice, .nilSlice], 0, true, 47⟩, some ⟨.agg [.slice 1 3 1 (rvOLaw Bs ro re) (Bs.length - rvOLaw Bs ro re) none, .int .i64 (rvELaw Bs ro re), .bool true], 0, true, 115⟩, some ⟨.ints .u8 Bs, 1,
 true, 5⟩, some ⟨.agg [.slice 1 5 1 0 xs.length none, .slice 1 6 1 0 hs.length none, .nilSlice], 0, true, 47⟩, some ⟨.ints .u8 xs, 1, true, 5⟩, some ⟨.ints .u8 hs, 1, true, 5⟩, some ⟨.ints .u8 (rvVLaw Bs ro re), 1, true, 5⟩, some ⟨.agg [.slice 1 7 1 0 (rvVLaw Bs ro re).length none], 0, true, 22⟩, some ⟨.ints .i64 [4], 0, true, 3⟩] := by kernel_rfl
/-- nothing, within a value of a pair, told as a slice of an empty object -/
theorem small_nilV {P : Program} {gl : Nat → Option AVal} {f : FuncId} {args : List AVal} {T0 T1 : Tab} {vs : List AVal} {u : AVal} (kk : IntKind) (et : TypeId) (j : Nat) (gg : Nat) (h : Small P gl f args T0 (.tuple [.agg vs, u]) T1) (hj : vs[j]? = some .nilSlice) :
    Small P gl f args T0 (.tuple [.agg (vs.set j (.slice 1 T1.length gg 0 0 none)), u]) (T1 ++ [some ⟨.ints kk [], gg, true, et⟩]) := by
  intro ν w xs hr hvs
  refine (h ν w xs hr hvs).mono ?_
  rintro e w' ⟨x, ν', rfl, h1, h2, h3, h4⟩
  obtain ⟨l0, g1, g2, g3, g4, g5⟩ := h2.pushEmptyG kk et gg
  refine ⟨x, upd ν' T1.length l0, rfl, ?_, g3, h3.trans (g4.b _), h4.sub g5⟩
  have h1' := h1.mono g4
  cases h1' with
  | tuple e1 e2 =>
    rename_i ys
    refine .tuple e1 fun i hi => ?_
    have hi2 := e2 i hi
    match i, hi, hi2 with
    | 0, _, hi2 =>
      have hi3 : VR (upd ν' T1.length l0) (.agg vs) (ys.getD 0 undef) := hi2
      show VR _ (.agg _) (ys.getD 0 undef)
      generalize ys.getD 0 undef = y0 at hi3 ⊢
      cases hi3 with
      | agg e1 e2 =>
        have hd : vs.getD j un = .nilSlice := by simp [List.getD, hj]
        have hv := VRs.set1 (v := .slice 1 T1.length gg 0 0 none) (j := j) (⟨by rw [Array.length_toList]; exact e1, fun i hi => by simpa using e2 i hi⟩ : VRs (upd ν' T1.length l0) vs _) (fun y hy => by
          rw [hd] at hy
          cases hy
          exact .sliceZ none (upd_same _ _ _) g1.symm (.inr ⟨rfl, by rw [g2]; exact Nat.le_refl _⟩))
        exact .agg (by simpa using hv.1) (fun i hi => by simpa using hv.2 i hi)
    | 1, _, hi2 => exact hi2
theorem walk23 {zs : List Int} {g : Nat} {off : Nat} {n : Nat} {cp : Option Nat} {ow : Bool} (h1 : off + n ≤ zs.length) (hb : ByLaw (subLaw zs off n)) (h3 : n ≤ 140737488355000) {post : AExit → Fm → Tab → Prop} (h : AWp eG6 32 1 c23 [(0, .slice 1 0 g off n cp), (2, .var 1 0), (3, .int .i64 0), (4, .var 2 0), (5, .var 4 0), (16, .func (.func 81) [] [.var 8 0, .var 9 0])] (TT81 zs (subLaw zs off n) (qXLaw (subLaw zs off n)) (qHLaw (subLaw zs off n)) (qULaw (subLaw zs off n)) g off n (qO3Law (subLaw zs off n)) ((subLaw zs off n).length - qO3Law (subLaw zs off n)) cp ow (qE3Law (subLaw zs off n)) (cntNLaw (qULaw (subLaw zs off n)).length)) post) : AWp eG6 32 1 (bodyOf f23) (argF [.slice 1 0 g off n cp] 0) [some ⟨.ints .u8 zs, g, ow, 5⟩] post := by
  have hl := subLaw_len h1
  obtain ⟨kq1, kq2, kq3⟩ := q_off (subLaw zs off n)
  unfold qO3Law qO2Law qE2Law qO1Law qE1Law at kq3
  unfold qO2Law qO1Law qE1Law at kq2
  unfold qO1Law at kq1
  rw [hl] at kq1 kq2 kq3
  refine AWp.cutN eG6_ok hmN 3 (o := nF23 zs g off n cp ow) rfl (nF23_ok (by simp only [allP, Con.h, hl, hb, h1, h3, kq1, kq2, kq3, Nat.le_refl, Nat.sub_zero, Nat.zero_le, Nat.zero_add, eq_self, true_and, and_true])) nF23_ex ?_
  rw [nF23_fm, nF23_tab, split23]
  refine AWp.seq (AWp.seq (AWp.mono (AWp.base (by decide) (To.of (o := nG23 zs (subLaw zs off n) (qXLaw (subLaw zs off n)) (qHLaw (subLaw zs off n)) g off n (qO2Law (subLaw zs off n)) cp ow (qE2Law (subLaw zs off n))) eG6_ok hmN (Nat.le_refl 7) OrcOk.nil rfl (nG23_ok (by simp only [allP, Con.h, hl, hb, h1, h3, kq1, kq2, kq3, Nat.le_refl, Nat.sub_zero, Nat.zero_le, Nat.zero_add, eq_self, true_and, and_true]; exact kq2)) nG23_ex nG23_fm nG23_tab)) fun ex fm T hP => ?_))
  obtain ⟨rfl, rfl, rfl⟩ := hP
  refine AWp.conv (ids := [4]) (T' := TT81 zs (subLaw zs off n) (qXLaw (subLaw zs off n)) (qHLaw (subLaw zs off n)) (qULaw (subLaw zs off n)) g off n (qO3Law (subLaw zs off n)) ((subLaw zs off n).length - qO3Law (subLaw zs off n)) cp ow (qE3Law (subLaw zs off n)) 0) (Conv.nilCell (kk := .i64) (et2 := 3) (sz := 1) (p := 4) (j := 2) rfl rfl rfl) (by intro p hp; simp at hp; subst hp; exact ⟨5, .var 4 0, rfl, rfl⟩) ?_
  refine (AWp.base (by decide) (blk23 (rv_by hb _ _) (rv_short _ _ _))).mono ?_
  rintro ex fm T ⟨rfl, rfl, rfl⟩
  exact h
theorem fin23 {E : Env} (hP : E.P = eG6.P) (hg : E.gl = eG6.gl) {fm0 fm : Fm} {T0 T1 : Tab} {cs : List Con} {us : List AVal} {v : AVal} (h : To E 32 1 c23 fm0 T0 .ret fm T1) (hr : aRes eG6 fm T1 f23.results.toList = some (cs, us)) (hc : allP cs) (hv : retV us = v) :
    AWp eG6 32 1 c23 fm0 T0 fun ex fm T => (ex = .normal ∨ ex = .ret) ∧ T = T1 ∧ ∃ cs us, aRes eG6 fm T f23.results.toList = some (cs, us) ∧ allP cs ∧ retV us = v :=
  AWp.env hP hg (AWp.mono h fun ex fm T hP => by
    obtain ⟨rfl, rfl, rfl⟩ := hP
    exact ⟨.inr rfl, rfl, cs, us, hr, hc, hv⟩)
noncomputable def nsm23c (args : List AVal) (T : Tab) (zs : List Int) (g : Nat) (off : Nat) (n : Nat) (cp : Option Nat) (ow : Bool) : Res := ⟨[.tab T [some ⟨.ints .u8 zs, g, ow, 5⟩], .val (.tuple args) (.tuple [.slice 1 0 g off n cp]), .leN (off + n) zs.length, .p (ByLaw (subLaw zs off n)), .leN n 140737488355000], .tuple [.agg [.slice 1 1 1 0 (gpXLaw (subLaw zs off n)).length none, .slice 1 2 1 0 (gpHLaw (subLaw zs off n)).length none, .slice 1 3 (gpGLaw (subLaw zs off n)) 0 (gpKLaw (subLaw zs off n)).length none], .int .i64 (gpELaw (subLaw zs off n))], [some ⟨.ints .u8 zs, g, ow, 5⟩, some ⟨.ints .u8 (gpXLaw (subLaw zs off n)), 1, true, 5⟩, some ⟨.ints .u8 (gpHLaw (subLaw zs off n)), 1, true, 5⟩, some ⟨.ints .i64 (gpKLaw (subLaw zs off n)), gpGLaw (subLaw zs off n), true, 3⟩]⟩
theorem nsm23c_ok {args : List AVal} {T : Tab} {zs : List Int} {g : Nat} {off : Nat} {n : Nat} {cp : Option Nat} {ow : Bool} (h : allP (nsm23c args T zs g off n cp ow).cs) : Small prog (fun _ => none) 23 args T (nsm23c args T zs g off n cp ow).val (nsm23c args T zs g off n cp ow).tab := by
  obtain ⟨hT, hv, h1, h2, h3, _⟩ := h
  simp only [Con.h] at hT hv h1 h2 h3
  injection hv with hv
  subst hT hv
  show Small prog (fun _ => none) 23 [.slice 1 0 g off n cp] [some ⟨.ints .u8 zs, g, ow, 5⟩] (.tuple [.agg [.slice 1 1 1 0 (gpXLaw (subLaw zs off n)).length none, .slice 1 2 1 0 (gpHLaw (subLaw zs off n)).length none, .slice 1 3 (gpGLaw (subLaw zs off n)) 0 (gpKLaw (subLaw zs off n)).length none], .int .i64 (gpELaw (subLaw zs off n))]) [some ⟨.ints .u8 zs, g, ow, 5⟩, some ⟨.ints .u8 (gpXLaw (subLaw zs off n)), 1, true, 5⟩, some ⟨.ints .u8 (gpHLaw (subLaw zs off n)), 1, true, 5⟩, some ⟨.ints .i64 (gpKLaw (subLaw zs off n)), gpGLaw (subLaw zs off n), true, 3⟩]
  have hb : ByLaw (subLaw zs off n) := h2
  have hl := subLaw_len h1
  have hkl : (qKLaw (subLaw zs off n)).length = cntNLaw (qULaw (subLaw zs off n)).length := kuN_len _ _
  have hus : (qULaw (subLaw zs off n)).length ≤ 65536 := rv_short _ _ _
  have hcn : cntNLaw (qULaw (subLaw zs off n)).length ≤ 140737488355000 := by unfold cntNLaw; omega
  by_cases hr : reLaw (subLaw zs off n) (qO3Law (subLaw zs off n)) (qE3Law (subLaw zs off n)) = 0
  rotate_left
  · have hG : ¬ gpOK (subLaw zs off n) := fun h => hr h.1
    unfold gpXLaw gpHLaw gpKLaw gpGLaw gpELaw
    simp only [if_neg hG]
    exact small_nilV .i64 3 2 0 (small_nilV .u8 5 1 1 (small_nilV .u8 5 0 1 (small_drop (T1 := [some ⟨.ints .u8 zs, g, ow, 5⟩, some ⟨.agg [.nilSlice, .nilSlice, .nilSlice], 0, true, 47⟩]) (small_of_awp (v := .tuple [.agg [.nilSlice, .nilSlice, .nilSlice], .int .i64 21]) (T1 := [some ⟨.ints .u8 zs, g, ow, 5⟩, some ⟨.agg [.nilSlice, .nilSlice, .nilSlice], 0, true, 47⟩]) eG6_ok (f := 23) (fn := f23) (c := bodyOf f23) (by kernel_rfl) (by kernel_rfl) (by kernel_rfl) (walk23 h1 hb h3 (fin23 (E := eG8a) rfl rfl (To.ofG (o := nC23a zs (subLaw zs off n) (qXLaw (subLaw zs off n)) (qHLaw (subLaw zs off n)) (qULaw (subLaw zs off n)) (qKLaw (subLaw zs off n)) g off n (qO3Law (subLaw zs off n)) ((subLaw zs off n).length - qO3Law (subLaw zs off n)) (cntNLaw (qULaw (subLaw zs off n)).length) (cntNLaw (qULaw (subLaw zs off n)).length) cp ow (qE3Law (subLaw zs off n))) (T := TT81 zs (subLaw zs off n) (qXLaw (subLaw zs off n)) (qHLaw (subLaw zs off n)) (qULaw (subLaw zs off n)) g off n (qO3Law (subLaw zs off n)) ((subLaw zs off n).length - qO3Law (subLaw zs off n)) cp ow (qE3Law (subLaw zs off n)) (cntNLaw (qULaw (subLaw zs off n)).length)) (n := 32) eG8a_ok hmN (by decide) OrcOk.nil rfl (nC23a_ok (by
        simp only [allP, Con.h, hl, hkl, h1, List.take_length, dropO_eq, bne_iff_ne, bne_eq_false_iff_eq, beq_iff_eq, beq_eq_false_iff_ne, ne_eq, Nat.zero_add, Nat.le_refl, eq_self, true_and, and_true, not_false_eq_true, hr]; exact hcn)) nC23a_ex nC23a_fm nC23a_tab) (cs := [.eqN 0 0, .eqN 3 3]) (us := [.agg [.nilSlice, .nilSlice, .nilSlice], .int .i64 21]) (by kernel_rfl) (by simp [allP, Con.h]) rfl)))) rfl) rfl) rfl
  by_cases hR : RightPa (qXLaw (subLaw zs off n)) (qHLaw (subLaw zs off n)) (qKLaw (subLaw zs off n))
  rotate_left
  · have hG : ¬ gpOK (subLaw zs off n) := fun h => hR h.2.1
    have hq := pp_out hR
    unfold gpXLaw gpHLaw gpKLaw gpGLaw gpELaw
    simp only [if_neg hG]
    exact small_nilV .i64 3 2 0 (small_nilV .u8 5 1 1 (small_nilV .u8 5 0 1 (small_drop (T1 := [some ⟨.ints .u8 zs, g, ow, 5⟩, some ⟨.agg [.nilSlice, .nilSlice, .nilSlice], 0, true, 47⟩]) (small_of_awp (v := .tuple [.agg [.nilSlice, .nilSlice, .nilSlice], .int .i64 21]) (T1 := [some ⟨.ints .u8 zs, g, ow, 5⟩, some ⟨.agg [.nilSlice, .nilSlice, .nilSlice], 0, true, 47⟩]) eG6_ok (f := 23) (fn := f23) (c := bodyOf f23) (by kernel_rfl) (by kernel_rfl) (by kernel_rfl) (walk23 h1 hb h3 (fin23 (E := eG8b) rfl rfl (To.ofG (o := nC23b zs (subLaw zs off n) (qXLaw (subLaw zs off n)) (qHLaw (subLaw zs off n)) (qULaw (subLaw zs off n)) (qKLaw (subLaw zs off n)) g off n (qO3Law (subLaw zs off n)) ((subLaw zs off n).length - qO3Law (subLaw zs off n)) (cntNLaw (qULaw (subLaw zs off n)).length) (cntNLaw (qULaw (subLaw zs off n)).length) cp ow (qE3Law (subLaw zs off n))) (T := TT81 zs (subLaw zs off n) (qXLaw (subLaw zs off n)) (qHLaw (subLaw zs off n)) (qULaw (subLaw zs off n)) g off n (qO3Law (subLaw zs off n)) ((subLaw zs off n).length - qO3Law (subLaw zs off n)) cp ow (qE3Law (subLaw zs off n)) (cntNLaw (qULaw (subLaw zs off n)).length)) (n := 32) eG8b_ok hmN (by decide) OrcOk.nil rfl (nC23b_ok (by
        simp only [allP, Con.h, hl, hkl, h1, List.take_length, dropO_eq, bne_iff_ne, bne_eq_false_iff_eq, beq_iff_eq, beq_eq_false_iff_ne, ne_eq, Nat.zero_add, Nat.le_refl, eq_self, true_and, and_true, not_false_eq_true, hr, hq.2.1]; first | exact hcn | exact ⟨hcn, by decide⟩)) nC23b_ex nC23b_fm nC23b_tab) (cs := [.eqN 0 0, .eqN 3 3]) (us := [.agg [.nilSlice, .nilSlice, .nilSlice], .int .i64 21]) (by kernel_rfl) (by simp [allP, Con.h]) rfl)))) rfl) rfl) rfl
  have hq := pp_in hR
  by_cases hE : ppBLaw (qXLaw (subLaw zs off n)) (qHLaw (subLaw zs off n)) (qKLaw (subLaw zs off n)) = (subLaw zs off n)
  · have hG : gpOK (subLaw zs off n) := ⟨hr, hR, hE⟩
    unfold gpXLaw gpHLaw gpKLaw gpGLaw gpELaw
    simp only [if_pos hG]
    have hS := (small_of_awp (v := .tuple [.agg [.slice 1 2 1 0 (qXLaw (subLaw zs off n)).length none, .slice 1 3 1 0 (qHLaw (subLaw zs off n)).length none, .slice 1 4 (cntNLaw (qULaw (subLaw zs off n)).length) 0 (qKLaw (subLaw zs off n)).length none], .int .i64 0]) (T1 := [some ⟨.ints .u8 zs, g, ow, 5⟩, some ⟨.agg [.slice 1 2 1 0 (qXLaw (subLaw zs off n)).length none, .slice 1 3 1 0 (qHLaw (subLaw zs off n)).length none, .slice 1 4 (cntNLaw (qULaw (subLaw zs off n)).length) 0 (qKLaw (subLaw zs off n)).length none], 0, true, 47⟩, some ⟨.ints .u8 (qXLaw (subLaw zs off n)), 1, true, 5⟩, some ⟨.ints .u8 (qHLaw (subLaw zs off n)), 1, true, 5⟩, some ⟨.ints .i64 (qKLaw (subLaw zs off n)), (cntNLaw (qULaw (subLaw zs off n)).length), true, 3⟩]) eG6_ok (f := 23) (fn := f23) (c := bodyOf f23) (by kernel_rfl) (by kernel_rfl) (by kernel_rfl) (walk23 h1 hb h3 (fin23 (E := eG8c) rfl rfl (To.ofG (o := nC23c zs (subLaw zs off n) (qXLaw (subLaw zs off n)) (qHLaw (subLaw zs off n)) (qULaw (subLaw zs off n)) (qKLaw (subLaw zs off n)) g off n (qO3Law (subLaw zs off n)) ((subLaw zs off n).length - qO3Law (subLaw zs off n)) (cntNLaw (qULaw (subLaw zs off n)).length) (cntNLaw (qULaw (subLaw zs off n)).length) cp ow (qE3Law (subLaw zs off n))) (T := TT81 zs (subLaw zs off n) (qXLaw (subLaw zs off n)) (qHLaw (subLaw zs off n)) (qULaw (subLaw zs off n)) g off n (qO3Law (subLaw zs off n)) ((subLaw zs off n).length - qO3Law (subLaw zs off n)) cp ow (qE3Law (subLaw zs off n)) (cntNLaw (qULaw (subLaw zs off n)).length)) (n := 32) eG8c_ok hmN (by decide) OrcOk.nil rfl (nC23c_ok (by
        simp only [allP, Con.h, hl, hkl, h1, List.take_length, dropO_eq, bne_iff_ne, bne_eq_false_iff_eq, beq_iff_eq, beq_eq_false_iff_ne, ne_eq, Nat.zero_add, Nat.le_refl, eq_self, true_and, and_true, not_false_eq_true, hr, hq.2.1, hE]; exact ⟨hcn, by simp only [subLaw, List.take_take, Nat.min_self]⟩)) nC23c_ex nC23c_fm nC23c_tab) (cs := [.eqN 0 0, .eqN 3 3]) (us := [.agg [.slice 1 2 1 0 (qXLaw (subLaw zs off n)).length none, .slice 1 3 1 0 (qHLaw (subLaw zs off n)).length none, .slice 1 4 (cntNLaw (qULaw (subLaw zs off n)).length) 0 (qKLaw (subLaw zs off n)).length none], .int .i64 0]) (by kernel_rfl) (by simp [allP, Con.h]) rfl)))
    exact small_gc [0, 2, 3, 4] hS rfl rfl rfl rfl
  · have hG : ¬ gpOK (subLaw zs off n) := fun h => hE h.2.2
    have hE2 : List.map byteOf (ppBLaw (qXLaw (subLaw zs off n)) (qHLaw (subLaw zs off n)) (qKLaw (subLaw zs off n))) ≠ List.map byteOf (subLaw zs off n) := fun hm => hE (nBytes_inj (pp_bytes (by_of (rv_by hb _ _)) (by_of (rv_by hb _ _))) (by_of hb) hm)
    unfold gpXLaw gpHLaw gpKLaw gpGLaw gpELaw
    simp only [if_neg hG]
    exact small_nilV .i64 3 2 0 (small_nilV .u8 5 1 1 (small_nilV .u8 5 0 1 (small_drop (T1 := [some ⟨.ints .u8 zs, g, ow, 5⟩, some ⟨.agg [.nilSlice, .nilSlice, .nilSlice], 0, true, 47⟩]) (small_of_awp (v := .tuple [.agg [.nilSlice, .nilSlice, .nilSlice], .int .i64 21]) (T1 := [some ⟨.ints .u8 zs, g, ow, 5⟩, some ⟨.agg [.nilSlice, .nilSlice, .nilSlice], 0, true, 47⟩]) eG6_ok (f := 23) (fn := f23) (c := bodyOf f23) (by kernel_rfl) (by kernel_rfl) (by kernel_rfl) (walk23 h1 hb h3 (fin23 (E := eG8d) rfl rfl (To.ofG (o := nC23d zs (subLaw zs off n) (qXLaw (subLaw zs off n)) (qHLaw (subLaw zs off n)) (qULaw (subLaw zs off n)) (qKLaw (subLaw zs off n)) g off n (qO3Law (subLaw zs off n)) ((subLaw zs off n).length - qO3Law (subLaw zs off n)) (cntNLaw (qULaw (subLaw zs off n)).length) (cntNLaw (qULaw (subLaw zs off n)).length) cp ow (qE3Law (subLaw zs off n))) (T := TT81 zs (subLaw zs off n) (qXLaw (subLaw zs off n)) (qHLaw (subLaw zs off n)) (qULaw (subLaw zs off n)) g off n (qO3Law (subLaw zs off n)) ((subLaw zs off n).length - qO3Law (subLaw zs off n)) cp ow (qE3Law (subLaw zs off n)) (cntNLaw (qULaw (subLaw zs off n)).length)) (n := 32) eG8d_ok hmN (by decide) OrcOk.nil rfl (nC23d_ok (by
        simp only [allP, Con.h, hl, hkl, h1, List.take_length, dropO_eq, bne_iff_ne, bne_eq_false_iff_eq, beq_iff_eq, beq_eq_false_iff_ne, ne_eq, Nat.zero_add, Nat.le_refl, eq_self, true_and, and_true, not_false_eq_true, hr, hq.2.1]; exact ⟨hcn, hE2⟩)) nC23d_ex nC23d_fm nC23d_tab) (cs := [.eqN 0 0, .eqN 3 3]) (us := [.agg [.nilSlice, .nilSlice, .nilSlice], .int .i64 21]) (by kernel_rfl) (by simp [allP, Con.h]) rfl)))) rfl) rfl) rfl
noncomputable def nsm23 : Summary := fun args T => nsm23c args T (xsAt T 0) (gAt T 0) (offOf (vAt args 0)) (lenOf (vAt args 0)) (capOf (vAt args 0)) (owAt T 0)
theorem nsm23_ok : SmOk prog (fun _ => none) 23 nsm23 := fun args T h => nsm23c_ok h
noncomputable def nS23 : Summary := callR nsm23 []
theorem nS23_ok : SumOk prog (fun _ => none) 23 nS23 := callR_ok nsm23_ok []
end Go.Abs

set_option linter.unusedVariables false
set_option linter.unusedSimpArgs false
set_option maxRecDepth 100000
set_option maxHeartbeats 4000000
namespace Go.Abs
open Go.Proofs Go.Proofs.Try
/-! ### the document's parents, read -/
noncomputable def eG9 : Env := eN0 [(45, S24r), (47, S37r), (63, S26r), (64, S30r), (77, S34r)]
theorem eG9_ok : EnvOk eG9 := envOf_ok tysN_ok (SumsOk.cons (fn := f45) S24r_ok (by kernel_rfl) (by kernel_rfl) (by kernel_rfl) (SumsOk.cons (fn := f47) S37r_ok (by kernel_rfl) (by kernel_rfl) (by kernel_rfl) (SumsOk.cons (fn := f63) S26r_ok (by kernel_rfl) (by kernel_rfl) (by kernel_rfl) (SumsOk.cons (fn := f64) S30r_ok (by kernel_rfl) (by kernel_rfl) (by kernel_rfl) (SumsOk.cons (fn := f77) S34r_ok (by kernel_rfl) (by kernel_rfl) (by kernel_rfl) trivial)))))
noncomputable def c56 : Code := sndC (backC 4 (bodyOf f56))
theorem split56 : backC 4 (bodyOf f56) = .seq (.block 0 (.loop (roundOf 0 f56))) c56 := by kernel_rfl
noncomputable def nF56 (B : List Int) (g gR nB : Nat) : Out := trim 2 9 [0, 2, 3, 4, 5] (runs eG9 36 ⟨2, []⟩ 400 (frontC 4 (bodyOf f56)) (argF [.var 0 gR] 0) [some ⟨.agg [.slice 1 1 g 0 nB none, .int .i64 (0 : Nat), .int .i64 0], gR, true, 118⟩, some ⟨.ints .u8 B, g, false, 5⟩] [])
theorem nF56_ok {B : List Int} {g gR nB : Nat} (h : allP [.eqN g g, .eqN nB B.length, .leN 0 B.length, .p (ByLaw B), .leN B.length 140737488355000, .eqN g g, .eqN nB B.length, .leN (rvOLaw B 0 0) B.length, .p (ByLaw B), .leN B.length 140737488355000, .eqN g g, .eqN nB B.length, .leN (rvOLaw B (rvOLaw B 0 0) (rvELaw B 0 0)) B.length, .p (ByLaw B), .leN B.length 140737488355000, .leN (0 + (rvVLaw B
 (rvOLaw B (rvOLaw B 0 0) (rvELaw B 0 0)) (rvELaw B (rvOLaw B 0 0) (rvELaw B 0 0))).length) (rvVLaw B (rvOLaw B (rvOLaw B 0 0) (rvELaw B 0 0)) (rvELaw B (rvOLaw B 0 0) (rvELaw B 0 0))).length, .leN (rvVLaw B (rvOLaw B (rvOLaw B 0 0) (rvELaw B 0 0)) (rvELaw B (rvOLaw B 0 0) (rvELaw B 0 0))).length 140737488355000]) : Ok (nF56 B g gR nB) := Ok.dem (fl := bitsF 37 4327481216) (by kernel_rfl) (by
 kernel_rfl) (by kernel_rfl) h
theorem nF56_ex {B : List Int} {g gR nB : Nat} : (nF56 B g gR nB).ex = .normal := by kernel_rfl
theorem nF56_fm {B : List Int} {g gR nB : Nat} : (nF56 B g gR nB).fm = [(0, .var 0 gR), (2, .var 2 0), (3, .bool false), (4, .var 3 0), (5, .var 7 0)] := by kernel_rfl
theorem nF56_tab {B : List Int} {g gR nB : Nat} : (nF56 B g gR nB).tab = [some ⟨.agg [.slice 1 1 g 0 nB none, .int .i64 (↑(rvOLaw B (rvOLaw B (rvOLaw B 0 0) (rvELaw B 0 0)) (rvELaw B (rvOLaw B 0 0) (rvELaw B 0 0))) : Int), .int .i64 (rvELaw B (rvOLaw B (rvOLaw B 0 0) (rvELaw B 0 0)) (rvELaw B (rvOLaw B 0 0) (rvELaw B 0 0)))], gR, true, 118⟩, some ⟨.ints .u8 B, g, false, 5⟩, some ⟨.agg [.nilSlice,
 .nilSlice, .nilSlice], 0, true, 46⟩, some ⟨.agg [.slice 1 4 1 0 (rvVLaw B 0 0).length none, .slice 1 5 1 0 (rvVLaw B (rvOLaw B 0 0) (rvELaw B 0 0)).length none, .nilSlice], 0, true, 46⟩, some ⟨.ints .u8 (rvVLaw B 0 0), 1, true, 5⟩, some ⟨.ints .u8 (rvVLaw B (rvOLaw B 0 0) (rvELaw B 0 0)), 1, true, 5⟩, some ⟨.ints .u8 (rvVLaw B (rvOLaw B (rvOLaw B 0 0) (rvELaw B 0 0)) (rvELaw B (rvOLaw B 0 0)
 (rvELaw B 0 0))), 1, true, 5⟩, some ⟨.agg [.slice 1 8 1 0 (rvVLaw B (rvOLaw B (rvOLaw B 0 0) (rvELaw B 0 0)) (rvELaw B (rvOLaw B 0 0) (rvELaw B 0 0))).length none, .int .i64 0, .int .i64 0], 0, true, 118⟩, some ⟨.ints .u8 (subLaw (rvVLaw B (rvOLaw B (rvOLaw B 0 0) (rvELaw B 0 0)) (rvELaw B (rvOLaw B 0 0) (rvELaw B 0 0))) 0 (rvVLaw B (rvOLaw B (rvOLaw B 0 0) (rvELaw B 0 0)) (rvELaw B (rvOLaw B 0 0)
 (rvELaw B 0 0))).length), 1, true, 5⟩] := by kernel_rfl
noncomputable def nD56 (B xs hs us ks : List Int) (g gR nB ro gk i off : Nat) (re e : Int) : Out := trimG 10 [0, 1, 2, 3, 4, 5, 6, 7, 8, 9] [0, 2, 3, 4, 5] (run eG9 36 ⟨10, []⟩ 400 (roundOf 0 f56) [(0, .var 0 gR), (2, .var 2 0), (3, .bool false), (4, .var 3 0), (5, .var 7 0)] [some ⟨.agg [.slice 1 1 g 0 nB none, .int .i64 (ro : Nat), .int .i64 re], gR, true, 118⟩, some ⟨.ints .u8 B, g, false, 5⟩, some ⟨.agg [.nilSlice, .nilSlice, .nilSlice], 0, true, 46⟩, some ⟨.agg [.slice 1 4 1 0 xs.length none, .slice 1 5 1 0 hs.length none, .slice 1 9 gk 0 ks.length none], 0, true, 46⟩, some ⟨.ints .u8 xs, 1, true, 5⟩, some ⟨.ints .u8 hs, 1, true, 5⟩, some ⟨.ints .u8 us, 1, true, 5⟩, some ⟨.agg [.slice 1 8 1 0 us.length none, .int .i64 (off : Nat), .int .i64 e], 0, true, 118⟩, some ⟨.ints .u8 us, 1, true, 5⟩, some ⟨.ints .i64 ks, gk, true, 3⟩] [some true, some true])
theorem nD56_ok {B xs hs us ks : List Int} {g gR nB ro gk i off : Nat} {re e : Int} (h : allP [.leN off us.length, .leN us.length 140737488355000, .p (decide (0 < (↑(us.length - off) : Int)) = true), .p ((e == 0) = true), .eqN us.length us.length, .leN off us.length, .p (ByLaw us), .leN us.length 140737488355000, .eqN gk gk, .leN (0 + ks.length) ks.length, .leN (addO ks.length 1 * 8)
 140737488355328]) : Ok (nD56 B xs hs us ks g gR nB ro gk i off re e) := Ok.dem (fl := bitsF 46 34569658001283) (by kernel_rfl) (by kernel_rfl) (by kernel_rfl) h
theorem nD56_ex {B xs hs us ks : List Int} {g gR nB ro gk i off : Nat} {re e : Int} : (nD56 B xs hs us ks g gR nB ro gk i off re e).ex = .normal := by kernel_rfl
theorem nD56_fm {B xs hs us ks : List Int} {g gR nB ro gk i off : Nat} {re e : Int} : (nD56 B xs hs us ks g gR nB ro gk i off re e).fm = [(0, .var 0 gR), (2, .var 2 0), (3, .bool false), (4, .var 3 0), (5, .var 7 0)] := by kernel_rfl
theorem nD56_tab {B xs hs us ks : List Int} {g gR nB ro gk i off : Nat} {re e : Int} : (nD56 B xs hs us ks g gR nB ro gk i off re e).tab = [some ⟨.agg [.slice 1 1 g 0 nB none, .int .i64 (↑ro : Int), .int .i64 re], gR, true, 118⟩, some ⟨.ints .u8 B, g, false, 5⟩, some ⟨.agg [.nilSlice, .nilSlice, .nilSlice], 0, true, 46⟩, some ⟨.agg [.slice 1 4 1 0 xs.length none, .slice 1 5 1 0 hs.length none,
 .slice 1 9 (gk + 1) 0 (addO ks.length 1) none], 0, true, 46⟩, some ⟨.ints .u8 xs, 1, true, 5⟩, some ⟨.ints .u8 hs, 1, true, 5⟩, some ⟨.ints .u8 us, 1, true, 5⟩, some ⟨.agg [.slice 1 8 1 0 us.length none, .int .i64 (↑(rnOLaw us off e 4) : Int), .int .i64 (rnELaw us off e 4)], 0, true, 118⟩, some ⟨.ints .u8 us, 1, true, 5⟩, some ⟨.ints .i64 (List.take ks.length ks ++ List.take 1 ([0].set 0 (rnVLaw us
 off e 4))), gk + 1, true, 3⟩] := by kernel_rfl
noncomputable def nE56a (B xs hs us ks : List Int) (g gR nB ro gk i off : Nat) (re e : Int) : Out := trim 10 10 [0, 2, 3, 4, 5] (run eG9 36 ⟨10, []⟩ 400 (roundOf 0 f56) [(0, .var 0 gR), (2, .var 2 0), (3, .bool false), (4, .var 3 0), (5, .var 7 0)] [some ⟨.agg [.slice 1 1 g 0 nB none, .int .i64 (ro : Nat), .int .i64 re], gR, true, 118⟩, some ⟨.ints .u8 B, g, false, 5⟩, some ⟨.agg [.nilSlice, .nilSlice, .nilSlice], 0, true, 46⟩, some ⟨.agg [.slice 1 4 1 0 xs.length none, .slice 1 5 1 0 hs.length none, .slice 1 9 gk 0 ks.length none], 0, true, 46⟩, some ⟨.ints .u8 xs, 1, true, 5⟩, some ⟨.ints .u8 hs, 1, true, 5⟩, some ⟨.ints .u8 us, 1, true, 5⟩, some ⟨.agg [.slice 1 8 1 0 us.length none, .int .i64 (off : Nat), .int .i64 e], 0, true, 118⟩, some ⟨.ints .u8 us, 1, true, 5⟩, some ⟨.ints .i64 ks, gk, true, 3⟩] [some false])
theorem nE56a_ok {B xs hs us ks : List Int} {g gR nB ro gk i off : Nat} {re e : Int} (h : allP [.leN off us.length, .leN us.length 140737488355000, .p (decide (0 < (↑(us.length - off) : Int)) = false)]) : Ok (nE56a B xs hs us ks g gR nB ro gk i off re e) := Ok.dem (fl := [true, true, false, false, false, false, false]) (by kernel_rfl) (by kernel_rfl) (by kernel_rfl) h
theorem nE56a_ex {B xs hs us ks : List Int} {g gR nB ro gk i off : Nat} {re e : Int} : (nE56a B xs hs us ks g gR nB ro gk i off re e).ex = .exit 0 := by kernel_rfl
theorem nE56a_fm {B xs hs us ks : List Int} {g gR nB ro gk i off : Nat} {re e : Int} : (nE56a B xs hs us ks g gR nB ro gk i off re e).fm = [(0, .var 0 gR), (2, .var 2 0), (3, .bool false), (4, .var 3 0), (5, .var 7 0)] := by kernel_rfl
theorem nE56a_tab {B xs hs us ks : List Int} {g gR nB ro gk i off : Nat} {re e : Int} : (nE56a B xs hs us ks g gR nB ro gk i off re e).tab = [some ⟨.agg [.slice 1 1 g 0 nB none, .int .i64 (↑ro : Int), .int .i64 re], gR, true, 118⟩, some ⟨.ints .u8 B, g, false, 5⟩, some ⟨.agg [.nilSlice, .nilSlice, .nilSlice], 0, true, 46⟩, some ⟨.agg [.slice 1 4 1 0 xs.length none, .slice 1 5 1 0 hs.length none,
 .slice 1 9 gk 0 ks.length none], 0, true, 46⟩, some ⟨.ints .u8 xs, 1, true, 5⟩, some ⟨.ints .u8 hs, 1, true, 5⟩, some ⟨.ints .u8 us, 1, true, 5⟩, some ⟨.agg [.slice 1 8 1 0 us.length none, .int .i64 (↑off : Int), .int .i64 e], 0, true, 118⟩, some ⟨.ints .u8 us, 1, true, 5⟩, some ⟨.ints .i64 ks, gk, true, 3⟩] := by kernel_rfl
noncomputable def nE56b (B xs hs us ks : List Int) (g gR nB ro gk i off : Nat) (re e : Int) : Out := trim 10 10 [0, 2, 3, 4, 5] (run eG9 36 ⟨10, []⟩ 400 (roundOf 0 f56) [(0, .var 0 gR), (2, .var 2 0), (3, .bool false), (4, .var 3 0), (5, .var 7 0)] [some ⟨.agg [.slice 1 1 g 0 nB none, .int .i64 (ro : Nat), .int .i64 re], gR, true, 118⟩, some ⟨.ints .u8 B, g, false, 5⟩, some ⟨.agg [.nilSlice, .nilSlice, .nilSlice], 0, true, 46⟩, some ⟨.agg [.slice 1 4 1 0 xs.length none, .slice 1 5 1 0 hs.length none, .slice 1 9 gk 0 ks.length none], 0, true, 46⟩, some ⟨.ints .u8 xs, 1, true, 5⟩, some ⟨.ints .u8 hs, 1, true, 5⟩, some ⟨.ints .u8 us, 1, true, 5⟩, some ⟨.agg [.slice 1 8 1 0 us.length none, .int .i64 (off : Nat), .int .i64 e], 0, true, 118⟩, some ⟨.ints .u8 us, 1, true, 5⟩, some ⟨.ints .i64 ks, gk, true, 3⟩] [some true, some false])
theorem nE56b_ok {B xs hs us ks : List Int} {g gR nB ro gk i off : Nat} {re e : Int} (h : allP [.leN off us.length, .leN us.length 140737488355000, .p (decide (0 < (↑(us.length - off) : Int)) = true), .p ((e == 0) = false)]) : Ok (nE56b B xs hs us ks g gR nB ro gk i off re e) := Ok.dem (fl := bitsF 12 1923) (by kernel_rfl) (by kernel_rfl) (by kernel_rfl) h
theorem nE56b_ex {B xs hs us ks : List Int} {g gR nB ro gk i off : Nat} {re e : Int} : (nE56b B xs hs us ks g gR nB ro gk i off re e).ex = .exit 0 := by kernel_rfl
theorem nE56b_fm {B xs hs us ks : List Int} {g gR nB ro gk i off : Nat} {re e : Int} : (nE56b B xs hs us ks g gR nB ro gk i off re e).fm = [(0, .var 0 gR), (2, .var 2 0), (3, .bool false), (4, .var 3 0), (5, .var 7 0)] := by kernel_rfl
theorem nE56b_tab {B xs hs us ks : List Int} {g gR nB ro gk i off : Nat} {re e : Int} : (nE56b B xs hs us ks g gR nB ro gk i off re e).tab = [some ⟨.agg [.slice 1 1 g 0 nB none, .int .i64 (↑ro : Int), .int .i64 re], gR, true, 118⟩, some ⟨.ints .u8 B, g, false, 5⟩, some ⟨.agg [.nilSlice, .nilSlice, .nilSlice], 0, true, 46⟩, some ⟨.agg [.slice 1 4 1 0 xs.length none, .slice 1 5 1 0 hs.length none,
 .slice 1 9 gk 0 ks.length none], 0, true, 46⟩, some ⟨.ints .u8 xs, 1, true, 5⟩, some ⟨.ints .u8 hs, 1, true, 5⟩, some ⟨.ints .u8 us, 1, true, 5⟩, some ⟨.agg [.slice 1 8 1 0 us.length none, .int .i64 (↑off : Int), .int .i64 e], 0, true, 118⟩, some ⟨.ints .u8 us, 1, true, 5⟩, some ⟨.ints .i64 ks, gk, true, 3⟩] := by kernel_rfl
noncomputable def nC56 (B xs hs us ks : List Int) (g gR nB ro gk i off : Nat) (re e : Int) : Out := trimG 2 [0, 1, 2, 4, 5, 9] [2, 3] (run eG9 36 ⟨10, []⟩ 400 c56 [(0, .var 0 gR), (2, .var 2 0), (3, .bool false), (4, .var 3 0), (5, .var 7 0)] [some ⟨.agg [.slice 1 1 g 0 nB none, .int .i64 (ro : Nat), .int .i64 re], gR, true, 118⟩, some ⟨.ints .u8 B, g, false, 5⟩, some ⟨.agg [.nilSlice, .nilSlice, .nilSlice], 0, true, 46⟩, some ⟨.agg [.slice 1 4 1 0 xs.length none, .slice 1 5 1 0 hs.length none, .slice 1 9 gk 0 ks.length none], 0, true, 46⟩, some ⟨.ints .u8 xs, 1, true, 5⟩, some ⟨.ints .u8 hs, 1, true, 5⟩, some ⟨.ints .u8 us, 1, true, 5⟩, some ⟨.agg [.slice 1 8 1 0 us.length none, .int .i64 (off : Nat), .int .i64 e], 0, true, 118⟩, some ⟨.ints .u8 us, 1, true, 5⟩, some ⟨.ints .i64 ks, gk, true, 3⟩] [none])
theorem nC56_ok {B xs hs us ks : List Int} {g gR nB ro gk i off : Nat} {re e : Int} (h : allP [.eqN us.length us.length, .leN off us.length, .p (ByLaw us), .leN us.length 140737488355000]) : Ok (nC56 B xs hs us ks g gR nB ro gk i off re e) := Ok.dem (fl := bitsF 20 491614) (by kernel_rfl) (by kernel_rfl) (by kernel_rfl) h
theorem nC56_ex {B xs hs us ks : List Int} {g gR nB ro gk i off : Nat} {re e : Int} : (nC56 B xs hs us ks g gR nB ro gk i off re e).ex = .ret := by kernel_rfl
theorem nC56_fm {B xs hs us ks : List Int} {g gR nB ro gk i off : Nat} {re e : Int} : (nC56 B xs hs us ks g gR nB ro gk i off re e).fm = [(2, .var 2 0), (3, .bool (reLaw us off e == 0))] := by kernel_rfl
theorem nC56_tab {B xs hs us ks : List Int} {g gR nB ro gk i off : Nat} {re e : Int} : (nC56 B xs hs us ks g gR nB ro gk i off re e).tab = [some ⟨.agg [.slice 1 1 g 0 nB none, .int .i64 (↑ro : Int), .int .i64 re], gR, true, 118⟩, some ⟨.ints .u8 B, g, false, 5⟩, some ⟨.agg [.slice 1 3 1 0 xs.length none, .slice 1 4 1 0 hs.length none, .slice 1 5 gk 0 ks.length none], 0, true, 46⟩, some ⟨.ints .u8
 xs, 1, true, 5⟩, some ⟨.ints .u8 hs, 1, true, 5⟩, some ⟨.ints .i64 ks, gk, true, 3⟩] := by kernel_rfl
def dOff (us : List Int) (i : Nat) : Nat := if 4 * i ≤ us.length then 4 * i else 4 * (i - 1)
def dErr (us : List Int) (i : Nat) : Int := if 4 * i ≤ us.length then 0 else 20
theorem d_step {us : List Int} (hb : ByLaw us) {i : Nat} (h : 4 * i < us.length) : dOff us i = 4 * i ∧ dErr us i = 0 ∧ rnOLaw us (4 * i) 0 4 = dOff us (i + 1) ∧ rnELaw us (4 * i) 0 4 = dErr us (i + 1) ∧ kuN us (i + 1) = kuN us i ++ [rnVLaw us (4 * i) 0 4] := by
  have h1 : dOff us i = 4 * i := if_pos (by omega)
  have h2 : dErr us i = 0 := if_pos (by omega)
  refine ⟨h1, h2, ?_⟩
  by_cases h4 : 4 * i + 4 ≤ us.length
  · have f4 : rnP us (4 * i) 0 4 = (numAtLaw 4 us (4 * i), 4 * i + 4, 0) := by
      unfold rnP
      rw [if_neg (by decide), if_neg (by decide), if_neg (by omega), if_neg (by omega)]
      rfl
    have he : eN us i = 4 := by unfold eN; rw [if_neg (by omega)]
    refine ⟨?_, ?_, ?_⟩
    · unfold rnOLaw dOff
      rw [f4, if_pos (by omega)]
      show 4 * i + 4 = _
      omega
    · unfold rnELaw dErr
      rw [f4, if_pos (by omega)]
    · rw [kuN, he, (four hb h4).2.2.1]
  · have f4 : rnP us (4 * i) 0 4 = (0, 4 * i, 20) := by
      unfold rnP
      rw [if_neg (by decide), if_neg (by decide), if_pos (by omega)]
    have he : eN us i < 4 ∧ eN us i ≤ us.length - 4 * i := by unfold eN; split <;> omega
    have hl : (subLaw us (4 * i) (eN us i)).length = eN us i := subLaw_len (by omega)
    have f5 : rnP (subLaw us (4 * i) (eN us i)) 0 0 4 = (0, 0, 20) := by
      unfold rnP
      rw [if_neg (by decide), if_neg (by decide), if_pos (by omega)]
    refine ⟨?_, ?_, ?_⟩
    · unfold rnOLaw dOff
      rw [f4, if_neg (by omega)]
      rfl
    · unfold rnELaw dErr
      rw [f4, if_neg (by omega)]
    · rw [kuN]
      unfold rnVLaw
      rw [f4, f5]
def okULaw (us : List Int) : Bool := us.length % 4 == 0
theorem d_end (us : List Int) : (reLaw us (dOff us (cntNLaw us.length)) (dErr us (cntNLaw us.length)) == 0) = okULaw us := by
  unfold okULaw
  by_cases h : us.length % 4 = 0
  · have hc : 4 * cntNLaw us.length = us.length := by unfold cntNLaw; omega
    rw [show dOff us (cntNLaw us.length) = us.length by unfold dOff; rw [if_pos (by omega), hc], show dErr us (cntNLaw us.length) = 0 by unfold dErr; rw [if_pos (by omega)], beq_iff_eq.2 h]
    unfold reLaw
    rw [if_neg (by decide), if_neg (by omega)]
    rfl
  · have hc : ¬ 4 * cntNLaw us.length ≤ us.length := by unfold cntNLaw; omega
    rw [show dErr us (cntNLaw us.length) = 20 by unfold dErr; rw [if_neg hc], beq_eq_false_iff_ne.2 h]
    unfold reLaw
    rw [if_pos (by decide)]
    rfl
def TD56 (B xs hs us : List Int) (g gR nB ro : Nat) (re : Int) (i : Nat) : Tab := [some ⟨.agg [.slice 1 1 g 0 nB none, .int .i64 (ro : Nat), .int .i64 re], gR, true, 118⟩, some ⟨.ints .u8 B, g, false, 5⟩, some ⟨.agg [.nilSlice, .nilSlice, .nilSlice], 0, true, 46⟩, some ⟨.agg [.slice 1 4 1 0 xs.length none, .slice 1 5 1 0 hs.length none, .slice 1 9 i 0 (kuN us i).length none], 0, true, 46⟩, some ⟨.ints .u8 xs, 1, true, 5⟩, some ⟨.ints .u8 hs, 1, true, 5⟩, some ⟨.ints .u8 us, 1, true, 5⟩, some ⟨.agg [.slice 1 8 1 0 us.length none, .int .i64 (dOff us i : Nat), .int .i64 (dErr us i)], 0, true, 118⟩, some ⟨.ints .u8 us, 1, true, 5⟩, some ⟨.ints .i64 (kuN us i), i, true, 3⟩]
theorem loop56 {B xs hs us : List Int} {g gR nB ro : Nat} {re : Int} (hb : ByLaw us) (hl : us.length ≤ 65536) : To eG9 36 10 (.block 0 (.loop (roundOf 0 f56))) [(0, .var 0 gR), (2, .var 2 0), (3, .bool false), (4, .var 3 0), (5, .var 7 0)] (TD56 B xs hs us g gR nB ro re 0) .normal [(0, .var 0 gR), (2, .var 2 0), (3, .bool false), (4, .var 3 0), (5, .var 7 0)] (TD56 B xs hs us g gR nB ro re (cntNLaw us.length)) := by
  refine To.rounds (fun _ => [(0, .var 0 gR), (2, .var 2 0), (3, .bool false), (4, .var 3 0), (5, .var 7 0)]) (TD56 B xs hs us g gR nB ro re) (cntNLaw us.length) (fun i hi => ?_) ?_
  · have h4 : 4 * i < us.length := by unfold cntNLaw at hi; omega
    have hk := kuN_len us i
    obtain ⟨d1, d2, d3, d4, d5⟩ := d_step hb h4
    refine To.ofG (o := nD56 B xs hs us (kuN us i) g gR nB ro i i (dOff us i) re (dErr us i)) eG9_ok hmN (Nat.le_refl 10) OrcOk.nil rfl (nD56_ok (by
      simp only [allP, Con.h, eq_self, true_and, and_true, decide_eq_true_eq, decide_eq_false_iff_not, beq_iff_eq, beq_eq_false_iff_ne, ne_eq, hb, d1, d2, addO_eq, hk, Nat.zero_add, Nat.le_refl]
      omega)) nD56_ex nD56_fm ?_
    rw [nD56_tab, d1, d2, d3, d4, addO_eq, List.take_length]
    unfold TD56
    rw [d5, List.length_append]
    rfl
  · have hk := kuN_len us (cntNLaw us.length)
    by_cases h : us.length % 4 = 0
    · have hc : 4 * cntNLaw us.length = us.length := by unfold cntNLaw; omega
      have e1 : dOff us (cntNLaw us.length) = us.length := by unfold dOff; rw [if_pos (by omega), hc]
      exact To.of (o := nE56a B xs hs us (kuN us (cntNLaw us.length)) g gR nB ro (cntNLaw us.length) (cntNLaw us.length) (dOff us (cntNLaw us.length)) re (dErr us (cntNLaw us.length))) (T := TD56 B xs hs us g gR nB ro re (cntNLaw us.length)) (T' := TD56 B xs hs us g gR nB ro re (cntNLaw us.length)) eG9_ok hmN (Nat.le_refl 10) OrcOk.nil rfl (nE56a_ok (by
        simp only [allP, Con.h, eq_self, true_and, and_true, decide_eq_true_eq, decide_eq_false_iff_not, beq_iff_eq, beq_eq_false_iff_ne, ne_eq, e1, Nat.le_refl]
        omega)) nE56a_ex nE56a_fm nE56a_tab
    · have hc : ¬ 4 * cntNLaw us.length ≤ us.length := by unfold cntNLaw; omega
      have e1 : dOff us (cntNLaw us.length) = 4 * (cntNLaw us.length - 1) := by unfold dOff; rw [if_neg hc]
      have e2 : dErr us (cntNLaw us.length) = 20 := by unfold dErr; rw [if_neg hc]
      have e3 : 4 * (cntNLaw us.length - 1) < us.length := by unfold cntNLaw; omega
      exact To.of (o := nE56b B xs hs us (kuN us (cntNLaw us.length)) g gR nB ro (cntNLaw us.length) (cntNLaw us.length) (dOff us (cntNLaw us.length)) re (dErr us (cntNLaw us.length))) (T := TD56 B xs hs us g gR nB ro re (cntNLaw us.length)) (T' := TD56 B xs hs us g gR nB ro re (cntNLaw us.length)) eG9_ok hmN (Nat.le_refl 10) OrcOk.nil rfl (nE56b_ok (by
        simp only [allP, Con.h, eq_self, true_and, and_true, decide_eq_true_eq, decide_eq_false_iff_not, beq_iff_eq, beq_eq_false_iff_ne, ne_eq, e1, e2]
        omega)) nE56b_ex nE56b_fm nE56b_tab
noncomputable def nsm56c (args : List AVal) (T : Tab) (B : List Int) (g : Nat) (gR : Nat) (nB : Nat) : Res := ⟨[.tab T [some ⟨.agg [.slice 1 1 g 0 nB none, .int .i64 (0 : Nat), .int .i64 0], gR, true, 118⟩, some ⟨.ints .u8 B, g, false, 5⟩], .val (.tuple args) (.tuple [.var 0 gR]), .eqN nB B.length, .p (ByLaw B), .leN B.length 140737488355000], .tuple [.agg [.slice 1 2 1 0 (qXLaw B).length none, .slice 1 3 1 0 (qHLaw B).length none, .slice 1 4 (cntNLaw (qULaw B).length) 0 (qKLaw B).length none], .bool (okULaw (qULaw B))], [some ⟨.agg [.slice 1 1 g 0 nB none, .int .i64 (qO3Law B : Nat), .int .i64 (qE3Law B)], gR, true, 118⟩, some ⟨.ints .u8 B, g, false, 5⟩, some ⟨.ints .u8 (qXLaw B), 1, true, 5⟩, some ⟨.ints .u8 (qHLaw B), 1, true, 5⟩, some ⟨.ints .i64 (qKLaw B), (cntNLaw (qULaw B).length), true, 3⟩]⟩
theorem nsm56c_ok {args : List AVal} {T : Tab} {B : List Int} {g : Nat} {gR : Nat} {nB : Nat} (h : allP (nsm56c args T B g gR nB).cs) : Small prog (fun _ => none) 56 args T (nsm56c args T B g gR nB).val (nsm56c args T B g gR nB).tab := by
  obtain ⟨hT, hv, h1, h2, h3, _⟩ := h
  simp only [Con.h] at hT hv h1 h2 h3
  injection hv with hv
  subst hT hv
  show Small prog (fun _ => none) 56 [.var 0 gR] [some ⟨.agg [.slice 1 1 g 0 nB none, .int .i64 (0 : Nat), .int .i64 0], gR, true, 118⟩, some ⟨.ints .u8 B, g, false, 5⟩] (.tuple [.agg [.slice 1 2 1 0 (qXLaw B).length none, .slice 1 3 1 0 (qHLaw B).length none, .slice 1 4 (cntNLaw (qULaw B).length) 0 (qKLaw B).length none], .bool (okULaw (qULaw B))]) [some ⟨.agg [.slice 1 1 g 0 nB none, .int .i64 (qO3Law B : Nat), .int .i64 (qE3Law B)], gR, true, 118⟩, some ⟨.ints .u8 B, g, false, 5⟩, some ⟨.ints .u8 (qXLaw B), 1, true, 5⟩, some ⟨.ints .u8 (qHLaw B), 1, true, 5⟩, some ⟨.ints .i64 (qKLaw B), (cntNLaw (qULaw B).length), true, 3⟩]
  subst h1
  have hb : ByLaw B := h2
  obtain ⟨kq1, kq2, kq3⟩ := q_off B
  unfold qO3Law qO2Law qE2Law qO1Law qE1Law at kq3
  unfold qO2Law qO1Law qE1Law at kq2
  unfold qO1Law at kq1
  have hus : (qULaw B).length ≤ 65536 := rv_short _ _ _
  have hub : ByLaw (qULaw B) := rv_by hb _ _
  have hsu : subLaw (qULaw B) 0 (qULaw B).length = (qULaw B) := by unfold subLaw; rw [List.drop_zero, List.take_length]
  have hW : AWp eG9 36 2 (bodyOf f56) (argF [.var 0 gR] 0) [some ⟨.agg [.slice 1 1 g 0 B.length none, .int .i64 (0 : Nat), .int .i64 0], gR, true, 118⟩, some ⟨.ints .u8 B, g, false, 5⟩] fun ex fm T => (ex = .normal ∨ ex = .ret) ∧ T = [some ⟨.agg [.slice 1 1 g 0 B.length none, .int .i64 (qO3Law B : Nat), .int .i64 (qE3Law B)], gR, true, 118⟩, some ⟨.ints .u8 B, g, false, 5⟩, some ⟨.agg [.slice 1 3 1 0 (qXLaw B).length none, .slice 1 4 1 0 (qHLaw B).length none, .slice 1 5 (cntNLaw (qULaw B).length) 0 (qKLaw B).length none], 0, true, 46⟩, some ⟨.ints .u8 (qXLaw B), 1, true, 5⟩, some ⟨.ints .u8 (qHLaw B), 1, true, 5⟩, some ⟨.ints .i64 (qKLaw B), (cntNLaw (qULaw B).length), true, 3⟩] ∧ ∃ cs us, aRes eG9 fm T f56.results.toList = some (cs, us) ∧ allP cs ∧ retV us = .tuple [.agg [.slice 1 3 1 0 (qXLaw B).length none, .slice 1 4 1 0 (qHLaw B).length none, .slice 1 5 (cntNLaw (qULaw B).length) 0 (qKLaw B).length none], .bool (okULaw (qULaw B))] := by
    refine AWp.cutN eG9_ok hmN 4 (o := nF56 B g gR B.length) rfl (nF56_ok (by
      simp only [allP, Con.h, eq_self, true_and, and_true, decide_eq_true_eq, decide_eq_false_iff_not, beq_iff_eq, beq_eq_false_iff_ne, ne_eq, hb, h3, kq1, kq2, kq3, Nat.zero_le, Nat.le_refl]
      exact ⟨by omega, Nat.le_trans hus (show 65536 ≤ 140737488355000 by decide)⟩)) nF56_ex ?_
    rw [nF56_fm, nF56_tab, split56]
    refine AWp.conv (ids := [3]) (T' := TD56 B (qXLaw B) (qHLaw B) (qULaw B) g gR B.length (qO3Law B) (qE3Law B) 0) (Conv.nilCell (kk := .i64) (et2 := 3) (sz := 1) (p := 3) (j := 2) rfl rfl (by
      have e : rvVLaw B (rvOLaw B (rvOLaw B 0 0) (rvELaw B 0 0)) (rvELaw B (rvOLaw B 0 0) (rvELaw B 0 0)) = (qULaw B) := rfl
      rw [e, hsu]
      rfl)) (by intro p hp; simp at hp; subst hp; exact ⟨4, .var 3 0, rfl, rfl⟩) ?_
    refine AWp.seq ((AWp.base (by decide) (loop56 hub hus)).mono ?_)
    rintro ex fm T ⟨rfl, rfl, rfl⟩
    refine AWp.mono (To.ofG (o := nC56 B (qXLaw B) (qHLaw B) (qULaw B) (qKLaw B) g gR B.length (qO3Law B) (cntNLaw (qULaw B).length) (cntNLaw (qULaw B).length) (dOff (qULaw B) (cntNLaw (qULaw B).length)) (qE3Law B) (dErr (qULaw B) (cntNLaw (qULaw B).length))) (T := TD56 B (qXLaw B) (qHLaw B) (qULaw B) g gR B.length (qO3Law B) (qE3Law B) (cntNLaw (qULaw B).length)) (n := 36) (k := 2) eG9_ok hmN (by decide) OrcOk.nil rfl (nC56_ok (by
      simp only [allP, Con.h, eq_self, true_and, and_true, decide_eq_true_eq, decide_eq_false_iff_not, beq_iff_eq, beq_eq_false_iff_ne, ne_eq, hub]
      have hd : dOff (qULaw B) (cntNLaw (qULaw B).length) ≤ (qULaw B).length := by unfold dOff cntNLaw; split <;> omega
      omega)) nC56_ex nC56_fm nC56_tab) fun ex fm T hP => ?_
    obtain ⟨rfl, rfl, rfl⟩ := hP
    rw [d_end]
    exact ⟨.inr rfl, rfl, [.eqN 0 0, .eqN 3 3], [_, _], by kernel_rfl, by simp [allP, Con.h], rfl⟩
  exact small_gc [0, 1, 3, 4, 5] (small_of_awp eG9_ok (f := 56) (fn := f56) (c := bodyOf f56) (by kernel_rfl) (by kernel_rfl) (by kernel_rfl) hW) rfl rfl rfl rfl
noncomputable def nsm56 : Summary := fun args T => nsm56c args T (xsAt T 1) (gAt T 1) (gAt T 0) (lenOf (cAt T 0 0))
theorem nsm56_ok : SmOk prog (fun _ => none) 56 nsm56 := fun args T h => nsm56c_ok h
noncomputable def nS56 : Summary := callR nsm56 [true]
theorem nS56_ok : SumOk prog (fun _ => none) 56 nS56 := callR_ok nsm56_ok _
end Go.Abs

set_option linter.unusedVariables false
set_option linter.unusedSimpArgs false
set_option maxRecDepth 100000
set_option maxHeartbeats 4000000
namespace Go.Abs
open Go.Proofs Go.Proofs.Try
/-! ### parents: the document's reading, copies, and the law -/
noncomputable def eG10 : Env := eN0 [(45, S24r), (47, S37r), (50, nS50), (56, nS56)]
theorem eG10_ok : EnvOk eG10 := envOf_ok tysN_ok (SumsOk.cons (fn := f45) S24r_ok (by kernel_rfl) (by kernel_rfl) (by kernel_rfl) (SumsOk.cons (fn := f47) S37r_ok (by kernel_rfl) (by kernel_rfl) (by kernel_rfl) (SumsOk.cons (fn := f50) nS50_ok (by kernel_rfl) (by kernel_rfl) (by kernel_rfl) (SumsOk.cons (fn := f56) nS56_ok (by kernel_rfl) (by kernel_rfl) (by kernel_rfl) trivial))))
noncomputable def nR24a (zs : List Int) (g : Nat) (off : Nat) (n : Nat) (cp : Option Nat) (ow : Bool) : Res := resG 1 [0] (runF eG10 f24 [] 400 [.slice 1 0 g off n cp] [some ⟨.ints .u8 zs, g, ow, 5⟩] [some false])
theorem nR24a_ok {zs : List Int} {g : Nat} {off : Nat} {n : Nat} {cp : Option Nat} {ow : Bool} (h : allP [.eqN g g, .leN (off + n) zs.length, .leN n 140737488355000, .eqN n (subLaw zs off n).length, .p (ByLaw (subLaw zs off n)), .leN (subLaw zs off n).length 140737488355000, .p (okULaw (qULaw (subLaw zs off n)) = false)]) : OkR (nR24a zs g off n cp ow) := OkR.dem (fl := bitsF 22 4190240) (by
 kernel_rfl) (by kernel_rfl) (by kernel_rfl) h
theorem nR24a_val {zs : List Int} {g : Nat} {off : Nat} {n : Nat} {cp : Option Nat} {ow : Bool} : (nR24a zs g off n cp ow).val = .tuple [.agg [.nilSlice, .nilSlice, .nilSlice], .int .i64 21] := by kernel_rfl
theorem nR24a_tab {zs : List Int} {g : Nat} {off : Nat} {n : Nat} {cp : Option Nat} {ow : Bool} : (nR24a zs g off n cp ow).tab = [some ⟨.ints .u8 zs, g, ow, 5⟩] := by kernel_rfl
noncomputable def nR24b (zs : List Int) (g : Nat) (off : Nat) (n : Nat) (cp : Option Nat) (ow : Bool) : Res := resG 1 [0] (runF eG10 f24 [] 400 [.slice 1 0 g off n cp] [some ⟨.ints .u8 zs, g, ow, 5⟩] [some true, some true])
theorem nR24b_ok {zs : List Int} {g : Nat} {off : Nat} {n : Nat} {cp : Option Nat} {ow : Bool} (h : allP [.eqN g g, .leN (off + n) zs.length, .leN n 140737488355000, .eqN n (subLaw zs off n).length, .p (ByLaw (subLaw zs off n)), .leN (subLaw zs off n).length 140737488355000, .p (okULaw (qULaw (subLaw zs off n)) = true), .eqN n (subLaw zs off n).length, .leN (qO3Law (subLaw zs off n)) (subLaw zs off
 n).length, .p (ByLaw (subLaw zs off n)), .leN (subLaw zs off n).length 140737488355000, .p ((reLaw (subLaw zs off n) (qO3Law (subLaw zs off n)) (qE3Law (subLaw zs off n)) != 0) = true)]) : OkR (nR24b zs g off n cp ow) := OkR.dem (fl := bitsF 30 1057091616) (by kernel_rfl) (by kernel_rfl) (by kernel_rfl) h
theorem nR24b_val {zs : List Int} {g : Nat} {off : Nat} {n : Nat} {cp : Option Nat} {ow : Bool} : (nR24b zs g off n cp ow).val = .tuple [.agg [.nilSlice, .nilSlice, .nilSlice], .int .i64 21] := by kernel_rfl
theorem nR24b_tab {zs : List Int} {g : Nat} {off : Nat} {n : Nat} {cp : Option Nat} {ow : Bool} : (nR24b zs g off n cp ow).tab = [some ⟨.ints .u8 zs, g, ow, 5⟩] := by kernel_rfl
noncomputable def nR24c (zs : List Int) (g : Nat) (off : Nat) (n : Nat) (cp : Option Nat) (ow : Bool) : Res := resG 1 [0] (runF eG10 f24 [] 400 [.slice 1 0 g off n cp] [some ⟨.ints .u8 zs, g, ow, 5⟩] [some true, some false, some false])
theorem nR24c_ok {zs : List Int} {g : Nat} {off : Nat} {n : Nat} {cp : Option Nat} {ow : Bool} (h : allP [.eqN g g, .leN (off + n) zs.length, .leN n 140737488355000, .eqN n (subLaw zs off n).length, .p (ByLaw (subLaw zs off n)), .leN (subLaw zs off n).length 140737488355000, .p (okULaw (qULaw (subLaw zs off n)) = true), .eqN n (subLaw zs off n).length, .leN (qO3Law (subLaw zs off n)) (subLaw zs off
 n).length, .p (ByLaw (subLaw zs off n)), .leN (subLaw zs off n).length 140737488355000, .p ((reLaw (subLaw zs off n) (qO3Law (subLaw zs off n)) (qE3Law (subLaw zs off n)) != 0) = false), .eqN (cntNLaw (qULaw (subLaw zs off n)).length) (cntNLaw (qULaw (subLaw zs off n)).length), .leN (qKLaw (subLaw zs off n)).length (qKLaw (subLaw zs off n)).length, .leN (qKLaw (subLaw zs off n)).length
 140737488355000, .p (decide ((qXLaw (subLaw zs off n)).length = 32 ∧ ((qHLaw (subLaw zs off n)).length = 0 ∨ (qHLaw (subLaw zs off n)).length = 32) ∧ RiseU (List.take (qKLaw (subLaw zs off n)).length (qKLaw (subLaw zs off n)))) = false)]) : OkR (nR24c zs g off n cp ow) := OkR.dem (fl := bitsF 40 1082583543840) (by kernel_rfl) (by kernel_rfl) (by kernel_rfl) h
theorem nR24c_val {zs : List Int} {g : Nat} {off : Nat} {n : Nat} {cp : Option Nat} {ow : Bool} : (nR24c zs g off n cp ow).val = .tuple [.agg [.nilSlice, .nilSlice, .nilSlice], .int .i64 21] := by kernel_rfl
theorem nR24c_tab {zs : List Int} {g : Nat} {off : Nat} {n : Nat} {cp : Option Nat} {ow : Bool} : (nR24c zs g off n cp ow).tab = [some ⟨.ints .u8 zs, g, ow, 5⟩] := by kernel_rfl
noncomputable def nR24d (zs : List Int) (g : Nat) (off : Nat) (n : Nat) (cp : Option Nat) (ow : Bool) : Res := resG 1 [0, 5, 6, 7] (runF eG10 f24 [] 400 [.slice 1 0 g off n cp] [some ⟨.ints .u8 zs, g, ow, 5⟩] [some true, some false, some true])
theorem nR24d_ok {zs : List Int} {g : Nat} {off : Nat} {n : Nat} {cp : Option Nat} {ow : Bool} (h : allP [.eqN g g, .leN (off + n) zs.length, .leN n 140737488355000, .eqN n (subLaw zs off n).length, .p (ByLaw (subLaw zs off n)), .leN (subLaw zs off n).length 140737488355000, .p (okULaw (qULaw (subLaw zs off n)) = true), .eqN n (subLaw zs off n).length, .leN (qO3Law (subLaw zs off n)) (subLaw zs off
 n).length, .p (ByLaw (subLaw zs off n)), .leN (subLaw zs off n).length 140737488355000, .p ((reLaw (subLaw zs off n) (qO3Law (subLaw zs off n)) (qE3Law (subLaw zs off n)) != 0) = false), .eqN (cntNLaw (qULaw (subLaw zs off n)).length) (cntNLaw (qULaw (subLaw zs off n)).length), .leN (qKLaw (subLaw zs off n)).length (qKLaw (subLaw zs off n)).length, .leN (qKLaw (subLaw zs off n)).length
 140737488355000, .p (decide ((qXLaw (subLaw zs off n)).length = 32 ∧ ((qHLaw (subLaw zs off n)).length = 0 ∨ (qHLaw (subLaw zs off n)).length = 32) ∧ RiseU (List.take (qKLaw (subLaw zs off n)).length (qKLaw (subLaw zs off n)))) = true)]) : OkR (nR24d zs g off n cp ow) := OkR.dem (fl := bitsF 42 4381118427168) (by kernel_rfl) (by kernel_rfl) (by kernel_rfl) h
theorem nR24d_val {zs : List Int} {g : Nat} {off : Nat} {n : Nat} {cp : Option Nat} {ow : Bool} : (nR24d zs g off n cp ow).val = .tuple [.agg [.slice 1 1 1 0 (qXLaw (subLaw zs off n)).length none, .slice 1 2 1 0 (qHLaw (subLaw zs off n)).length none, .slice 1 3 (cntNLaw (qULaw (subLaw zs off n)).length) 0 (qKLaw (subLaw zs off n)).length none], .int .i64 0] := by kernel_rfl
theorem nR24d_tab {zs : List Int} {g : Nat} {off : Nat} {n : Nat} {cp : Option Nat} {ow : Bool} : (nR24d zs g off n cp ow).tab = [some ⟨.ints .u8 zs, g, ow, 5⟩, some ⟨.ints .u8 (qXLaw (subLaw zs off n)), 1, true, 5⟩, some ⟨.ints .u8 (qHLaw (subLaw zs off n)), 1, true, 5⟩, some ⟨.ints .i64 (qKLaw (subLaw zs off n)), cntNLaw (qULaw (subLaw zs off n)).length, true, 3⟩] := by kernel_rfl
noncomputable def nsm24c (args : List AVal) (T : Tab) (zs : List Int) (g : Nat) (off : Nat) (n : Nat) (cp : Option Nat) (ow : Bool) : Res := ⟨[.tab T [some ⟨.ints .u8 zs, g, ow, 5⟩], .val (.tuple args) (.tuple [.slice 1 0 g off n cp]), .leN (off + n) zs.length, .p (ByLaw (subLaw zs off n)), .leN n 140737488355000], .tuple [.agg [.slice 1 1 1 0 (gpXLaw (subLaw zs off n)).length none, .slice 1 2 1 0 (gpHLaw (subLaw zs off n)).length none, .slice 1 3 (gpGLaw (subLaw zs off n)) 0 (gpKLaw (subLaw zs off n)).length none], .int .i64 (gpELaw (subLaw zs off n))], [some ⟨.ints .u8 zs, g, ow, 5⟩, some ⟨.ints .u8 (gpXLaw (subLaw zs off n)), 1, true, 5⟩, some ⟨.ints .u8 (gpHLaw (subLaw zs off n)), 1, true, 5⟩, some ⟨.ints .i64 (gpKLaw (subLaw zs off n)), gpGLaw (subLaw zs off n), true, 3⟩]⟩
theorem nsm24c_ok {args : List AVal} {T : Tab} {zs : List Int} {g : Nat} {off : Nat} {n : Nat} {cp : Option Nat} {ow : Bool} (h : allP (nsm24c args T zs g off n cp ow).cs) : Small prog (fun _ => none) 24 args T (nsm24c args T zs g off n cp ow).val (nsm24c args T zs g off n cp ow).tab := by
  obtain ⟨hT, hv, h1, h2, h3, _⟩ := h
  simp only [Con.h] at hT hv h1 h2 h3
  injection hv with hv
  subst hT hv
  show Small prog (fun _ => none) 24 [.slice 1 0 g off n cp] [some ⟨.ints .u8 zs, g, ow, 5⟩] (.tuple [.agg [.slice 1 1 1 0 (gpXLaw (subLaw zs off n)).length none, .slice 1 2 1 0 (gpHLaw (subLaw zs off n)).length none, .slice 1 3 (gpGLaw (subLaw zs off n)) 0 (gpKLaw (subLaw zs off n)).length none], .int .i64 (gpELaw (subLaw zs off n))]) [some ⟨.ints .u8 zs, g, ow, 5⟩, some ⟨.ints .u8 (gpXLaw (subLaw zs off n)), 1, true, 5⟩, some ⟨.ints .u8 (gpHLaw (subLaw zs off n)), 1, true, 5⟩, some ⟨.ints .i64 (gpKLaw (subLaw zs off n)), gpGLaw (subLaw zs off n), true, 3⟩]
  have hb : ByLaw (subLaw zs off n) := h2
  have hl := subLaw_len h1
  have hkl : (qKLaw (subLaw zs off n)).length = cntNLaw (qULaw (subLaw zs off n)).length := kuN_len _ _
  have hus : (qULaw (subLaw zs off n)).length ≤ 65536 := rv_short _ _ _
  have hcn : (qKLaw (subLaw zs off n)).length ≤ 140737488355000 := by rw [hkl]; unfold cntNLaw; omega
  have hoff := (q_off (subLaw zs off n)).2.2
  rw [hl] at hoff
  by_cases hu : okULaw (qULaw (subLaw zs off n)) = true
  rotate_left
  · have hu0 : okULaw (qULaw (subLaw zs off n)) = false := by simpa using hu
    have hG : ¬ gpOK (subLaw zs off n) := fun h => hu (beq_iff_eq.2 ((gp_iff hb h.1 h.2.1).1 h.2.2))
    unfold gpXLaw gpHLaw gpKLaw gpGLaw gpELaw
    simp only [if_neg hG]
    exact small_nilV .i64 3 2 0 (small_nilV .u8 5 1 1 (small_nilV .u8 5 0 1 (small_ofG (R := nR24a zs g off n cp ow) eG10_ok hmN (f := 24) (fn := f24) (by kernel_rfl) (by kernel_rfl) FnOrc.nil rfl (nR24a_ok (by simp only [allP, Con.h, eq_self, true_and, and_true, beq_iff_eq, beq_eq_false_iff_ne, ne_eq, decide_eq_true_eq, decide_eq_false_iff_not, hl, hb, h1, h3, hoff, Nat.le_refl, Nat.sub_zero, Nat.zero_le, Nat.zero_add, bne_iff_ne, bne_eq_false_iff_eq, not_false_eq_true, not_true_eq_false, List.take_length, hu0]; first | done | exact hcn | omega | exact ⟨hcn, hR⟩ | exact hR | exact ⟨hR, hcn⟩)) nR24a_val nR24a_tab) rfl) rfl) rfl
  have hu4 : (qULaw (subLaw zs off n)).length % 4 = 0 := beq_iff_eq.1 hu
  by_cases hr : reLaw (subLaw zs off n) (qO3Law (subLaw zs off n)) (qE3Law (subLaw zs off n)) = 0
  rotate_left
  · have hG : ¬ gpOK (subLaw zs off n) := fun h => hr h.1
    unfold gpXLaw gpHLaw gpKLaw gpGLaw gpELaw
    simp only [if_neg hG]
    exact small_nilV .i64 3 2 0 (small_nilV .u8 5 1 1 (small_nilV .u8 5 0 1 (small_ofG (R := nR24b zs g off n cp ow) eG10_ok hmN (f := 24) (fn := f24) (by kernel_rfl) (by kernel_rfl) FnOrc.nil rfl (nR24b_ok (by simp only [allP, Con.h, eq_self, true_and, and_true, beq_iff_eq, beq_eq_false_iff_ne, ne_eq, decide_eq_true_eq, decide_eq_false_iff_not, hl, hb, h1, h3, hoff, Nat.le_refl, Nat.sub_zero, Nat.zero_le, Nat.zero_add, bne_iff_ne, bne_eq_false_iff_eq, not_false_eq_true, not_true_eq_false, List.take_length, hu, hr]; first | done | exact hcn | omega | exact ⟨hcn, hR⟩ | exact hR | exact ⟨hR, hcn⟩)) nR24b_val nR24b_tab) rfl) rfl) rfl
  by_cases hR : RightPa (qXLaw (subLaw zs off n)) (qHLaw (subLaw zs off n)) (qKLaw (subLaw zs off n))
  rotate_left
  · have hG : ¬ gpOK (subLaw zs off n) := fun h => hR h.2.1
    have hd : decide (RightU (qXLaw (subLaw zs off n)).length (qHLaw (subLaw zs off n)).length (qKLaw (subLaw zs off n))) = false := decide_eq_false hR
    unfold gpXLaw gpHLaw gpKLaw gpGLaw gpELaw
    simp only [if_neg hG]
    exact small_nilV .i64 3 2 0 (small_nilV .u8 5 1 1 (small_nilV .u8 5 0 1 (small_ofG (R := nR24c zs g off n cp ow) eG10_ok hmN (f := 24) (fn := f24) (by kernel_rfl) (by kernel_rfl) FnOrc.nil rfl (nR24c_ok (by simp only [allP, Con.h, eq_self, true_and, and_true, beq_iff_eq, beq_eq_false_iff_ne, ne_eq, decide_eq_true_eq, decide_eq_false_iff_not, hl, hb, h1, h3, hoff, Nat.le_refl, Nat.sub_zero, Nat.zero_le, Nat.zero_add, bne_iff_ne, bne_eq_false_iff_eq, not_false_eq_true, not_true_eq_false, List.take_length, hu, hr]; exact ⟨hcn, hR⟩)) nR24c_val nR24c_tab) rfl) rfl) rfl
  have hG : gpOK (subLaw zs off n) := ⟨hr, hR, (gp_iff hb hr hR).2 hu4⟩
  have hd : decide (RightU (qXLaw (subLaw zs off n)).length (qHLaw (subLaw zs off n)).length (qKLaw (subLaw zs off n))) = true := decide_eq_true hR
  unfold gpXLaw gpHLaw gpKLaw gpGLaw gpELaw
  simp only [if_pos hG]
  refine small_ofG (R := nR24d zs g off n cp ow) eG10_ok hmN (f := 24) (fn := f24) (by kernel_rfl) (by kernel_rfl) FnOrc.nil rfl (nR24d_ok ?_) nR24d_val nR24d_tab
  simp only [allP, Con.h, eq_self, true_and, and_true, beq_iff_eq, beq_eq_false_iff_ne, ne_eq, decide_eq_true_eq, decide_eq_false_iff_not, hl, hb, h1, h3, hoff, Nat.le_refl, Nat.sub_zero, Nat.zero_le, Nat.zero_add, bne_iff_ne, bne_eq_false_iff_eq, not_false_eq_true, not_true_eq_false, List.take_length, hu, hr]
  exact ⟨hcn, hR⟩
noncomputable def nsm24 : Summary := fun args T => nsm24c args T (xsAt T 0) (gAt T 0) (offOf (vAt args 0)) (lenOf (vAt args 0)) (capOf (vAt args 0)) (owAt T 0)
theorem nsm24_ok : SmOk prog (fun _ => none) 24 nsm24 := fun args T h => nsm24c_ok h
noncomputable def nS24 : Summary := callR nsm24 []
theorem nS24_ok : SumOk prog (fun _ => none) 24 nS24 := callR_ok nsm24_ok []
noncomputable def eG11 : Env := eN0 [(35, nS35)]
theorem eG11_ok : EnvOk eG11 := envOf_ok tysN_ok (SumsOk.cons (fn := f35) nS35_ok (by kernel_rfl) (by kernel_rfl) (by kernel_rfl) trivial)
noncomputable def nR20 (a : List Int) (b : List Int) (u : List Int) (g1 : Nat) (g2 : Nat) (g3 : Nat) (n1 : Nat) (n2 : Nat) (n3 : Nat) (c1 : Option Nat) (c2 : Option Nat) (c3 : Option Nat) (o1 : Bool) (o2 : Bool) (o3 : Bool) : Res := resG 3 [0, 1, 2, 6, 7, 5] (runF eG11 f20 [] 400 [.agg [.slice 1 0 g1 0 n1 c1, .slice 1 1 g2 0 n2 c2, .slice 1 2 g3 0 n3 c3]] [some ⟨.ints .u8 a, g1, o1, 5⟩, some ⟨.ints .u8 b, g2, o2, 5⟩, some ⟨.ints .i64 u, g3, o3, 3⟩] [])
theorem nR20_ok {a : List Int} {b : List Int} {u : List Int} {g1 : Nat} {g2 : Nat} {g3 : Nat} {n1 : Nat} {n2 : Nat} {n3 : Nat} {c1 : Option Nat} {c2 : Option Nat} {c3 : Option Nat} {o1 : Bool} {o2 : Bool} {o3 : Bool} (h : allP [.eqN g1 g1, .leN n1 140737488355328, .eqN g1 g1, .leN (0 + n1) a.length, .eqN g2 g2, .leN n2 140737488355328, .eqN g2 g2, .leN (0 + n2) b.length, .leN (n3 * 8)
 140737488355328, .eqN g3 g3, .leN (0 + n3) u.length]) : OkR (nR20 a b u g1 g2 g3 n1 n2 n3 c1 c2 c3 o1 o2 o3) := OkR.dem (fl := bitsF 71 2065826898302806747374) (by kernel_rfl) (by kernel_rfl) (by kernel_rfl) h
theorem nR20_val {a : List Int} {b : List Int} {u : List Int} {g1 : Nat} {g2 : Nat} {g3 : Nat} {n1 : Nat} {n2 : Nat} {n3 : Nat} {c1 : Option Nat} {c2 : Option Nat} {c3 : Option Nat} {o1 : Bool} {o2 : Bool} {o3 : Bool} : (nR20 a b u g1 g2 g3 n1 n2 n3 c1 c2 c3 o1 o2 o3).val = .agg [.slice 1 3 1 0 n1 none, .slice 1 4 1 0 n2 none, .slice 1 5 1 0 n3 none] := by kernel_rfl
theorem nR20_tab {a : List Int} {b : List Int} {u : List Int} {g1 : Nat} {g2 : Nat} {g3 : Nat} {n1 : Nat} {n2 : Nat} {n3 : Nat} {c1 : Option Nat} {c2 : Option Nat} {c3 : Option Nat} {o1 : Bool} {o2 : Bool} {o3 : Bool} : (nR20 a b u g1 g2 g3 n1 n2 n3 c1 c2 c3 o1 o2 o3).tab = [some ⟨.ints .u8 a, g1, o1, 5⟩, some ⟨.ints .u8 b, g2, o2, 5⟩, some ⟨.ints .i64 u, g3, o3, 3⟩, some ⟨.ints .u8 ([] ++
 List.take n1 a), 1, true, 5⟩, some ⟨.ints .u8 ([] ++ List.take n2 b), 1, true, 5⟩, some ⟨.ints .i64 ([] ++ List.take n3 u), 1, true, 3⟩] := by kernel_rfl
noncomputable def nsm20c (args : List AVal) (T : Tab) (a : List Int) (b : List Int) (u : List Int) (g1 : Nat) (g2 : Nat) (g3 : Nat) (n1 : Nat) (n2 : Nat) (n3 : Nat) (c1 : Option Nat) (c2 : Option Nat) (c3 : Option Nat) (o1 : Bool) (o2 : Bool) (o3 : Bool) : Res := ⟨[.tab T [some ⟨.ints .u8 a, g1, o1, 5⟩, some ⟨.ints .u8 b, g2, o2, 5⟩, some ⟨.ints .i64 u, g3, o3, 3⟩], .val (.tuple args) (.tuple [.agg [.slice 1 0 g1 0 n1 c1, .slice 1 1 g2 0 n2 c2, .slice 1 2 g3 0 n3 c3]]), .leN n1 a.length, .leN n2 b.length, .leN n3 u.length, .leN n1 140737488355000, .leN n2 140737488355000, .leN n3 17592186043904], .agg [.slice 1 3 1 0 n1 none, .slice 1 4 1 0 n2 none, .slice 1 5 1 0 n3 none], [some ⟨.ints .u8 a, g1, o1, 5⟩, some ⟨.ints .u8 b, g2, o2, 5⟩, some ⟨.ints .i64 u, g3, o3, 3⟩, some ⟨.ints .u8 (List.take n1 a), 1, true, 5⟩, some ⟨.ints .u8 (List.take n2 b), 1, true, 5⟩, some ⟨.ints .i64 (List.take n3 u), 1, true, 3⟩]⟩
theorem nsm20c_ok {args : List AVal} {T : Tab} {a : List Int} {b : List Int} {u : List Int} {g1 : Nat} {g2 : Nat} {g3 : Nat} {n1 : Nat} {n2 : Nat} {n3 : Nat} {c1 : Option Nat} {c2 : Option Nat} {c3 : Option Nat} {o1 : Bool} {o2 : Bool} {o3 : Bool} (h : allP (nsm20c args T a b u g1 g2 g3 n1 n2 n3 c1 c2 c3 o1 o2 o3).cs) : Small prog (fun _ => none) 20 args T (nsm20c args T a b u g1 g2 g3 n1 n2 n3 c1 c2 c3 o1 o2 o3).val (nsm20c args T a b u g1 g2 g3 n1 n2 n3 c1 c2 c3 o1 o2 o3).tab := by
  obtain ⟨hT, hv, h1, h2, h3, h4, h5, h6, _⟩ := h
  simp only [Con.h] at hT hv h1 h2 h3 h4 h5 h6
  injection hv with hv
  subst hT hv
  show Small prog (fun _ => none) 20 [.agg [.slice 1 0 g1 0 n1 c1, .slice 1 1 g2 0 n2 c2, .slice 1 2 g3 0 n3 c3]] [some ⟨.ints .u8 a, g1, o1, 5⟩, some ⟨.ints .u8 b, g2, o2, 5⟩, some ⟨.ints .i64 u, g3, o3, 3⟩] (.agg [.slice 1 3 1 0 n1 none, .slice 1 4 1 0 n2 none, .slice 1 5 1 0 n3 none]) [some ⟨.ints .u8 a, g1, o1, 5⟩, some ⟨.ints .u8 b, g2, o2, 5⟩, some ⟨.ints .i64 u, g3, o3, 3⟩, some ⟨.ints .u8 (List.take n1 a), 1, true, 5⟩, some ⟨.ints .u8 (List.take n2 b), 1, true, 5⟩, some ⟨.ints .i64 (List.take n3 u), 1, true, 3⟩]
  refine small_ofG (R := nR20 a b u g1 g2 g3 n1 n2 n3 c1 c2 c3 o1 o2 o3) eG11_ok hmN (f := 20) (fn := f20) (by kernel_rfl) (by kernel_rfl) FnOrc.nil rfl (nR20_ok ?_) nR20_val ?_
  · simp only [allP, Con.h, eq_self, true_and, and_true, beq_iff_eq, beq_eq_false_iff_ne, ne_eq, decide_eq_true_eq, decide_eq_false_iff_not, Nat.zero_add, addO_eq]
    omega
  · rw [nR20_tab]
    simp only [List.nil_append]
noncomputable def nsm20 : Summary := fun args T => nsm20c args T (xsAt T 0) (xsAt T 1) (xsAt T 2) (gAt T 0) (gAt T 1) (gAt T 2) (lenOf ((vAt args 0).get 0)) (lenOf ((vAt args 0).get 1)) (lenOf ((vAt args 0).get 2)) (capOf ((vAt args 0).get 0)) (capOf ((vAt args 0).get 1)) (capOf ((vAt args 0).get 2)) (owAt T 0) (owAt T 1) (owAt T 2)
theorem nsm20_ok : SmOk prog (fun _ => none) 20 nsm20 := fun args T h => nsm20c_ok h
noncomputable def nS20 : Summary := callR nsm20 []
theorem nS20_ok : SumOk prog (fun _ => none) 20 nS20 := callR_ok nsm20_ok _
noncomputable def r57 : Code := fstC (fstC (backC 2 (bodyOf f57)))
noncomputable def c57 : Code := sndC (backC 2 (bodyOf f57))
theorem split57 : backC 2 (bodyOf f57) = .seq (.seq r57 (.block 0 (.loop (roundOf 0 f57)))) c57 := by kernel_rfl
noncomputable def nH57 (a : List Int) (b : List Int) (g1 : Nat) (g2 : Nat) (n1 : Nat) (n2 : Nat) (c1 : Option Nat) (c2 : Option Nat) (o1 : Bool) (o2 : Bool) : Out := trim 2 2 [0,1,4] (runs (eN0 []) 26 ⟨2, []⟩ 400 (frontC 2 (bodyOf f57)) (argF [.slice 1 0 g1 0 n1 c1, .slice 1 1 g2 0 n2 c2] 0) [some ⟨.ints .i64 a, g1, o1, 3⟩, some ⟨.ints .i64 b, g2, o2, 3⟩] [some false])
theorem nH57_ok {a : List Int} {b : List Int} {g1 : Nat} {g2 : Nat} {n1 : Nat} {n2 : Nat} {c1 : Option Nat} {c2 : Option Nat} {o1 : Bool} {o2 : Bool} (h : allP [.eqN g1 g1, .eqN g2 g2, .p (((↑n1 : Int) != (↑n2 : Int)) = false)]) : Ok (nH57 a b g1 g2 n1 n2 c1 c2 o1 o2) := Ok.dem (fl := [false, false, false]) (by kernel_rfl) (by kernel_rfl) (by kernel_rfl) h
theorem nH57_ex {a : List Int} {b : List Int} {g1 : Nat} {g2 : Nat} {n1 : Nat} {n2 : Nat} {c1 : Option Nat} {c2 : Option Nat} {o1 : Bool} {o2 : Bool} : (nH57 a b g1 g2 n1 n2 c1 c2 o1 o2).ex = .normal := by kernel_rfl
theorem nH57_fm {a : List Int} {b : List Int} {g1 : Nat} {g2 : Nat} {n1 : Nat} {n2 : Nat} {c1 : Option Nat} {c2 : Option Nat} {o1 : Bool} {o2 : Bool} : (nH57 a b g1 g2 n1 n2 c1 c2 o1 o2).fm = [(0, .slice 1 0 g1 0 n1 c1), (1, .slice 1 1 g2 0 n2 c2), (4, .bool false)] := by kernel_rfl
theorem nH57_tab {a : List Int} {b : List Int} {g1 : Nat} {g2 : Nat} {n1 : Nat} {n2 : Nat} {c1 : Option Nat} {c2 : Option Nat} {o1 : Bool} {o2 : Bool} : (nH57 a b g1 g2 n1 n2 c1 c2 o1 o2).tab = [some ⟨.ints .i64 a, g1, o1, 3⟩, some ⟨.ints .i64 b, g2, o2, 3⟩] := by kernel_rfl
noncomputable def nI57 (a : List Int) (b : List Int) (g1 : Nat) (g2 : Nat) (n1 : Nat) (n2 : Nat) (c1 : Option Nat) (c2 : Option Nat) (o1 : Bool) (o2 : Bool) : Out := trim 2 2 [0,1,4,5] (run (eN0 []) 26 ⟨2, []⟩ 400 r57 [(0, .slice 1 0 g1 0 n1 c1), (1, .slice 1 1 g2 0 n2 c2), (4, .bool false)] [some ⟨.ints .i64 a, g1, o1, 3⟩, some ⟨.ints .i64 b, g2, o2, 3⟩] [])
theorem nI57_ok {a : List Int} {b : List Int} {g1 : Nat} {g2 : Nat} {n1 : Nat} {n2 : Nat} {c1 : Option Nat} {c2 : Option Nat} {o1 : Bool} {o2 : Bool} (h : allP []) : Ok (nI57 a b g1 g2 n1 n2 c1 c2 o1 o2) := Ok.dem (fl := []) (by kernel_rfl) (by kernel_rfl) (by kernel_rfl) h
theorem nI57_ex {a : List Int} {b : List Int} {g1 : Nat} {g2 : Nat} {n1 : Nat} {n2 : Nat} {c1 : Option Nat} {c2 : Option Nat} {o1 : Bool} {o2 : Bool} : (nI57 a b g1 g2 n1 n2 c1 c2 o1 o2).ex = .normal := by kernel_rfl
theorem nI57_fm {a : List Int} {b : List Int} {g1 : Nat} {g2 : Nat} {n1 : Nat} {n2 : Nat} {c1 : Option Nat} {c2 : Option Nat} {o1 : Bool} {o2 : Bool} : (nI57 a b g1 g2 n1 n2 c1 c2 o1 o2).fm = [(0, .slice 1 0 g1 0 n1 c1), (1, .slice 1 1 g2 0 n2 c2), (4, .bool false), (5, .int .i64 0)] := by kernel_rfl
theorem nI57_tab {a : List Int} {b : List Int} {g1 : Nat} {g2 : Nat} {n1 : Nat} {n2 : Nat} {c1 : Option Nat} {c2 : Option Nat} {o1 : Bool} {o2 : Bool} : (nI57 a b g1 g2 n1 n2 c1 c2 o1 o2).tab = [some ⟨.ints .i64 a, g1, o1, 3⟩, some ⟨.ints .i64 b, g2, o2, 3⟩] := by kernel_rfl
noncomputable def nD57 (a : List Int) (b : List Int) (g1 : Nat) (g2 : Nat) (n1 : Nat) (n2 : Nat) (c1 : Option Nat) (c2 : Option Nat) (o1 : Bool) (o2 : Bool) (i : Nat) : Out := trim 2 2 [0,1,4,5] (run (eN0 []) 26 ⟨2, []⟩ 400 (roundOf 0 f57) [(0, .slice 1 0 g1 0 n1 c1), (1, .slice 1 1 g2 0 n2 c2), (4, .bool false), (5, .int .i64 (i : Nat))] [some ⟨.ints .i64 a, g1, o1, 3⟩, some ⟨.ints .i64 b, g2, o2, 3⟩] [some true, some false])
theorem nD57_ok {a : List Int} {b : List Int} {g1 : Nat} {g2 : Nat} {n1 : Nat} {n2 : Nat} {c1 : Option Nat} {c2 : Option Nat} {o1 : Bool} {o2 : Bool} {i : Nat} (h : allP [.eqN g1 g1, .p (decide ((↑i : Int) < (↑n1 : Int)) = true), .eqN g1 g1, .leI 0 (↑i : Int), .leI ((↑i : Int) + 1) (↑n1 : Int), .eqN g1 g1, .leN (i + 1) a.length, .eqN g2 g2, .leI 0 (↑i : Int), .leI ((↑i : Int) + 1) (↑n2 : Int), .eqN
 g2 g2, .leN (i + 1) b.length, .p ((a.getD i 0 != b.getD i 0) = false), .rng (-9223372036854775808) ((↑i : Int) + 1) 9223372036854775807]) : Ok (nD57 a b g1 g2 n1 n2 c1 c2 o1 o2 i) := Ok.dem (fl := bitsF 15 0) (by kernel_rfl) (by kernel_rfl) (by kernel_rfl) h
theorem nD57_ex {a : List Int} {b : List Int} {g1 : Nat} {g2 : Nat} {n1 : Nat} {n2 : Nat} {c1 : Option Nat} {c2 : Option Nat} {o1 : Bool} {o2 : Bool} {i : Nat} : (nD57 a b g1 g2 n1 n2 c1 c2 o1 o2 i).ex = .normal := by kernel_rfl
theorem nD57_fm {a : List Int} {b : List Int} {g1 : Nat} {g2 : Nat} {n1 : Nat} {n2 : Nat} {c1 : Option Nat} {c2 : Option Nat} {o1 : Bool} {o2 : Bool} {i : Nat} : (nD57 a b g1 g2 n1 n2 c1 c2 o1 o2 i).fm = [(0, .slice 1 0 g1 0 n1 c1), (1, .slice 1 1 g2 0 n2 c2), (4, .bool false), (5, .int .i64 ((↑i : Int) + 1))] := by kernel_rfl
theorem nD57_tab {a : List Int} {b : List Int} {g1 : Nat} {g2 : Nat} {n1 : Nat} {n2 : Nat} {c1 : Option Nat} {c2 : Option Nat} {o1 : Bool} {o2 : Bool} {i : Nat} : (nD57 a b g1 g2 n1 n2 c1 c2 o1 o2 i).tab = [some ⟨.ints .i64 a, g1, o1, 3⟩, some ⟨.ints .i64 b, g2, o2, 3⟩] := by kernel_rfl
noncomputable def nE57 (a : List Int) (b : List Int) (g1 : Nat) (g2 : Nat) (n1 : Nat) (n2 : Nat) (c1 : Option Nat) (c2 : Option Nat) (o1 : Bool) (o2 : Bool) (i : Nat) : Out := trim 2 2 [0,1,4] (run (eN0 []) 26 ⟨2, []⟩ 400 (roundOf 0 f57) [(0, .slice 1 0 g1 0 n1 c1), (1, .slice 1 1 g2 0 n2 c2), (4, .bool false), (5, .int .i64 (i : Nat))] [some ⟨.ints .i64 a, g1, o1, 3⟩, some ⟨.ints .i64 b, g2, o2, 3⟩] [some false])
theorem nE57_ok {a : List Int} {b : List Int} {g1 : Nat} {g2 : Nat} {n1 : Nat} {n2 : Nat} {c1 : Option Nat} {c2 : Option Nat} {o1 : Bool} {o2 : Bool} {i : Nat} (h : allP [.eqN g1 g1, .p (decide ((↑i : Int) < (↑n1 : Int)) = false)]) : Ok (nE57 a b g1 g2 n1 n2 c1 c2 o1 o2 i) := Ok.dem (fl := [false, false]) (by kernel_rfl) (by kernel_rfl) (by kernel_rfl) h
theorem nE57_ex {a : List Int} {b : List Int} {g1 : Nat} {g2 : Nat} {n1 : Nat} {n2 : Nat} {c1 : Option Nat} {c2 : Option Nat} {o1 : Bool} {o2 : Bool} {i : Nat} : (nE57 a b g1 g2 n1 n2 c1 c2 o1 o2 i).ex = .exit 0 := by kernel_rfl
theorem nE57_fm {a : List Int} {b : List Int} {g1 : Nat} {g2 : Nat} {n1 : Nat} {n2 : Nat} {c1 : Option Nat} {c2 : Option Nat} {o1 : Bool} {o2 : Bool} {i : Nat} : (nE57 a b g1 g2 n1 n2 c1 c2 o1 o2 i).fm = [(0, .slice 1 0 g1 0 n1 c1), (1, .slice 1 1 g2 0 n2 c2), (4, .bool false)] := by kernel_rfl
theorem nE57_tab {a : List Int} {b : List Int} {g1 : Nat} {g2 : Nat} {n1 : Nat} {n2 : Nat} {c1 : Option Nat} {c2 : Option Nat} {o1 : Bool} {o2 : Bool} {i : Nat} : (nE57 a b g1 g2 n1 n2 c1 c2 o1 o2 i).tab = [some ⟨.ints .i64 a, g1, o1, 3⟩, some ⟨.ints .i64 b, g2, o2, 3⟩] := by kernel_rfl
noncomputable def nC57 (a : List Int) (b : List Int) (g1 : Nat) (g2 : Nat) (n1 : Nat) (n2 : Nat) (c1 : Option Nat) (c2 : Option Nat) (o1 : Bool) (o2 : Bool) : Out := trim 2 2 [4] (run (eN0 []) 26 ⟨2, []⟩ 400 c57 [(0, .slice 1 0 g1 0 n1 c1), (1, .slice 1 1 g2 0 n2 c2), (4, .bool false)] [some ⟨.ints .i64 a, g1, o1, 3⟩, some ⟨.ints .i64 b, g2, o2, 3⟩] [])
theorem nC57_ok {a : List Int} {b : List Int} {g1 : Nat} {g2 : Nat} {n1 : Nat} {n2 : Nat} {c1 : Option Nat} {c2 : Option Nat} {o1 : Bool} {o2 : Bool} (h : allP []) : Ok (nC57 a b g1 g2 n1 n2 c1 c2 o1 o2) := Ok.dem (fl := []) (by kernel_rfl) (by kernel_rfl) (by kernel_rfl) h
theorem nC57_ex {a : List Int} {b : List Int} {g1 : Nat} {g2 : Nat} {n1 : Nat} {n2 : Nat} {c1 : Option Nat} {c2 : Option Nat} {o1 : Bool} {o2 : Bool} : (nC57 a b g1 g2 n1 n2 c1 c2 o1 o2).ex = .ret := by kernel_rfl
theorem nC57_fm {a : List Int} {b : List Int} {g1 : Nat} {g2 : Nat} {n1 : Nat} {n2 : Nat} {c1 : Option Nat} {c2 : Option Nat} {o1 : Bool} {o2 : Bool} : (nC57 a b g1 g2 n1 n2 c1 c2 o1 o2).fm = [(4, .bool true)] := by kernel_rfl
theorem nC57_tab {a : List Int} {b : List Int} {g1 : Nat} {g2 : Nat} {n1 : Nat} {n2 : Nat} {c1 : Option Nat} {c2 : Option Nat} {o1 : Bool} {o2 : Bool} : (nC57 a b g1 g2 n1 n2 c1 c2 o1 o2).tab = [some ⟨.ints .i64 a, g1, o1, 3⟩, some ⟨.ints .i64 b, g2, o2, 3⟩] := by kernel_rfl
noncomputable def nsm57c (args : List AVal) (T : Tab) (a : List Int) (b : List Int) (g1 : Nat) (g2 : Nat) (n1 : Nat) (n2 : Nat) (c1 : Option Nat) (c2 : Option Nat) (o1 : Bool) (o2 : Bool) : Res := ⟨[.tab T [some ⟨.ints .i64 a, g1, o1, 3⟩, some ⟨.ints .i64 b, g2, o2, 3⟩], .val (.tuple args) (.tuple [.slice 1 0 g1 0 n1 c1, .slice 1 1 g2 0 n2 c2]), .leN n1 a.length, .leN n2 b.length, .eqN n1 n2, .leN n1 140737488355000, .p (List.take n1 a = List.take n2 b)], .bool true, [some ⟨.ints .i64 a, g1, o1, 3⟩, some ⟨.ints .i64 b, g2, o2, 3⟩]⟩
theorem nsm57c_ok {args : List AVal} {T : Tab} {a : List Int} {b : List Int} {g1 : Nat} {g2 : Nat} {n1 : Nat} {n2 : Nat} {c1 : Option Nat} {c2 : Option Nat} {o1 : Bool} {o2 : Bool} (h : allP (nsm57c args T a b g1 g2 n1 n2 c1 c2 o1 o2).cs) : Small prog (fun _ => none) 57 args T (nsm57c args T a b g1 g2 n1 n2 c1 c2 o1 o2).val (nsm57c args T a b g1 g2 n1 n2 c1 c2 o1 o2).tab := by
  obtain ⟨hT, hv, h1, h2, h3, h4, h5, _⟩ := h
  simp only [Con.h] at hT hv h1 h2 h3 h4 h5
  injection hv with hv
  subst hT hv
  show Small prog (fun _ => none) 57 [.slice 1 0 g1 0 n1 c1, .slice 1 1 g2 0 n2 c2] [some ⟨.ints .i64 a, g1, o1, 3⟩, some ⟨.ints .i64 b, g2, o2, 3⟩] (.bool true) [some ⟨.ints .i64 a, g1, o1, 3⟩, some ⟨.ints .i64 b, g2, o2, 3⟩]
  subst h3
  have h5 : List.take n1 a = List.take n1 b := h5
  have hg : ∀ i, i < n1 → a.getD i 0 = b.getD i 0 := fun i hi => by rw [← take_get (u := a) hi, h5, take_get hi]
  refine small_of_awp eN0_ok (f := 57) (fn := f57) (c := bodyOf f57) (by kernel_rfl) (by kernel_rfl) (by kernel_rfl) ?_
  have hW : AWp (eN0 []) 26 2 (bodyOf f57) (argF [.slice 1 0 g1 0 n1 c1, .slice 1 1 g2 0 n1 c2] 0) [some ⟨.ints .i64 a, g1, o1, 3⟩, some ⟨.ints .i64 b, g2, o2, 3⟩] fun ex fm T => (ex = .normal ∨ ex = .ret) ∧ T = [some ⟨.ints .i64 a, g1, o1, 3⟩, some ⟨.ints .i64 b, g2, o2, 3⟩] ∧ ∃ cs us, aRes (eN0 []) fm T f57.results.toList = some (cs, us) ∧ allP cs ∧ retV us = .bool true := by
    refine AWp.cutN eN0_ok hmN 2 (o := nH57 a b g1 g2 n1 n1 c1 c2 o1 o2) rfl (nH57_ok (by simp only [allP, Con.h, eq_self, true_and, and_true, decide_eq_true_eq, decide_eq_false_iff_not, beq_iff_eq, bne_iff_ne, bne_eq_false_iff_eq, ne_eq])) nH57_ex ?_
    rw [nH57_fm, nH57_tab, split57]
    refine AWp.seq (AWp.seq (AWp.mono (To.of (o := nI57 a b g1 g2 n1 n1 c1 c2 o1 o2) eN0_ok hmN (Nat.le_refl 2) OrcOk.nil rfl (nI57_ok trivial) nI57_ex nI57_fm nI57_tab) fun ex fm T hP => ?_))
    obtain ⟨rfl, rfl, rfl⟩ := hP
    refine (To.rounds (fun i => [(0, .slice 1 0 g1 0 n1 c1), (1, .slice 1 1 g2 0 n1 c2), (4, .bool false), (5, .int .i64 ((i : Nat) : Int))]) (fun _ => [some ⟨.ints .i64 a, g1, o1, 3⟩, some ⟨.ints .i64 b, g2, o2, 3⟩]) n1 (fun i hi => ?_) (To.of (o := nE57 a b g1 g2 n1 n1 c1 c2 o1 o2 n1) eN0_ok hmN (Nat.le_refl 2) OrcOk.nil rfl (nE57_ok (by
      simp only [allP, Con.h, eq_self, true_and, and_true, decide_eq_true_eq, decide_eq_false_iff_not, beq_iff_eq, bne_iff_ne, bne_eq_false_iff_eq, ne_eq]
      omega)) nE57_ex nE57_fm nE57_tab)).mono ?_
    · have hgi := hg i hi
      refine To.of (o := nD57 a b g1 g2 n1 n1 c1 c2 o1 o2 i) eN0_ok hmN (Nat.le_refl 2) OrcOk.nil rfl (nD57_ok (by
        simp only [allP, Con.h, eq_self, true_and, and_true, decide_eq_true_eq, decide_eq_false_iff_not, beq_iff_eq, bne_iff_ne, bne_eq_false_iff_eq, ne_eq]
        omega)) nD57_ex ?_ nD57_tab
      rw [nD57_fm]
      rfl
    rintro ex fm T ⟨rfl, rfl, rfl⟩
    refine AWp.mono (To.of (o := nC57 a b g1 g2 n1 n1 c1 c2 o1 o2) eN0_ok hmN (Nat.le_refl 2) OrcOk.nil rfl (nC57_ok trivial) nC57_ex nC57_fm nC57_tab) fun ex fm T hP => ?_
    obtain ⟨rfl, rfl, rfl⟩ := hP
    exact ⟨.inr rfl, rfl, [], [.bool true], by kernel_rfl, trivial, rfl⟩
  exact hW
noncomputable def nsm57 : Summary := fun args T => nsm57c args T (xsAt T 0) (xsAt T 1) (gAt T 0) (gAt T 1) (lenOf (vAt args 0)) (lenOf (vAt args 1)) (capOf (vAt args 0)) (capOf (vAt args 1)) (owAt T 0) (owAt T 1)
theorem nsm57_ok : SmOk prog (fun _ => none) 57 nsm57 := fun args T h => nsm57c_ok h
noncomputable def nS57 : Summary := callR nsm57 []
theorem nS57_ok : SumOk prog (fun _ => none) 57 nS57 := callR_ok nsm57_ok _
noncomputable def eG12 : Env := eN0 [(57, nS57)]
theorem eG12_ok : EnvOk eG12 := envOf_ok tysN_ok (SumsOk.cons (fn := f57) nS57_ok (by kernel_rfl) (by kernel_rfl) (by kernel_rfl) trivial)
noncomputable def nS25 : Summary := sumI modeO eG12 f25 [] 400 [some true, some true, none] []
theorem nS25_ok : SumOk prog (fun _ => none) 25 nS25 := sumI_ok eG12_ok hmN (fn := f25) (by kernel_rfl) (by kernel_rfl) [] FnOrc.nil 400 [some true, some true, none] []
noncomputable def eL15 : Env := eN0 [(9, S15), (15, nS15), (17, S22), (18, nS18), (20, nS20), (21, nS21), (22, nS22), (23, nS23), (24, nS24), (25, nS25)]
theorem eL15_ok : EnvOk eL15 := envOf_ok tysN_ok (SumsOk.cons (fn := f9) S15_ok (by kernel_rfl) (by kernel_rfl) (by kernel_rfl) (SumsOk.cons (fn := f15) nS15_ok (by kernel_rfl) (by kernel_rfl) (by kernel_rfl) (SumsOk.cons (fn := f17) S22_ok (by kernel_rfl) (by kernel_rfl) (by kernel_rfl) (SumsOk.cons (fn := f18) nS18_ok (by kernel_rfl) (by kernel_rfl) (by kernel_rfl) (SumsOk.cons (fn := f20) nS20_ok (by kernel_rfl) (by kernel_rfl) (by kernel_rfl) (SumsOk.cons (fn := f21) nS21_ok (by kernel_rfl) (by kernel_rfl) (by kernel_rfl) (SumsOk.cons (fn := f22) nS22_ok (by kernel_rfl) (by kernel_rfl) (by kernel_rfl) (SumsOk.cons (fn := f23) nS23_ok (by kernel_rfl) (by kernel_rfl) (by kernel_rfl) (SumsOk.cons (fn := f24) nS24_ok (by kernel_rfl) (by kernel_rfl) (by kernel_rfl) (SumsOk.cons (fn := f25) nS25_ok (by kernel_rfl) (by kernel_rfl) (by kernel_rfl) trivial))))))))))
noncomputable def nR5 (a b u w : List Int) (n1 n2 n3 n4 : Nat) : Res := runF eL15 f5 [] 400 [.agg [.slice 1 0 0 0 n1 none, .slice 1 1 0 0 n2 none, .slice 1 2 0 0 n3 none], .slice 1 3 0 0 n4 (some w.length)] [some ⟨.ints .u8 a, 0, false, 5⟩, some ⟨.ints .u8 b, 0, false, 5⟩, some ⟨.ints .i64 u, 0, false, 3⟩, some ⟨.ints .u8 w, 0, false, 5⟩] [some true, some true, none, some true, none, none, none]
theorem nR5_ok {a b u w : List Int} {n1 n2 n3 n4 : Nat} (h : allP [.leN (0 + n4) w.length, .leN n4 140737488355300, .leN n1 a.length, .leN n2 b.length, .leN n3 u.length, .leN n1 140737488355000, .leN n2 140737488355000, .leN n3 17592186043904, .eqN n1 (List.take n1 a).length, .eqN n2 (List.take n2 b).length, .eqN n3 (List.take n3 u).length, .leN n3 140737488355000, .leN n1 a.length, .leN n2
 b.length, .leN n3 u.length, .leN n3 140737488355000, .leN (0 + n4) (subLaw w 0 n4 ++ [201, 202]).length, .p (ByLaw (subLaw (subLaw w 0 n4 ++ [201, 202]) 0 n4)), .leN n4 140737488355000, .leN (0 + n4) w.length, .p (ByLaw (subLaw w 0 n4)), .leN n4 140737488355000, .eqN (ppGLaw (List.take n1 a) (List.take n2 b) (List.take n3 u)) (ppGLaw (List.take n1 a) (List.take n2 b) (List.take n3 u)), .leN (0 +
 (ppBLaw (List.take n1 a) (List.take n2 b) (List.take n3 u)).length) (ppBLaw (List.take n1 a) (List.take n2 b) (List.take n3 u)).length, .eqN (ppG2Law (List.take n1 a) (List.take n2 b) (List.take n3 u)) (ppG2Law (List.take n1 a) (List.take n2 b) (List.take n3 u)), .leN (0 + (ppBLaw (List.take n1 a) (List.take n2 b) (List.take n3 u)).length) (ppBLaw (List.take n1 a) (List.take n2 b) (List.take n3
 u)).length, .p ((List.map byteOf (List.take (ppBLaw (List.take n1 a) (List.take n2 b) (List.take n3 u)).length (ppBLaw (List.take n1 a) (List.take n2 b) (List.take n3 u))) == List.map byteOf (List.take (ppBLaw (List.take n1 a) (List.take n2 b) (List.take n3 u)).length (ppBLaw (List.take n1 a) (List.take n2 b) (List.take n3 u)))) = true), .p ((ppELaw (List.take n1 a) (List.take n2 b) (List.take n3
 u) == ppELaw (List.take n1 a) (List.take n2 b) (List.take n3 u)) = true), .eqN (gpGLaw (subLaw (subLaw w 0 n4 ++ [201, 202]) 0 n4)) (gpGLaw (subLaw (subLaw w 0 n4 ++ [201, 202]) 0 n4)), .eqN (gpGLaw (subLaw w 0 n4)) (gpGLaw (subLaw w 0 n4)), .leN (0 + (gpXLaw (subLaw (subLaw w 0 n4 ++ [201, 202]) 0 n4)).length) (gpXLaw (subLaw (subLaw w 0 n4 ++ [201, 202]) 0 n4)).length, .leN (0 + (gpXLaw (subLaw w
 0 n4)).length) (gpXLaw (subLaw w 0 n4)).length, .p ((List.map byteOf (List.take (gpXLaw (subLaw (subLaw w 0 n4 ++ [201, 202]) 0 n4)).length (gpXLaw (subLaw (subLaw w 0 n4 ++ [201, 202]) 0 n4))) == List.map byteOf (List.take (gpXLaw (subLaw w 0 n4)).length (gpXLaw (subLaw w 0 n4)))) = true), .leN (0 + (gpHLaw (subLaw (subLaw w 0 n4 ++ [201, 202]) 0 n4)).length) (gpHLaw (subLaw (subLaw w 0 n4 ++
 [201, 202]) 0 n4)).length, .leN (0 + (gpHLaw (subLaw w 0 n4)).length) (gpHLaw (subLaw w 0 n4)).length, .p ((List.map byteOf (List.take (gpHLaw (subLaw (subLaw w 0 n4 ++ [201, 202]) 0 n4)).length (gpHLaw (subLaw (subLaw w 0 n4 ++ [201, 202]) 0 n4))) == List.map byteOf (List.take (gpHLaw (subLaw w 0 n4)).length (gpHLaw (subLaw w 0 n4)))) = true), .eqN (gpGLaw (subLaw (subLaw w 0 n4 ++ [201, 202]) 0
 n4)) (gpGLaw (subLaw (subLaw w 0 n4 ++ [201, 202]) 0 n4)), .eqN (gpGLaw (subLaw w 0 n4)) (gpGLaw (subLaw w 0 n4)), .leN (gpKLaw (subLaw (subLaw w 0 n4 ++ [201, 202]) 0 n4)).length (gpKLaw (subLaw (subLaw w 0 n4 ++ [201, 202]) 0 n4)).length, .leN (gpKLaw (subLaw w 0 n4)).length (gpKLaw (subLaw w 0 n4)).length, .eqN (gpKLaw (subLaw (subLaw w 0 n4 ++ [201, 202]) 0 n4)).length (gpKLaw (subLaw w 0
 n4)).length, .leN (gpKLaw (subLaw (subLaw w 0 n4 ++ [201, 202]) 0 n4)).length 140737488355000, .p (List.take (gpKLaw (subLaw (subLaw w 0 n4 ++ [201, 202]) 0 n4)).length (gpKLaw (subLaw (subLaw w 0 n4 ++ [201, 202]) 0 n4)) = List.take (gpKLaw (subLaw w 0 n4)).length (gpKLaw (subLaw w 0 n4))), .p ((gpELaw (subLaw (subLaw w 0 n4 ++ [201, 202]) 0 n4) == gpELaw (subLaw w 0 n4)) = true), .leN (0 + n1)
 (List.take n1 a).length, .leN (0 + n1) a.length, .p ((List.map byteOf (List.take n1 (List.take n1 a)) == List.map byteOf (List.take n1 a)) = true), .leN (0 + n2) (List.take n2 b).length, .leN (0 + n2) b.length, .p ((List.map byteOf (List.take n2 (List.take n2 b)) == List.map byteOf (List.take n2 b)) = true), .leN n3 (List.take n3 u).length, .leN n3 u.length, .eqN n3 n3, .leN n3 140737488355000, .p
 (List.take n3 (List.take n3 u) = List.take n3 u), .rng (-9223372036854775808) ((↑n4 : Int) + 2) 9223372036854775807, .leI 0 ((↑n4 : Int) + 2), .leN 0 (n4 + 2), .orN (n4 + 2) n4 (0 + (n4 + 2)) (subLaw w 0 n4 ++ [201, 202]).length, .leI 0 (↑n4 : Int), .leN 0 n4, .orN n4 (n4 + 2) (0 + n4) (subLaw w 0 n4 ++ [201, 202]).length, .leN (0 + n4) (subLaw w 0 n4 ++ [201, 202]).length, .leN (0 + n4) w.length,
 .p ((List.map byteOf (List.take n4 (subLaw w 0 n4 ++ [201, 202])) == List.map byteOf (List.take n4 w)) = true), .leI 0 (↑n4 : Int), .leI ((↑n4 : Int) + 1) (↑(n4 + 2) : Int), .leN (n4 + 1) (subLaw w 0 n4 ++ [201, 202]).length, .p (((subLaw w 0 n4 ++ [201, 202]).getD n4 0 == 201) = true), .rng (-9223372036854775808) ((↑n4 : Int) + 1) 9223372036854775807, .leI 0 ((↑n4 : Int) + 1), .leI ((↑n4 : Int) +
 1 + 1) (↑(n4 + 2) : Int), .leN (n4 + 1 + 1) (subLaw w 0 n4 ++ [201, 202]).length, .p (((subLaw w 0 n4 ++ [201, 202]).getD (n4 + 1) 0 == 202) = true)]) : OkR (nR5 a b u w n1 n2 n3 n4) := OkR.dem (fl := bitsF 200 58298106769230727948827435201965395927322478363205875663347) (by kernel_rfl) (by kernel_rfl) (by kernel_rfl) h
theorem nR5_val {a b u w : List Int} {n1 n2 n3 n4 : Nat} : (nR5 a b u w n1 n2 n3 n4).val = .bool true := by kernel_rfl
theorem gpK_len (B : List Int) : (gpKLaw B).length ≤ 16384 := by
  unfold gpKLaw
  split
  · have h := rv_short B (qO2Law B) (qE2Law B)
    have hk : (qKLaw B).length = cntNLaw (qULaw B).length := kuN_len _ _
    have hu : (qULaw B).length ≤ 65536 := h
    rw [hk]
    unfold cntNLaw
    omega
  · simp
theorem law5 {a b u w : List Int} {n1 n2 n3 n4 : Nat} (h1 : n1 ≤ a.length) (h2 : n2 ≤ b.length) (h3 : n3 ≤ u.length) (h4 : n4 ≤ w.length) (hm1 : a.length ≤ 140737488351232) (hm2 : b.length ≤ 140737488351232) (hm3 : u.length ≤ 17592186043904) (hm4 : w.length ≤ 140737488351232) (hb : ByLaw (subLaw w 0 n4)) :
    Small prog (fun _ => none) 5 [.agg [.slice 1 0 0 0 n1 none, .slice 1 1 0 0 n2 none, .slice 1 2 0 0 n3 none], .slice 1 3 0 0 n4 (some w.length)] [some ⟨.ints .u8 a, 0, false, 5⟩, some ⟨.ints .u8 b, 0, false, 5⟩, some ⟨.ints .i64 u, 0, false, 3⟩, some ⟨.ints .u8 w, 0, false, 5⟩] (.bool true) (nR5 a b u w n1 n2 n3 n4).tab := by
  refine small_of (R := nR5 a b u w n1 n2 n3 n4) eL15_ok hmN (f := 5) (fn := f5) (by kernel_rfl) (by kernel_rfl) FnOrc.nil rfl (nR5_ok ?_) nR5_val rfl
  have l1 : (List.take n1 a).length = n1 := by rw [List.length_take]; omega
  have l2 : (List.take n2 b).length = n2 := by rw [List.length_take]; omega
  have l3 : (List.take n3 u).length = n3 := by rw [List.length_take]; omega
  have hl : (subLaw w 0 n4).length = n4 := subLaw_len (by omega)
  have e2 : List.take n4 (subLaw w 0 n4 ++ [201, 202]) = List.take n4 w := by
    rw [List.take_append_of_le_length (by omega), List.take_of_length_le (by omega)]
    simp [subLaw]
  have e1 : subLaw (subLaw w 0 n4 ++ [201, 202]) 0 n4 = subLaw w 0 n4 := by
    rw [subLaw, List.drop_zero, e2]
    simp [subLaw]
  have e3 : (subLaw w 0 n4 ++ [201, 202]).getD n4 0 = 201 := by
    rw [List.getD_eq_getElem?_getD, List.getElem?_append_right (by omega), hl]; simp
  have e4 : (subLaw w 0 n4 ++ [201, 202]).getD (n4 + 1) 0 = 202 := by
    rw [List.getD_eq_getElem?_getD, List.getElem?_append_right (by omega), hl]; simp
  have hk := gpK_len (subLaw w 0 n4)
  simp only [allP, Con.h, e1, e2, e3, e4, hl, List.take_take, Nat.min_self, beq_self_eq_true, List.length_append, List.length_cons, List.length_nil, eq_self, true_and, and_true, or_true, true_or, Nat.zero_add, Nat.le_refl, hb, l1, l2, l3]
  omega
end Go.Abs
