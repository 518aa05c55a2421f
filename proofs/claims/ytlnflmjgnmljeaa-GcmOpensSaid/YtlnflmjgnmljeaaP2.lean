/- What functions of the given program come to, by the abstract machine: texts of a proof. -/
import Derived.Test.YtlnflmjgnmljeaaP1
set_option linter.unusedVariables false
set_option linter.unusedSimpArgs false
set_option maxRecDepth 8000
namespace Go.Abs
open Go.Proofs.Try
def TBc (z0 z1 z2 : List Int) (g0 n0 g1 n1 g2 n2 ga : Nat) (kx : List Int) (y : List Int) : Tab := [some ⟨.agg [.slice 1 1 g0 0 n0 none, .slice 1 2 g1 0 n1 none, .slice 1 3 g2 0 n2 none], ga, false, 25⟩, some ⟨.ints .u8 z0, g0, false, 5⟩, some ⟨.ints .u8 z1, g1, false, 5⟩, some ⟨.ints .u8 z2, g2, false, 5⟩, some ⟨.ints .u64 kx, 0, true, 65⟩, some ⟨.ints .u64 [0, 0], 0, true, 65⟩, some ⟨.ints .u64 y, 0, true, 65⟩, some ⟨.agg [.slice 1 0 ga 0 3 (some 3)], 0, true, 81⟩]
def TPc (z0 z1 z2 : List Int) (g0 n0 g1 n1 g2 n2 ga : Nat) (kx : List Int) (y : List Int) (l1 : Nat) : Tab := [some ⟨.agg [.slice 1 1 g0 0 n0 none, .slice 1 2 g1 0 n1 none, .slice 1 3 g2 0 n2 none], ga, false, 25⟩, some ⟨.ints .u8 z0, g0, false, 5⟩, some ⟨.ints .u8 z1, g1, false, 5⟩, some ⟨.ints .u8 z2, g2, false, 5⟩, some ⟨.ints .u64 kx, 0, true, 65⟩, some ⟨.ints .u64 [0, 0], 0, true, 65⟩, some ⟨.ints .u64 y, 0, true, 65⟩, some ⟨.agg [.slice 1 0 ga 0 3 (some 3)], 0, true, 81⟩, some ⟨.agg [.func (.yield l1) [] []], 0, true, 85⟩]
def TNc0 (z0 z1 z2 : List Int) (g0 n0 g1 n1 g2 n2 ga : Nat) (kx : List Int) (y : List Int) (l1 : Nat) : Tab := [some ⟨.agg [.slice 1 1 g0 0 n0 none, .slice 1 2 g1 0 n1 none, .slice 1 3 g2 0 n2 none], ga, false, 25⟩, some ⟨.ints .u8 z0, g0, false, 5⟩, some ⟨.ints .u8 z1, g1, false, 5⟩, some ⟨.ints .u8 z2, g2, false, 5⟩, some ⟨.ints .u64 kx, 0, true, 65⟩, some ⟨.ints .u64 [0, 0], 0, true, 65⟩, some ⟨.ints .u64 y, 0, true, 65⟩, some ⟨.agg [.slice 1 0 ga 0 3 (some 3)], 0, true, 81⟩, some ⟨.agg [.func (.yield l1) [] []], 0, true, 85⟩, some ⟨.agg [.slice 1 1 g0 0 n0 none], 0, true, 25⟩, some ⟨.ints .i64 [16], 0, true, 3⟩]
def TQc0 (z0 z1 z2 : List Int) (g0 n0 g1 n1 g2 n2 ga : Nat) (kx : List Int) (y : List Int) (l1 : Nat) (x : List Int) : Tab := [some ⟨.agg [.slice 1 1 g0 0 n0 none, .slice 1 2 g1 0 n1 none, .slice 1 3 g2 0 n2 none], ga, false, 25⟩, some ⟨.ints .u8 z0, g0, false, 5⟩, some ⟨.ints .u8 z1, g1, false, 5⟩, some ⟨.ints .u8 z2, g2, false, 5⟩, some ⟨.ints .u64 kx, 0, true, 65⟩, some ⟨.ints .u64 [0, 0], 0, true, 65⟩, some ⟨.ints .u64 y, 0, true, 65⟩, some ⟨.agg [.slice 1 0 ga 0 3 (some 3)], 0, true, 81⟩, some ⟨.agg [.func (.yield l1) [] []], 0, true, 85⟩, some ⟨.agg [.slice 1 1 g0 0 n0 none], 0, true, 25⟩, some ⟨.ints .i64 [16], 0, true, 3⟩, some ⟨.ints .u8 x, 0, true, 5⟩]
def TUc0 (z0 z1 z2 : List Int) (g0 n0 g1 n1 g2 n2 ga : Nat) (kx : List Int) (y : List Int) (l1 : Nat) (b : List Int) : Tab := [some ⟨.agg [.slice 1 1 g0 0 n0 none, .slice 1 2 g1 0 n1 none, .slice 1 3 g2 0 n2 none], ga, false, 25⟩, some ⟨.ints .u8 z0, g0, false, 5⟩, some ⟨.ints .u8 z1, g1, false, 5⟩, some ⟨.ints .u8 z2, g2, false, 5⟩, some ⟨.ints .u64 kx, 0, true, 65⟩, some ⟨.ints .u64 [0, 0], 0, true, 65⟩, some ⟨.ints .u64 y, 0, true, 65⟩, some ⟨.agg [.slice 1 0 ga 0 3 (some 3)], 0, true, 81⟩, some ⟨.agg [.func (.yield l1) [] []], 0, true, 85⟩, some ⟨.agg [.slice 1 1 g0 0 n0 none], 0, true, 25⟩, some ⟨.ints .i64 [16], 0, true, 3⟩, some ⟨.ints .u64 b, 0, true, 65⟩]
def TVc0 (z0 z1 z2 : List Int) (g0 n0 g1 n1 g2 n2 ga : Nat) (kx : List Int) (y : List Int) (l1 : Nat) (x b : List Int) : Tab := [some ⟨.agg [.slice 1 1 g0 0 n0 none, .slice 1 2 g1 0 n1 none, .slice 1 3 g2 0 n2 none], ga, false, 25⟩, some ⟨.ints .u8 z0, g0, false, 5⟩, some ⟨.ints .u8 z1, g1, false, 5⟩, some ⟨.ints .u8 z2, g2, false, 5⟩, some ⟨.ints .u64 kx, 0, true, 65⟩, some ⟨.ints .u64 [0, 0], 0, true, 65⟩, some ⟨.ints .u64 y, 0, true, 65⟩, some ⟨.agg [.slice 1 0 ga 0 3 (some 3)], 0, true, 81⟩, some ⟨.agg [.func (.yield l1) [] []], 0, true, 85⟩, some ⟨.agg [.slice 1 1 g0 0 n0 none], 0, true, 25⟩, some ⟨.ints .i64 [16], 0, true, 3⟩, some ⟨.ints .u8 x, 0, true, 5⟩, some ⟨.ints .u64 b, 0, true, 65⟩]
def TNc1 (z0 z1 z2 : List Int) (g0 n0 g1 n1 g2 n2 ga : Nat) (kx : List Int) (y : List Int) (l1 : Nat) : Tab := [some ⟨.agg [.slice 1 1 g0 0 n0 none, .slice 1 2 g1 0 n1 none, .slice 1 3 g2 0 n2 none], ga, false, 25⟩, some ⟨.ints .u8 z0, g0, false, 5⟩, some ⟨.ints .u8 z1, g1, false, 5⟩, some ⟨.ints .u8 z2, g2, false, 5⟩, some ⟨.ints .u64 kx, 0, true, 65⟩, some ⟨.ints .u64 [0, 0], 0, true, 65⟩, some ⟨.ints .u64 y, 0, true, 65⟩, some ⟨.agg [.slice 1 0 ga 0 3 (some 3)], 0, true, 81⟩, some ⟨.agg [.func (.yield l1) [] []], 0, true, 85⟩, some ⟨.agg [.slice 1 2 g1 0 n1 none], 0, true, 25⟩, some ⟨.ints .i64 [16], 0, true, 3⟩]
def TQc1 (z0 z1 z2 : List Int) (g0 n0 g1 n1 g2 n2 ga : Nat) (kx : List Int) (y : List Int) (l1 : Nat) (x : List Int) : Tab := [some ⟨.agg [.slice 1 1 g0 0 n0 none, .slice 1 2 g1 0 n1 none, .slice 1 3 g2 0 n2 none], ga, false, 25⟩, some ⟨.ints .u8 z0, g0, false, 5⟩, some ⟨.ints .u8 z1, g1, false, 5⟩, some ⟨.ints .u8 z2, g2, false, 5⟩, some ⟨.ints .u64 kx, 0, true, 65⟩, some ⟨.ints .u64 [0, 0], 0, true, 65⟩, some ⟨.ints .u64 y, 0, true, 65⟩, some ⟨.agg [.slice 1 0 ga 0 3 (some 3)], 0, true, 81⟩, some ⟨.agg [.func (.yield l1) [] []], 0, true, 85⟩, some ⟨.agg [.slice 1 2 g1 0 n1 none], 0, true, 25⟩, some ⟨.ints .i64 [16], 0, true, 3⟩, some ⟨.ints .u8 x, 0, true, 5⟩]
def TUc1 (z0 z1 z2 : List Int) (g0 n0 g1 n1 g2 n2 ga : Nat) (kx : List Int) (y : List Int) (l1 : Nat) (b : List Int) : Tab := [some ⟨.agg [.slice 1 1 g0 0 n0 none, .slice 1 2 g1 0 n1 none, .slice 1 3 g2 0 n2 none], ga, false, 25⟩, some ⟨.ints .u8 z0, g0, false, 5⟩, some ⟨.ints .u8 z1, g1, false, 5⟩, some ⟨.ints .u8 z2, g2, false, 5⟩, some ⟨.ints .u64 kx, 0, true, 65⟩, some ⟨.ints .u64 [0, 0], 0, true, 65⟩, some ⟨.ints .u64 y, 0, true, 65⟩, some ⟨.agg [.slice 1 0 ga 0 3 (some 3)], 0, true, 81⟩, some ⟨.agg [.func (.yield l1) [] []], 0, true, 85⟩, some ⟨.agg [.slice 1 2 g1 0 n1 none], 0, true, 25⟩, some ⟨.ints .i64 [16], 0, true, 3⟩, some ⟨.ints .u64 b, 0, true, 65⟩]
def TVc1 (z0 z1 z2 : List Int) (g0 n0 g1 n1 g2 n2 ga : Nat) (kx : List Int) (y : List Int) (l1 : Nat) (x b : List Int) : Tab := [some ⟨.agg [.slice 1 1 g0 0 n0 none, .slice 1 2 g1 0 n1 none, .slice 1 3 g2 0 n2 none], ga, false, 25⟩, some ⟨.ints .u8 z0, g0, false, 5⟩, some ⟨.ints .u8 z1, g1, false, 5⟩, some ⟨.ints .u8 z2, g2, false, 5⟩, some ⟨.ints .u64 kx, 0, true, 65⟩, some ⟨.ints .u64 [0, 0], 0, true, 65⟩, some ⟨.ints .u64 y, 0, true, 65⟩, some ⟨.agg [.slice 1 0 ga 0 3 (some 3)], 0, true, 81⟩, some ⟨.agg [.func (.yield l1) [] []], 0, true, 85⟩, some ⟨.agg [.slice 1 2 g1 0 n1 none], 0, true, 25⟩, some ⟨.ints .i64 [16], 0, true, 3⟩, some ⟨.ints .u8 x, 0, true, 5⟩, some ⟨.ints .u64 b, 0, true, 65⟩]
def TNc2 (z0 z1 z2 : List Int) (g0 n0 g1 n1 g2 n2 ga : Nat) (kx : List Int) (y : List Int) (l1 : Nat) : Tab := [some ⟨.agg [.slice 1 1 g0 0 n0 none, .slice 1 2 g1 0 n1 none, .slice 1 3 g2 0 n2 none], ga, false, 25⟩, some ⟨.ints .u8 z0, g0, false, 5⟩, some ⟨.ints .u8 z1, g1, false, 5⟩, some ⟨.ints .u8 z2, g2, false, 5⟩, some ⟨.ints .u64 kx, 0, true, 65⟩, some ⟨.ints .u64 [0, 0], 0, true, 65⟩, some ⟨.ints .u64 y, 0, true, 65⟩, some ⟨.agg [.slice 1 0 ga 0 3 (some 3)], 0, true, 81⟩, some ⟨.agg [.func (.yield l1) [] []], 0, true, 85⟩, some ⟨.agg [.slice 1 3 g2 0 n2 none], 0, true, 25⟩, some ⟨.ints .i64 [16], 0, true, 3⟩]
def TQc2 (z0 z1 z2 : List Int) (g0 n0 g1 n1 g2 n2 ga : Nat) (kx : List Int) (y : List Int) (l1 : Nat) (x : List Int) : Tab := [some ⟨.agg [.slice 1 1 g0 0 n0 none, .slice 1 2 g1 0 n1 none, .slice 1 3 g2 0 n2 none], ga, false, 25⟩, some ⟨.ints .u8 z0, g0, false, 5⟩, some ⟨.ints .u8 z1, g1, false, 5⟩, some ⟨.ints .u8 z2, g2, false, 5⟩, some ⟨.ints .u64 kx, 0, true, 65⟩, some ⟨.ints .u64 [0, 0], 0, true, 65⟩, some ⟨.ints .u64 y, 0, true, 65⟩, some ⟨.agg [.slice 1 0 ga 0 3 (some 3)], 0, true, 81⟩, some ⟨.agg [.func (.yield l1) [] []], 0, true, 85⟩, some ⟨.agg [.slice 1 3 g2 0 n2 none], 0, true, 25⟩, some ⟨.ints .i64 [16], 0, true, 3⟩, some ⟨.ints .u8 x, 0, true, 5⟩]
def TUc2 (z0 z1 z2 : List Int) (g0 n0 g1 n1 g2 n2 ga : Nat) (kx : List Int) (y : List Int) (l1 : Nat) (b : List Int) : Tab := [some ⟨.agg [.slice 1 1 g0 0 n0 none, .slice 1 2 g1 0 n1 none, .slice 1 3 g2 0 n2 none], ga, false, 25⟩, some ⟨.ints .u8 z0, g0, false, 5⟩, some ⟨.ints .u8 z1, g1, false, 5⟩, some ⟨.ints .u8 z2, g2, false, 5⟩, some ⟨.ints .u64 kx, 0, true, 65⟩, some ⟨.ints .u64 [0, 0], 0, true, 65⟩, some ⟨.ints .u64 y, 0, true, 65⟩, some ⟨.agg [.slice 1 0 ga 0 3 (some 3)], 0, true, 81⟩, some ⟨.agg [.func (.yield l1) [] []], 0, true, 85⟩, some ⟨.agg [.slice 1 3 g2 0 n2 none], 0, true, 25⟩, some ⟨.ints .i64 [16], 0, true, 3⟩, some ⟨.ints .u64 b, 0, true, 65⟩]
def TVc2 (z0 z1 z2 : List Int) (g0 n0 g1 n1 g2 n2 ga : Nat) (kx : List Int) (y : List Int) (l1 : Nat) (x b : List Int) : Tab := [some ⟨.agg [.slice 1 1 g0 0 n0 none, .slice 1 2 g1 0 n1 none, .slice 1 3 g2 0 n2 none], ga, false, 25⟩, some ⟨.ints .u8 z0, g0, false, 5⟩, some ⟨.ints .u8 z1, g1, false, 5⟩, some ⟨.ints .u8 z2, g2, false, 5⟩, some ⟨.ints .u64 kx, 0, true, 65⟩, some ⟨.ints .u64 [0, 0], 0, true, 65⟩, some ⟨.ints .u64 y, 0, true, 65⟩, some ⟨.agg [.slice 1 0 ga 0 3 (some 3)], 0, true, 81⟩, some ⟨.agg [.func (.yield l1) [] []], 0, true, 85⟩, some ⟨.agg [.slice 1 3 g2 0 n2 none], 0, true, 25⟩, some ⟨.ints .i64 [16], 0, true, 3⟩, some ⟨.ints .u8 x, 0, true, 5⟩, some ⟨.ints .u64 b, 0, true, 65⟩]
/-! text 0 of 3 -/
noncomputable def Hyc0 (z0 z1 z2 : List Int) (g0 n0 g1 n1 g2 n2 ga : Nat) (kx : List Int) (y : List Int) (l1 l2 : Nat) (i : Int) : Out := trim 11 11 [0,1,2,4] (run eGh 31 ⟨11, []⟩ 400 hd81 [(0, .func (.yield l2) [] []), (1, .var 9 0), (2, .var 10 0), (4, .int .i64 i)] (TNc0 z0 z1 z2 g0 n0 g1 n1 g2 n2 ga kx y l1) [some true])
theorem Hyc0_ok {z0 z1 z2 : List Int} {g0 n0 g1 n1 g2 n2 ga : Nat} {kx : List Int} {y : List Int} {l1 l2 : Nat} {i : Int} (h : allP [.eqN g0 g0, .p (decide (i < (↑n0 : Int)) = true)]) : Ok (Hyc0 z0 z1 z2 g0 n0 g1 n1 g2 n2 ga kx y l1 l2 i) := Ok.dem (fl := [true, true, false, false]) (by kernel_rfl) (by kernel_rfl) (by kernel_rfl) h
theorem Hyc0_ex {z0 z1 z2 : List Int} {g0 n0 g1 n1 g2 n2 ga : Nat} {kx : List Int} {y : List Int} {l1 l2 : Nat} {i : Int} : (Hyc0 z0 z1 z2 g0 n0 g1 n1 g2 n2 ga kx y l1 l2 i).ex = .normal := by kernel_rfl
theorem Hyc0_fm {z0 z1 z2 : List Int} {g0 n0 g1 n1 g2 n2 ga : Nat} {kx : List Int} {y : List Int} {l1 l2 : Nat} {i : Int} : (Hyc0 z0 z1 z2 g0 n0 g1 n1 g2 n2 ga kx y l1 l2 i).fm = [(0, .func (Fn.yield l2) [] []), (1, .var 9 0), (2, .var 10 0), (4, .int .i64 i)] := by kernel_rfl
theorem Hyc0_tab {z0 z1 z2 : List Int} {g0 n0 g1 n1 g2 n2 ga : Nat} {kx : List Int} {y : List Int} {l1 l2 : Nat} {i : Int} : (Hyc0 z0 z1 z2 g0 n0 g1 n1 g2 n2 ga kx y l1 l2 i).tab = TNc0 z0 z1 z2 g0 n0 g1 n1 g2 n2 ga kx y l1 := by kernel_rfl
noncomputable def Hnc0 (z0 z1 z2 : List Int) (g0 n0 g1 n1 g2 n2 ga : Nat) (kx : List Int) (y : List Int) (l1 l2 : Nat) (i : Int) : Out := trim 11 11 [] (run eGh 31 ⟨11, []⟩ 400 hd81 [(0, .func (.yield l2) [] []), (1, .var 9 0), (2, .var 10 0), (4, .int .i64 i)] (TNc0 z0 z1 z2 g0 n0 g1 n1 g2 n2 ga kx y l1) [some false])
theorem Hnc0_ok {z0 z1 z2 : List Int} {g0 n0 g1 n1 g2 n2 ga : Nat} {kx : List Int} {y : List Int} {l1 l2 : Nat} {i : Int} (h : allP [.eqN g0 g0, .p (decide (i < (↑n0 : Int)) = false)]) : Ok (Hnc0 z0 z1 z2 g0 n0 g1 n1 g2 n2 ga kx y l1 l2 i) := Ok.dem (fl := [true, true, false, false]) (by kernel_rfl) (by kernel_rfl) (by kernel_rfl) h
theorem Hnc0_ex {z0 z1 z2 : List Int} {g0 n0 g1 n1 g2 n2 ga : Nat} {kx : List Int} {y : List Int} {l1 l2 : Nat} {i : Int} : (Hnc0 z0 z1 z2 g0 n0 g1 n1 g2 n2 ga kx y l1 l2 i).ex = .exit 0 := by kernel_rfl
theorem Hnc0_fm {z0 z1 z2 : List Int} {g0 n0 g1 n1 g2 n2 ga : Nat} {kx : List Int} {y : List Int} {l1 l2 : Nat} {i : Int} : (Hnc0 z0 z1 z2 g0 n0 g1 n1 g2 n2 ga kx y l1 l2 i).fm = [] := by kernel_rfl
theorem Hnc0_tab {z0 z1 z2 : List Int} {g0 n0 g1 n1 g2 n2 ga : Nat} {kx : List Int} {y : List Int} {l1 l2 : Nat} {i : Int} : (Hnc0 z0 z1 z2 g0 n0 g1 n1 g2 n2 ga kx y l1 l2 i).tab = TNc0 z0 z1 z2 g0 n0 g1 n1 g2 n2 ga kx y l1 := by kernel_rfl
noncomputable def Msc0 (z0 z1 z2 : List Int) (g0 n0 g1 n1 g2 n2 ga : Nat) (kx : List Int) (y : List Int) (l1 l2 : Nat) (i : Int) : Out := trim 11 11 [0,1,2,4,5] (run eGh 31 ⟨11, []⟩ 400 m81 [(0, .func (.yield l2) [] []), (1, .var 9 0), (2, .var 10 0), (4, .int .i64 i)] (TNc0 z0 z1 z2 g0 n0 g1 n1 g2 n2 ga kx y l1) [])
theorem Msc0_ok {z0 z1 z2 : List Int} {g0 n0 g1 n1 g2 n2 ga : Nat} {kx : List Int} {y : List Int} {l1 l2 : Nat} {i : Int} (h : allP [.leI 0 i, .eqN g0 g0, .leN i.toNat n0, .eqN g0 g0]) : Ok (Msc0 z0 z1 z2 g0 n0 g1 n1 g2 n2 ga kx y l1 l2 i) := Ok.dem (fl := [false, true, true, true, true, false, false, false, false]) (by kernel_rfl) (by kernel_rfl) (by kernel_rfl) h
theorem Msc0_ex {z0 z1 z2 : List Int} {g0 n0 g1 n1 g2 n2 ga : Nat} {kx : List Int} {y : List Int} {l1 l2 : Nat} {i : Int} : (Msc0 z0 z1 z2 g0 n0 g1 n1 g2 n2 ga kx y l1 l2 i).ex = .normal := by kernel_rfl
theorem Msc0_fm {z0 z1 z2 : List Int} {g0 n0 g1 n1 g2 n2 ga : Nat} {kx : List Int} {y : List Int} {l1 l2 : Nat} {i : Int} : (Msc0 z0 z1 z2 g0 n0 g1 n1 g2 n2 ga kx y l1 l2 i).fm = [(0, .func (Fn.yield l2) [] []), (1, .var 9 0), (2, .var 10 0), (4, .int .i64 i), (5, .int .i64 (if (↑(subO n0 i.toNat) : Int) < 16 then (↑(subO n0 i.toNat) : Int) else 16))] := by kernel_rfl
theorem Msc0_tab {z0 z1 z2 : List Int} {g0 n0 g1 n1 g2 n2 ga : Nat} {kx : List Int} {y : List Int} {l1 l2 : Nat} {i : Int} : (Msc0 z0 z1 z2 g0 n0 g1 n1 g2 n2 ga kx y l1 l2 i).tab = TNc0 z0 z1 z2 g0 n0 g1 n1 g2 n2 ga kx y l1 := by kernel_rfl
noncomputable def Yac0 (z0 z1 z2 : List Int) (g0 n0 g1 n1 g2 n2 ga : Nat) (kx : List Int) (y : List Int) (l1 l2 : Nat) (i r : Int) : Out := runOps eGh ops81.toList 31 (ops81.toList.take 10) ([(0, .func (.yield l2) [] []), (1, .var 9 0), (2, .var 10 0), (4, .int .i64 i)] ++ [(5, .int .i64 r)]) (((TNc0 z0 z1 z2 g0 n0 g1 n1 g2 n2 ga kx y l1) : Tab) ++ holes (cntA eGh (ops81.toList.take 10))) ((TNc0 z0 z1 z2 g0 n0 g1 n1 g2 n2 ga kx y l1) : Tab).length []
theorem Yac0_ok {z0 z1 z2 : List Int} {g0 n0 g1 n1 g2 n2 ga : Nat} {kx : List Int} {y : List Int} {l1 l2 : Nat} {i r : Int} (h : allP [.rng (-9223372036854775808) (i + r) 9223372036854775807, .rng (-9223372036854775808) (i + r) 9223372036854775807, .leI 0 i, .leI 0 (i + r), .leI 0 (i + r), .eqN g0 g0, .leN i.toNat (i + r).toNat, .leN (i + r).toNat (i + r).toNat, .orN (i + r).toNat n0 (0 + (i +
 r).toNat) z0.length]) : Ok (Yac0 z0 z1 z2 g0 n0 g1 n1 g2 n2 ga kx y l1 l2 i r) := Ok.dem (fl := [true, true, false, false, false, false, false, false, false, false, false]) (by kernel_rfl) (by kernel_rfl) (by kernel_rfl) h
theorem Yac0_fm {z0 z1 z2 : List Int} {g0 n0 g1 n1 g2 n2 ga : Nat} {kx : List Int} {y : List Int} {l1 l2 : Nat} {i r : Int} : (Yac0 z0 z1 z2 g0 n0 g1 n1 g2 n2 ga kx y l1 l2 i r).fm = [(28, .slice 1 1 g0 i.toNat (subO (i + r).toNat i.toNat) (some (subO (i + r).toNat i.toNat))), (27, .int .i64 (i + r)), (26, .int .i64 r), (25, .int .i64 i), (24, .int .i64 (i + r)), (23, .int .i64 r), (22, .int .i64
 i), (21, .int .i64 i), (20, .slice 1 1 g0 0 n0 none), (19, .func (Fn.yield l2) [] []), (0, .func (Fn.yield l2) [] []), (1, .var 9 0), (2, .var 10 0), (4, .int .i64 i), (5, .int .i64 r)] := by kernel_rfl
theorem Yac0_tab {z0 z1 z2 : List Int} {g0 n0 g1 n1 g2 n2 ga : Nat} {kx : List Int} {y : List Int} {l1 l2 : Nat} {i r : Int} : (Yac0 z0 z1 z2 g0 n0 g1 n1 g2 n2 ga kx y l1 l2 i r).tab = TNc0 z0 z1 z2 g0 n0 g1 n1 g2 n2 ga kx y l1 := by kernel_rfl
noncomputable def Asc0 (z0 z1 z2 : List Int) (g0 n0 g1 n1 g2 n2 ga : Nat) (kx : List Int) (y : List Int) (l1 l2 : Nat) (o r : Nat) : Out := trim 11 11 [2,5] (run eGh 30 ⟨11, []⟩ 400 as79 ((14, .slice 1 1 g0 o r (some r)) :: [(1, .var 7 0), (2, .var 8 0), (6, .slice 1 0 ga 0 3 (some 3)), (7, .int .i64 3), (8, .int .i64 0), (13, .func (.func 81) [] [.var 9 0, .var 10 0])]) (TNc0 z0 z1 z2 g0 n0 g1 n1 g2 n2 ga kx y l1) [])
theorem Asc0_ok {z0 z1 z2 : List Int} {g0 n0 g1 n1 g2 n2 ga : Nat} {kx : List Int} {y : List Int} {l1 l2 : Nat} {o r : Nat} (h : allP []) : Ok (Asc0 z0 z1 z2 g0 n0 g1 n1 g2 n2 ga kx y l1 l2 o r) := Ok.dem (fl := []) (by kernel_rfl) (by kernel_rfl) (by kernel_rfl) h
theorem Asc0_ex {z0 z1 z2 : List Int} {g0 n0 g1 n1 g2 n2 ga : Nat} {kx : List Int} {y : List Int} {l1 l2 : Nat} {o r : Nat} : (Asc0 z0 z1 z2 g0 n0 g1 n1 g2 n2 ga kx y l1 l2 o r).ex = .normal := by kernel_rfl
theorem Asc0_fm {z0 z1 z2 : List Int} {g0 n0 g1 n1 g2 n2 ga : Nat} {kx : List Int} {y : List Int} {l1 l2 : Nat} {o r : Nat} : (Asc0 z0 z1 z2 g0 n0 g1 n1 g2 n2 ga kx y l1 l2 o r).fm = [(2, .var 8 0), (5, .slice 1 1 g0 o r (some r))] := by kernel_rfl
theorem Asc0_tab {z0 z1 z2 : List Int} {g0 n0 g1 n1 g2 n2 ga : Nat} {kx : List Int} {y : List Int} {l1 l2 : Nat} {o r : Nat} : (Asc0 z0 z1 z2 g0 n0 g1 n1 g2 n2 ga kx y l1 l2 o r).tab = TNc0 z0 z1 z2 g0 n0 g1 n1 g2 n2 ga kx y l1 := by kernel_rfl
noncomputable def Dfc0 (z0 z1 z2 : List Int) (g0 n0 g1 n1 g2 n2 ga : Nat) (kx : List Int) (y : List Int) (l1 l2 : Nat) (o : Nat) : Out := drawRun eGh (ops79.toList.take 12) 30 [(2, .var 8 0), (5, .slice 1 1 g0 o 16 (some 16))] (TNc0 z0 z1 z2 g0 n0 g1 n1 g2 n2 ga kx y l1) [some true]
theorem Dfc0_ok {z0 z1 z2 : List Int} {g0 n0 g1 n1 g2 n2 ga : Nat} {kx : List Int} {y : List Int} {l1 l2 : Nat} {o : Nat} (h : allP [.eqN g0 g0, .eqN g0 g0, .eqN g0 g0, .eqN g0 g0, .eqN g0 g0, .eqN g0 g0, .leN (addO o 0 + 16) z0.length, .p (Bytes z0)]) : Ok (Dfc0 z0 z1 z2 g0 n0 g1 n1 g2 n2 ga kx y l1 l2 o) := Ok.dem (fl := bitsF 29 135649502) (by kernel_rfl) (by kernel_rfl) (by kernel_rfl) h
theorem Dfc0_fm {z0 z1 z2 : List Int} {g0 n0 g1 n1 g2 n2 ga : Nat} {kx : List Int} {y : List Int} {l1 l2 : Nat} {o : Nat} : (Dfc0 z0 z1 z2 g0 n0 g1 n1 g2 n2 ga kx y l1 l2 o).fm = [(15, .func (Fn.yield l1) [] []), (16, .slice 1 1 g0 o 16 (some 16)), (17, .slice 1 1 g0 o 16 (some 16)), (18, .int .i64 16), (19, .slice 1 1 g0 o 16 (some 16)), (20, .int .i64 16), (21, .slice 1 1 g0 (addO o 0) 16 (some
 16)), (22, .slice 1 1 g0 o 16 (some 16)), (23, .int .i64 16), (24, .int .i64 0), (25, .slice 1 1 g0 (addO o 0) 16 (some 16)), (26, .ints .u64 (gwLaw (subLaw z0 (addO o 0) 16))), (2, .var 8 0), (5, .slice 1 1 g0 o 16 (some 16))] := by kernel_rfl
theorem Dfc0_tab {z0 z1 z2 : List Int} {g0 n0 g1 n1 g2 n2 ga : Nat} {kx : List Int} {y : List Int} {l1 l2 : Nat} {o : Nat} : (Dfc0 z0 z1 z2 g0 n0 g1 n1 g2 n2 ga kx y l1 l2 o).tab = TNc0 z0 z1 z2 g0 n0 g1 n1 g2 n2 ga kx y l1 := by kernel_rfl
noncomputable def Dpc0 (z0 z1 z2 : List Int) (g0 n0 g1 n1 g2 n2 ga : Nat) (kx : List Int) (y : List Int) (l1 l2 : Nat) (o r : Nat) : Out := drawRun eGh (ops79.toList.take 12) 30 [(2, .var 8 0), (5, .slice 1 1 g0 o r (some r))] (TNc0 z0 z1 z2 g0 n0 g1 n1 g2 n2 ga kx y l1) [some false]
theorem Dpc0_ok {z0 z1 z2 : List Int} {g0 n0 g1 n1 g2 n2 ga : Nat} {kx : List Int} {y : List Int} {l1 l2 : Nat} {o r : Nat} (h : allP [.eqN g0 g0, .eqN g0 g0, .leI 0 (↑r : Int), .leI 0 (↑r : Int), .eqN g0 g0, .leN 0 r, .leN r r, .leN r r, .eqN g0 g0, .rng (-9223372036854775808) (16 - (↑r : Int)) 9223372036854775807, .eqN g0 g0, .leN (addO o 0 + r) z0.length, .p (r < addO r (16 - (↑r : Int)).toNat ∨
 r = 0 ∧ r = 0), .leN (addO r (16 - (↑r : Int)).toNat) 140737488355328, .leI 0 (16 - (↑r : Int)), .leI (16 - (↑r : Int)) 9223372036854775807, .leN (16 - (↑r : Int)).toNat 281474976710656, .leN 16 (List.take r (dropO (addO o 0) z0) ++ List.replicate (16 - (↑r : Int)).toNat 0).length, .p (Bytes (List.take r (dropO (addO o 0) z0) ++ List.replicate (16 - (↑r : Int)).toNat 0)), .eqN (addO r (16 - (↑r :
 Int)).toNat) 16]) : Ok (Dpc0 z0 z1 z2 g0 n0 g1 n1 g2 n2 ga kx y l1 l2 o r) := Ok.dem (fl := bitsF 35 335544542) (by kernel_rfl) (by kernel_rfl) (by kernel_rfl) h
theorem Dpc0_fm {z0 z1 z2 : List Int} {g0 n0 g1 n1 g2 n2 ga : Nat} {kx : List Int} {y : List Int} {l1 l2 : Nat} {o r : Nat} : (Dpc0 z0 z1 z2 g0 n0 g1 n1 g2 n2 ga kx y l1 l2 o r).fm = [(15, .func (Fn.yield l1) [] []), (16, .slice 1 1 g0 o r (some r)), (17, .slice 1 1 g0 o r (some r)), (18, .int .i64 (↑r : Int)), (19, .slice 1 1 g0 o r (some r)), (20, .int .i64 (↑r : Int)), (21, .slice 1 1 g0 (addO o
 0) r (some r)), (22, .slice 1 1 g0 o r (some r)), (23, .int .i64 (↑r : Int)), (24, .int .i64 (16 - (↑r : Int))), (25, .slice 1 11 0 0 (addO r (16 - (↑r : Int)).toNat) none), (26, .ints .u64 (gwLaw (subLaw (List.take r (dropO (addO o 0) z0) ++ List.replicate (16 - (↑r : Int)).toNat 0) 0 16))), (2, .var 8 0), (5, .slice 1 1 g0 o r (some r))] := by kernel_rfl
theorem Dpc0_tab {z0 z1 z2 : List Int} {g0 n0 g1 n1 g2 n2 ga : Nat} {kx : List Int} {y : List Int} {l1 l2 : Nat} {o r : Nat} : (Dpc0 z0 z1 z2 g0 n0 g1 n1 g2 n2 ga kx y l1 l2 o r).tab = TQc0 z0 z1 z2 g0 n0 g1 n1 g2 n2 ga kx y l1 ((List.take r (dropO (addO o 0) z0) ++ List.replicate (16 - (↑r : Int)).toNat 0)) := by kernel_rfl
noncomputable def Rbc0 (z0 z1 z2 : List Int) (g0 n0 g1 n1 g2 n2 ga : Nat) (kx : List Int) (y : List Int) (l1 l2 : Nat) (i : Int) : Out := trim 11 11 [0,1,2,4] (run eGh 31 ⟨11, []⟩ 400 r81 [(0, .func (.yield l2) [] []), (1, .var 9 0), (2, .var 10 0), (4, .int .i64 i)] (TNc0 z0 z1 z2 g0 n0 g1 n1 g2 n2 ga kx y l1) [])
theorem Rbc0_ok {z0 z1 z2 : List Int} {g0 n0 g1 n1 g2 n2 ga : Nat} {kx : List Int} {y : List Int} {l1 l2 : Nat} {i : Int} (h : allP [.rng (-9223372036854775808) (i + 16) 9223372036854775807]) : Ok (Rbc0 z0 z1 z2 g0 n0 g1 n1 g2 n2 ga kx y l1 l2 i) := Ok.dem (fl := [true, true, false]) (by kernel_rfl) (by kernel_rfl) (by kernel_rfl) h
theorem Rbc0_ex {z0 z1 z2 : List Int} {g0 n0 g1 n1 g2 n2 ga : Nat} {kx : List Int} {y : List Int} {l1 l2 : Nat} {i : Int} : (Rbc0 z0 z1 z2 g0 n0 g1 n1 g2 n2 ga kx y l1 l2 i).ex = .normal := by kernel_rfl
theorem Rbc0_fm {z0 z1 z2 : List Int} {g0 n0 g1 n1 g2 n2 ga : Nat} {kx : List Int} {y : List Int} {l1 l2 : Nat} {i : Int} : (Rbc0 z0 z1 z2 g0 n0 g1 n1 g2 n2 ga kx y l1 l2 i).fm = [(0, .func (Fn.yield l2) [] []), (1, .var 9 0), (2, .var 10 0), (4, .int .i64 (i + 16))] := by kernel_rfl
theorem Rbc0_tab {z0 z1 z2 : List Int} {g0 n0 g1 n1 g2 n2 ga : Nat} {kx : List Int} {y : List Int} {l1 l2 : Nat} {i : Int} : (Rbc0 z0 z1 z2 g0 n0 g1 n1 g2 n2 ga kx y l1 l2 i).tab = TNc0 z0 z1 z2 g0 n0 g1 n1 g2 n2 ga kx y l1 := by kernel_rfl
noncomputable def Rrc0 (z0 z1 z2 : List Int) (g0 n0 g1 n1 g2 n2 ga : Nat) (kx : List Int) (y : List Int) (l1 : Nat) : Out := trim 9 9 [1,2,6,7,8] (run eGh 30 ⟨9, []⟩ 400 r79 [(1, .var 7 0), (2, .var 8 0), (6, .slice 1 0 ga 0 3 (some 3)), (7, .int .i64 3), (8, .int .i64 0), (13, .func (.func 81) [] [.var 9 0, .var 10 0])] (TNc0 z0 z1 z2 g0 n0 g1 n1 g2 n2 ga kx y l1) [])
theorem Rrc0_ok {z0 z1 z2 : List Int} {g0 n0 g1 n1 g2 n2 ga : Nat} {kx : List Int} {y : List Int} {l1 : Nat} (h : allP []) : Ok (Rrc0 z0 z1 z2 g0 n0 g1 n1 g2 n2 ga kx y l1) := Ok.dem (fl := [true]) (by kernel_rfl) (by kernel_rfl) (by kernel_rfl) h
theorem Rrc0_ex {z0 z1 z2 : List Int} {g0 n0 g1 n1 g2 n2 ga : Nat} {kx : List Int} {y : List Int} {l1 : Nat} : (Rrc0 z0 z1 z2 g0 n0 g1 n1 g2 n2 ga kx y l1).ex = .normal := by kernel_rfl
theorem Rrc0_fm {z0 z1 z2 : List Int} {g0 n0 g1 n1 g2 n2 ga : Nat} {kx : List Int} {y : List Int} {l1 : Nat} : (Rrc0 z0 z1 z2 g0 n0 g1 n1 g2 n2 ga kx y l1).fm = [(1, .var 7 0), (2, .var 8 0), (6, .slice 1 0 ga 0 3 (some 3)), (7, .int .i64 3), (8, .int .i64 1)] := by kernel_rfl
theorem Rrc0_tab {z0 z1 z2 : List Int} {g0 n0 g1 n1 g2 n2 ga : Nat} {kx : List Int} {y : List Int} {l1 : Nat} : (Rrc0 z0 z1 z2 g0 n0 g1 n1 g2 n2 ga kx y l1).tab = TPc z0 z1 z2 g0 n0 g1 n1 g2 n2 ga kx y l1 := by kernel_rfl
noncomputable def A6fc0 (z0 z1 z2 : List Int) (g0 n0 g1 n1 g2 n2 ga : Nat) (kx : List Int) (y : List Int) (l1 : Nat) (b : List Int) : Out := trim 11 12 [2,5,6] (run eGh 16 ⟨11, []⟩ 400 as63 ((9, .ints .u64 b) :: [(2, .var 4 0), (4, .var 5 0), (5, .var 6 0), (8, .func (.func 79) [] [.var 7 0])]) (TNc0 z0 z1 z2 g0 n0 g1 n1 g2 n2 ga kx y l1) [])
theorem A6fc0_ok {z0 z1 z2 : List Int} {g0 n0 g1 n1 g2 n2 ga : Nat} {kx : List Int} {y : List Int} {l1 : Nat} {b : List Int} (h : allP [.eqN b.length 2]) : Ok (A6fc0 z0 z1 z2 g0 n0 g1 n1 g2 n2 ga kx y l1 b) := Ok.dem (fl := [true, false, true, true]) (by kernel_rfl) (by kernel_rfl) (by kernel_rfl) h
theorem A6fc0_ex {z0 z1 z2 : List Int} {g0 n0 g1 n1 g2 n2 ga : Nat} {kx : List Int} {y : List Int} {l1 : Nat} {b : List Int} : (A6fc0 z0 z1 z2 g0 n0 g1 n1 g2 n2 ga kx y l1 b).ex = .normal := by kernel_rfl
theorem A6fc0_fm {z0 z1 z2 : List Int} {g0 n0 g1 n1 g2 n2 ga : Nat} {kx : List Int} {y : List Int} {l1 : Nat} {b : List Int} : (A6fc0 z0 z1 z2 g0 n0 g1 n1 g2 n2 ga kx y l1 b).fm = [(2, .var 4 0), (5, .var 6 0), (6, .var 11 0)] := by kernel_rfl
theorem A6fc0_tab {z0 z1 z2 : List Int} {g0 n0 g1 n1 g2 n2 ga : Nat} {kx : List Int} {y : List Int} {l1 : Nat} {b : List Int} : (A6fc0 z0 z1 z2 g0 n0 g1 n1 g2 n2 ga kx y l1 b).tab = TUc0 z0 z1 z2 g0 n0 g1 n1 g2 n2 ga kx y l1 b := by kernel_rfl
noncomputable def B6fc0 (z0 z1 z2 : List Int) (g0 n0 g1 n1 g2 n2 ga : Nat) (kx : List Int) (y : List Int) (l1 : Nat) (b : List Int) : Out := trim 11 11 [] (run eGh 16 ⟨11, []⟩ 400 bd63 [(2, .var 4 0), (5, .var 6 0), (6, .var 11 0)] (TUc0 z0 z1 z2 g0 n0 g1 n1 g2 n2 ga kx y l1 b) [])
theorem B6fc0_ok {z0 z1 z2 : List Int} {g0 n0 g1 n1 g2 n2 ga : Nat} {kx : List Int} {y : List Int} {l1 : Nat} {b : List Int} (h : allP [.eqN y.length 2, .eqN b.length 2, .p (WpLaw y), .p (WpLaw b), .eqN kx.length 2, .eqN kx.length 2, .p (WpLaw (xwLaw y b)), .p (WpLaw kx), .eqN y.length 2]) : Ok (B6fc0 z0 z1 z2 g0 n0 g1 n1 g2 n2 ga kx y l1 b) := Ok.dem (fl := bitsF 25 11539466) (by kernel_rfl) (by
 kernel_rfl) (by kernel_rfl) h
theorem B6fc0_ex {z0 z1 z2 : List Int} {g0 n0 g1 n1 g2 n2 ga : Nat} {kx : List Int} {y : List Int} {l1 : Nat} {b : List Int} : (B6fc0 z0 z1 z2 g0 n0 g1 n1 g2 n2 ga kx y l1 b).ex = .normal := by kernel_rfl
theorem B6fc0_fm {z0 z1 z2 : List Int} {g0 n0 g1 n1 g2 n2 ga : Nat} {kx : List Int} {y : List Int} {l1 : Nat} {b : List Int} : (B6fc0 z0 z1 z2 g0 n0 g1 n1 g2 n2 ga kx y l1 b).fm = [] := by kernel_rfl
theorem B6fc0_tab {z0 z1 z2 : List Int} {g0 n0 g1 n1 g2 n2 ga : Nat} {kx : List Int} {y : List Int} {l1 : Nat} {b : List Int} : (B6fc0 z0 z1 z2 g0 n0 g1 n1 g2 n2 ga kx y l1 b).tab = TNc0 z0 z1 z2 g0 n0 g1 n1 g2 n2 ga kx ((mwLaw (xwLaw y b) kx)) l1 := by kernel_rfl
noncomputable def A6pc0 (z0 z1 z2 : List Int) (g0 n0 g1 n1 g2 n2 ga : Nat) (kx : List Int) (y : List Int) (l1 : Nat) (x : List Int) (b : List Int) : Out := trim 12 13 [2,5,6] (run eGh 16 ⟨12, []⟩ 400 as63 ((9, .ints .u64 b) :: [(2, .var 4 0), (4, .var 5 0), (5, .var 6 0), (8, .func (.func 79) [] [.var 7 0])]) (TQc0 z0 z1 z2 g0 n0 g1 n1 g2 n2 ga kx y l1 x) [])
theorem A6pc0_ok {z0 z1 z2 : List Int} {g0 n0 g1 n1 g2 n2 ga : Nat} {kx : List Int} {y : List Int} {l1 : Nat} {x : List Int} {b : List Int} (h : allP [.eqN b.length 2]) : Ok (A6pc0 z0 z1 z2 g0 n0 g1 n1 g2 n2 ga kx y l1 x b) := Ok.dem (fl := [true, false, true, true]) (by kernel_rfl) (by kernel_rfl) (by kernel_rfl) h
theorem A6pc0_ex {z0 z1 z2 : List Int} {g0 n0 g1 n1 g2 n2 ga : Nat} {kx : List Int} {y : List Int} {l1 : Nat} {x : List Int} {b : List Int} : (A6pc0 z0 z1 z2 g0 n0 g1 n1 g2 n2 ga kx y l1 x b).ex = .normal := by kernel_rfl
theorem A6pc0_fm {z0 z1 z2 : List Int} {g0 n0 g1 n1 g2 n2 ga : Nat} {kx : List Int} {y : List Int} {l1 : Nat} {x : List Int} {b : List Int} : (A6pc0 z0 z1 z2 g0 n0 g1 n1 g2 n2 ga kx y l1 x b).fm = [(2, .var 4 0), (5, .var 6 0), (6, .var 12 0)] := by kernel_rfl
theorem A6pc0_tab {z0 z1 z2 : List Int} {g0 n0 g1 n1 g2 n2 ga : Nat} {kx : List Int} {y : List Int} {l1 : Nat} {x : List Int} {b : List Int} : (A6pc0 z0 z1 z2 g0 n0 g1 n1 g2 n2 ga kx y l1 x b).tab = TVc0 z0 z1 z2 g0 n0 g1 n1 g2 n2 ga kx y l1 x b := by kernel_rfl
noncomputable def B6pc0 (z0 z1 z2 : List Int) (g0 n0 g1 n1 g2 n2 ga : Nat) (kx : List Int) (y : List Int) (l1 : Nat) (x : List Int) (b : List Int) : Out := trim 12 12 [] (run eGh 16 ⟨12, []⟩ 400 bd63 [(2, .var 4 0), (5, .var 6 0), (6, .var 12 0)] (TVc0 z0 z1 z2 g0 n0 g1 n1 g2 n2 ga kx y l1 x b) [])
theorem B6pc0_ok {z0 z1 z2 : List Int} {g0 n0 g1 n1 g2 n2 ga : Nat} {kx : List Int} {y : List Int} {l1 : Nat} {x : List Int} {b : List Int} (h : allP [.eqN y.length 2, .eqN b.length 2, .p (WpLaw y), .p (WpLaw b), .eqN kx.length 2, .eqN kx.length 2, .p (WpLaw (xwLaw y b)), .p (WpLaw kx), .eqN y.length 2]) : Ok (B6pc0 z0 z1 z2 g0 n0 g1 n1 g2 n2 ga kx y l1 x b) := Ok.dem (fl := bitsF 25 11539466) (by
 kernel_rfl) (by kernel_rfl) (by kernel_rfl) h
theorem B6pc0_ex {z0 z1 z2 : List Int} {g0 n0 g1 n1 g2 n2 ga : Nat} {kx : List Int} {y : List Int} {l1 : Nat} {x : List Int} {b : List Int} : (B6pc0 z0 z1 z2 g0 n0 g1 n1 g2 n2 ga kx y l1 x b).ex = .normal := by kernel_rfl
theorem B6pc0_fm {z0 z1 z2 : List Int} {g0 n0 g1 n1 g2 n2 ga : Nat} {kx : List Int} {y : List Int} {l1 : Nat} {x : List Int} {b : List Int} : (B6pc0 z0 z1 z2 g0 n0 g1 n1 g2 n2 ga kx y l1 x b).fm = [] := by kernel_rfl
theorem B6pc0_tab {z0 z1 z2 : List Int} {g0 n0 g1 n1 g2 n2 ga : Nat} {kx : List Int} {y : List Int} {l1 : Nat} {x : List Int} {b : List Int} : (B6pc0 z0 z1 z2 g0 n0 g1 n1 g2 n2 ga kx y l1 x b).tab = TQc0 z0 z1 z2 g0 n0 g1 n1 g2 n2 ga kx ((mwLaw (xwLaw y b) kx)) l1 x := by kernel_rfl
/-! text 1 of 3 -/
noncomputable def Hyc1 (z0 z1 z2 : List Int) (g0 n0 g1 n1 g2 n2 ga : Nat) (kx : List Int) (y : List Int) (l1 l2 : Nat) (i : Int) : Out := trim 11 11 [0,1,2,4] (run eGh 31 ⟨11, []⟩ 400 hd81 [(0, .func (.yield l2) [] []), (1, .var 9 0), (2, .var 10 0), (4, .int .i64 i)] (TNc1 z0 z1 z2 g0 n0 g1 n1 g2 n2 ga kx y l1) [some true])
theorem Hyc1_ok {z0 z1 z2 : List Int} {g0 n0 g1 n1 g2 n2 ga : Nat} {kx : List Int} {y : List Int} {l1 l2 : Nat} {i : Int} (h : allP [.eqN g1 g1, .p (decide (i < (↑n1 : Int)) = true)]) : Ok (Hyc1 z0 z1 z2 g0 n0 g1 n1 g2 n2 ga kx y l1 l2 i) := Ok.dem (fl := [true, true, false, false]) (by kernel_rfl) (by kernel_rfl) (by kernel_rfl) h
theorem Hyc1_ex {z0 z1 z2 : List Int} {g0 n0 g1 n1 g2 n2 ga : Nat} {kx : List Int} {y : List Int} {l1 l2 : Nat} {i : Int} : (Hyc1 z0 z1 z2 g0 n0 g1 n1 g2 n2 ga kx y l1 l2 i).ex = .normal := by kernel_rfl
theorem Hyc1_fm {z0 z1 z2 : List Int} {g0 n0 g1 n1 g2 n2 ga : Nat} {kx : List Int} {y : List Int} {l1 l2 : Nat} {i : Int} : (Hyc1 z0 z1 z2 g0 n0 g1 n1 g2 n2 ga kx y l1 l2 i).fm = [(0, .func (Fn.yield l2) [] []), (1, .var 9 0), (2, .var 10 0), (4, .int .i64 i)] := by kernel_rfl
theorem Hyc1_tab {z0 z1 z2 : List Int} {g0 n0 g1 n1 g2 n2 ga : Nat} {kx : List Int} {y : List Int} {l1 l2 : Nat} {i : Int} : (Hyc1 z0 z1 z2 g0 n0 g1 n1 g2 n2 ga kx y l1 l2 i).tab = TNc1 z0 z1 z2 g0 n0 g1 n1 g2 n2 ga kx y l1 := by kernel_rfl
noncomputable def Hnc1 (z0 z1 z2 : List Int) (g0 n0 g1 n1 g2 n2 ga : Nat) (kx : List Int) (y : List Int) (l1 l2 : Nat) (i : Int) : Out := trim 11 11 [] (run eGh 31 ⟨11, []⟩ 400 hd81 [(0, .func (.yield l2) [] []), (1, .var 9 0), (2, .var 10 0), (4, .int .i64 i)] (TNc1 z0 z1 z2 g0 n0 g1 n1 g2 n2 ga kx y l1) [some false])
theorem Hnc1_ok {z0 z1 z2 : List Int} {g0 n0 g1 n1 g2 n2 ga : Nat} {kx : List Int} {y : List Int} {l1 l2 : Nat} {i : Int} (h : allP [.eqN g1 g1, .p (decide (i < (↑n1 : Int)) = false)]) : Ok (Hnc1 z0 z1 z2 g0 n0 g1 n1 g2 n2 ga kx y l1 l2 i) := Ok.dem (fl := [true, true, false, false]) (by kernel_rfl) (by kernel_rfl) (by kernel_rfl) h
theorem Hnc1_ex {z0 z1 z2 : List Int} {g0 n0 g1 n1 g2 n2 ga : Nat} {kx : List Int} {y : List Int} {l1 l2 : Nat} {i : Int} : (Hnc1 z0 z1 z2 g0 n0 g1 n1 g2 n2 ga kx y l1 l2 i).ex = .exit 0 := by kernel_rfl
theorem Hnc1_fm {z0 z1 z2 : List Int} {g0 n0 g1 n1 g2 n2 ga : Nat} {kx : List Int} {y : List Int} {l1 l2 : Nat} {i : Int} : (Hnc1 z0 z1 z2 g0 n0 g1 n1 g2 n2 ga kx y l1 l2 i).fm = [] := by kernel_rfl
theorem Hnc1_tab {z0 z1 z2 : List Int} {g0 n0 g1 n1 g2 n2 ga : Nat} {kx : List Int} {y : List Int} {l1 l2 : Nat} {i : Int} : (Hnc1 z0 z1 z2 g0 n0 g1 n1 g2 n2 ga kx y l1 l2 i).tab = TNc1 z0 z1 z2 g0 n0 g1 n1 g2 n2 ga kx y l1 := by kernel_rfl
noncomputable def Msc1 (z0 z1 z2 : List Int) (g0 n0 g1 n1 g2 n2 ga : Nat) (kx : List Int) (y : List Int) (l1 l2 : Nat) (i : Int) : Out := trim 11 11 [0,1,2,4,5] (run eGh 31 ⟨11, []⟩ 400 m81 [(0, .func (.yield l2) [] []), (1, .var 9 0), (2, .var 10 0), (4, .int .i64 i)] (TNc1 z0 z1 z2 g0 n0 g1 n1 g2 n2 ga kx y l1) [])
theorem Msc1_ok {z0 z1 z2 : List Int} {g0 n0 g1 n1 g2 n2 ga : Nat} {kx : List Int} {y : List Int} {l1 l2 : Nat} {i : Int} (h : allP [.leI 0 i, .eqN g1 g1, .leN i.toNat n1, .eqN g1 g1]) : Ok (Msc1 z0 z1 z2 g0 n0 g1 n1 g2 n2 ga kx y l1 l2 i) := Ok.dem (fl := [false, true, true, true, true, false, false, false, false]) (by kernel_rfl) (by kernel_rfl) (by kernel_rfl) h
theorem Msc1_ex {z0 z1 z2 : List Int} {g0 n0 g1 n1 g2 n2 ga : Nat} {kx : List Int} {y : List Int} {l1 l2 : Nat} {i : Int} : (Msc1 z0 z1 z2 g0 n0 g1 n1 g2 n2 ga kx y l1 l2 i).ex = .normal := by kernel_rfl
theorem Msc1_fm {z0 z1 z2 : List Int} {g0 n0 g1 n1 g2 n2 ga : Nat} {kx : List Int} {y : List Int} {l1 l2 : Nat} {i : Int} : (Msc1 z0 z1 z2 g0 n0 g1 n1 g2 n2 ga kx y l1 l2 i).fm = [(0, .func (Fn.yield l2) [] []), (1, .var 9 0), (2, .var 10 0), (4, .int .i64 i), (5, .int .i64 (if (↑(subO n1 i.toNat) : Int) < 16 then (↑(subO n1 i.toNat) : Int) else 16))] := by kernel_rfl
theorem Msc1_tab {z0 z1 z2 : List Int} {g0 n0 g1 n1 g2 n2 ga : Nat} {kx : List Int} {y : List Int} {l1 l2 : Nat} {i : Int} : (Msc1 z0 z1 z2 g0 n0 g1 n1 g2 n2 ga kx y l1 l2 i).tab = TNc1 z0 z1 z2 g0 n0 g1 n1 g2 n2 ga kx y l1 := by kernel_rfl
noncomputable def Yac1 (z0 z1 z2 : List Int) (g0 n0 g1 n1 g2 n2 ga : Nat) (kx : List Int) (y : List Int) (l1 l2 : Nat) (i r : Int) : Out := runOps eGh ops81.toList 31 (ops81.toList.take 10) ([(0, .func (.yield l2) [] []), (1, .var 9 0), (2, .var 10 0), (4, .int .i64 i)] ++ [(5, .int .i64 r)]) (((TNc1 z0 z1 z2 g0 n0 g1 n1 g2 n2 ga kx y l1) : Tab) ++ holes (cntA eGh (ops81.toList.take 10))) ((TNc1 z0 z1 z2 g0 n0 g1 n1 g2 n2 ga kx y l1) : Tab).length []
theorem Yac1_ok {z0 z1 z2 : List Int} {g0 n0 g1 n1 g2 n2 ga : Nat} {kx : List Int} {y : List Int} {l1 l2 : Nat} {i r : Int} (h : allP [.rng (-9223372036854775808) (i + r) 9223372036854775807, .rng (-9223372036854775808) (i + r) 9223372036854775807, .leI 0 i, .leI 0 (i + r), .leI 0 (i + r), .eqN g1 g1, .leN i.toNat (i + r).toNat, .leN (i + r).toNat (i + r).toNat, .orN (i + r).toNat n1 (0 + (i +
 r).toNat) z1.length]) : Ok (Yac1 z0 z1 z2 g0 n0 g1 n1 g2 n2 ga kx y l1 l2 i r) := Ok.dem (fl := [true, true, false, false, false, false, false, false, false, false, false]) (by kernel_rfl) (by kernel_rfl) (by kernel_rfl) h
theorem Yac1_fm {z0 z1 z2 : List Int} {g0 n0 g1 n1 g2 n2 ga : Nat} {kx : List Int} {y : List Int} {l1 l2 : Nat} {i r : Int} : (Yac1 z0 z1 z2 g0 n0 g1 n1 g2 n2 ga kx y l1 l2 i r).fm = [(28, .slice 1 2 g1 i.toNat (subO (i + r).toNat i.toNat) (some (subO (i + r).toNat i.toNat))), (27, .int .i64 (i + r)), (26, .int .i64 r), (25, .int .i64 i), (24, .int .i64 (i + r)), (23, .int .i64 r), (22, .int .i64
 i), (21, .int .i64 i), (20, .slice 1 2 g1 0 n1 none), (19, .func (Fn.yield l2) [] []), (0, .func (Fn.yield l2) [] []), (1, .var 9 0), (2, .var 10 0), (4, .int .i64 i), (5, .int .i64 r)] := by kernel_rfl
theorem Yac1_tab {z0 z1 z2 : List Int} {g0 n0 g1 n1 g2 n2 ga : Nat} {kx : List Int} {y : List Int} {l1 l2 : Nat} {i r : Int} : (Yac1 z0 z1 z2 g0 n0 g1 n1 g2 n2 ga kx y l1 l2 i r).tab = TNc1 z0 z1 z2 g0 n0 g1 n1 g2 n2 ga kx y l1 := by kernel_rfl
noncomputable def Asc1 (z0 z1 z2 : List Int) (g0 n0 g1 n1 g2 n2 ga : Nat) (kx : List Int) (y : List Int) (l1 l2 : Nat) (o r : Nat) : Out := trim 11 11 [2,5] (run eGh 30 ⟨11, []⟩ 400 as79 ((14, .slice 1 2 g1 o r (some r)) :: [(1, .var 7 0), (2, .var 8 0), (6, .slice 1 0 ga 0 3 (some 3)), (7, .int .i64 3), (8, .int .i64 1), (13, .func (.func 81) [] [.var 9 0, .var 10 0])]) (TNc1 z0 z1 z2 g0 n0 g1 n1 g2 n2 ga kx y l1) [])
theorem Asc1_ok {z0 z1 z2 : List Int} {g0 n0 g1 n1 g2 n2 ga : Nat} {kx : List Int} {y : List Int} {l1 l2 : Nat} {o r : Nat} (h : allP []) : Ok (Asc1 z0 z1 z2 g0 n0 g1 n1 g2 n2 ga kx y l1 l2 o r) := Ok.dem (fl := []) (by kernel_rfl) (by kernel_rfl) (by kernel_rfl) h
theorem Asc1_ex {z0 z1 z2 : List Int} {g0 n0 g1 n1 g2 n2 ga : Nat} {kx : List Int} {y : List Int} {l1 l2 : Nat} {o r : Nat} : (Asc1 z0 z1 z2 g0 n0 g1 n1 g2 n2 ga kx y l1 l2 o r).ex = .normal := by kernel_rfl
theorem Asc1_fm {z0 z1 z2 : List Int} {g0 n0 g1 n1 g2 n2 ga : Nat} {kx : List Int} {y : List Int} {l1 l2 : Nat} {o r : Nat} : (Asc1 z0 z1 z2 g0 n0 g1 n1 g2 n2 ga kx y l1 l2 o r).fm = [(2, .var 8 0), (5, .slice 1 2 g1 o r (some r))] := by kernel_rfl
theorem Asc1_tab {z0 z1 z2 : List Int} {g0 n0 g1 n1 g2 n2 ga : Nat} {kx : List Int} {y : List Int} {l1 l2 : Nat} {o r : Nat} : (Asc1 z0 z1 z2 g0 n0 g1 n1 g2 n2 ga kx y l1 l2 o r).tab = TNc1 z0 z1 z2 g0 n0 g1 n1 g2 n2 ga kx y l1 := by kernel_rfl
noncomputable def Dfc1 (z0 z1 z2 : List Int) (g0 n0 g1 n1 g2 n2 ga : Nat) (kx : List Int) (y : List Int) (l1 l2 : Nat) (o : Nat) : Out := drawRun eGh (ops79.toList.take 12) 30 [(2, .var 8 0), (5, .slice 1 2 g1 o 16 (some 16))] (TNc1 z0 z1 z2 g0 n0 g1 n1 g2 n2 ga kx y l1) [some true]
theorem Dfc1_ok {z0 z1 z2 : List Int} {g0 n0 g1 n1 g2 n2 ga : Nat} {kx : List Int} {y : List Int} {l1 l2 : Nat} {o : Nat} (h : allP [.eqN g1 g1, .eqN g1 g1, .eqN g1 g1, .eqN g1 g1, .eqN g1 g1, .eqN g1 g1, .leN (addO o 0 + 16) z1.length, .p (Bytes z1)]) : Ok (Dfc1 z0 z1 z2 g0 n0 g1 n1 g2 n2 ga kx y l1 l2 o) := Ok.dem (fl := bitsF 29 135649502) (by kernel_rfl) (by kernel_rfl) (by kernel_rfl) h
theorem Dfc1_fm {z0 z1 z2 : List Int} {g0 n0 g1 n1 g2 n2 ga : Nat} {kx : List Int} {y : List Int} {l1 l2 : Nat} {o : Nat} : (Dfc1 z0 z1 z2 g0 n0 g1 n1 g2 n2 ga kx y l1 l2 o).fm = [(15, .func (Fn.yield l1) [] []), (16, .slice 1 2 g1 o 16 (some 16)), (17, .slice 1 2 g1 o 16 (some 16)), (18, .int .i64 16), (19, .slice 1 2 g1 o 16 (some 16)), (20, .int .i64 16), (21, .slice 1 2 g1 (addO o 0) 16 (some
 16)), (22, .slice 1 2 g1 o 16 (some 16)), (23, .int .i64 16), (24, .int .i64 0), (25, .slice 1 2 g1 (addO o 0) 16 (some 16)), (26, .ints .u64 (gwLaw (subLaw z1 (addO o 0) 16))), (2, .var 8 0), (5, .slice 1 2 g1 o 16 (some 16))] := by kernel_rfl
theorem Dfc1_tab {z0 z1 z2 : List Int} {g0 n0 g1 n1 g2 n2 ga : Nat} {kx : List Int} {y : List Int} {l1 l2 : Nat} {o : Nat} : (Dfc1 z0 z1 z2 g0 n0 g1 n1 g2 n2 ga kx y l1 l2 o).tab = TNc1 z0 z1 z2 g0 n0 g1 n1 g2 n2 ga kx y l1 := by kernel_rfl
noncomputable def Dpc1 (z0 z1 z2 : List Int) (g0 n0 g1 n1 g2 n2 ga : Nat) (kx : List Int) (y : List Int) (l1 l2 : Nat) (o r : Nat) : Out := drawRun eGh (ops79.toList.take 12) 30 [(2, .var 8 0), (5, .slice 1 2 g1 o r (some r))] (TNc1 z0 z1 z2 g0 n0 g1 n1 g2 n2 ga kx y l1) [some false]
theorem Dpc1_ok {z0 z1 z2 : List Int} {g0 n0 g1 n1 g2 n2 ga : Nat} {kx : List Int} {y : List Int} {l1 l2 : Nat} {o r : Nat} (h : allP [.eqN g1 g1, .eqN g1 g1, .leI 0 (↑r : Int), .leI 0 (↑r : Int), .eqN g1 g1, .leN 0 r, .leN r r, .leN r r, .eqN g1 g1, .rng (-9223372036854775808) (16 - (↑r : Int)) 9223372036854775807, .eqN g1 g1, .leN (addO o 0 + r) z1.length, .p (r < addO r (16 - (↑r : Int)).toNat ∨
 r = 0 ∧ r = 0), .leN (addO r (16 - (↑r : Int)).toNat) 140737488355328, .leI 0 (16 - (↑r : Int)), .leI (16 - (↑r : Int)) 9223372036854775807, .leN (16 - (↑r : Int)).toNat 281474976710656, .leN 16 (List.take r (dropO (addO o 0) z1) ++ List.replicate (16 - (↑r : Int)).toNat 0).length, .p (Bytes (List.take r (dropO (addO o 0) z1) ++ List.replicate (16 - (↑r : Int)).toNat 0)), .eqN (addO r (16 - (↑r :
 Int)).toNat) 16]) : Ok (Dpc1 z0 z1 z2 g0 n0 g1 n1 g2 n2 ga kx y l1 l2 o r) := Ok.dem (fl := bitsF 35 335544542) (by kernel_rfl) (by kernel_rfl) (by kernel_rfl) h
theorem Dpc1_fm {z0 z1 z2 : List Int} {g0 n0 g1 n1 g2 n2 ga : Nat} {kx : List Int} {y : List Int} {l1 l2 : Nat} {o r : Nat} : (Dpc1 z0 z1 z2 g0 n0 g1 n1 g2 n2 ga kx y l1 l2 o r).fm = [(15, .func (Fn.yield l1) [] []), (16, .slice 1 2 g1 o r (some r)), (17, .slice 1 2 g1 o r (some r)), (18, .int .i64 (↑r : Int)), (19, .slice 1 2 g1 o r (some r)), (20, .int .i64 (↑r : Int)), (21, .slice 1 2 g1 (addO o
 0) r (some r)), (22, .slice 1 2 g1 o r (some r)), (23, .int .i64 (↑r : Int)), (24, .int .i64 (16 - (↑r : Int))), (25, .slice 1 11 0 0 (addO r (16 - (↑r : Int)).toNat) none), (26, .ints .u64 (gwLaw (subLaw (List.take r (dropO (addO o 0) z1) ++ List.replicate (16 - (↑r : Int)).toNat 0) 0 16))), (2, .var 8 0), (5, .slice 1 2 g1 o r (some r))] := by kernel_rfl
theorem Dpc1_tab {z0 z1 z2 : List Int} {g0 n0 g1 n1 g2 n2 ga : Nat} {kx : List Int} {y : List Int} {l1 l2 : Nat} {o r : Nat} : (Dpc1 z0 z1 z2 g0 n0 g1 n1 g2 n2 ga kx y l1 l2 o r).tab = TQc1 z0 z1 z2 g0 n0 g1 n1 g2 n2 ga kx y l1 ((List.take r (dropO (addO o 0) z1) ++ List.replicate (16 - (↑r : Int)).toNat 0)) := by kernel_rfl
noncomputable def Rbc1 (z0 z1 z2 : List Int) (g0 n0 g1 n1 g2 n2 ga : Nat) (kx : List Int) (y : List Int) (l1 l2 : Nat) (i : Int) : Out := trim 11 11 [0,1,2,4] (run eGh 31 ⟨11, []⟩ 400 r81 [(0, .func (.yield l2) [] []), (1, .var 9 0), (2, .var 10 0), (4, .int .i64 i)] (TNc1 z0 z1 z2 g0 n0 g1 n1 g2 n2 ga kx y l1) [])
theorem Rbc1_ok {z0 z1 z2 : List Int} {g0 n0 g1 n1 g2 n2 ga : Nat} {kx : List Int} {y : List Int} {l1 l2 : Nat} {i : Int} (h : allP [.rng (-9223372036854775808) (i + 16) 9223372036854775807]) : Ok (Rbc1 z0 z1 z2 g0 n0 g1 n1 g2 n2 ga kx y l1 l2 i) := Ok.dem (fl := [true, true, false]) (by kernel_rfl) (by kernel_rfl) (by kernel_rfl) h
theorem Rbc1_ex {z0 z1 z2 : List Int} {g0 n0 g1 n1 g2 n2 ga : Nat} {kx : List Int} {y : List Int} {l1 l2 : Nat} {i : Int} : (Rbc1 z0 z1 z2 g0 n0 g1 n1 g2 n2 ga kx y l1 l2 i).ex = .normal := by kernel_rfl
theorem Rbc1_fm {z0 z1 z2 : List Int} {g0 n0 g1 n1 g2 n2 ga : Nat} {kx : List Int} {y : List Int} {l1 l2 : Nat} {i : Int} : (Rbc1 z0 z1 z2 g0 n0 g1 n1 g2 n2 ga kx y l1 l2 i).fm = [(0, .func (Fn.yield l2) [] []), (1, .var 9 0), (2, .var 10 0), (4, .int .i64 (i + 16))] := by kernel_rfl
theorem Rbc1_tab {z0 z1 z2 : List Int} {g0 n0 g1 n1 g2 n2 ga : Nat} {kx : List Int} {y : List Int} {l1 l2 : Nat} {i : Int} : (Rbc1 z0 z1 z2 g0 n0 g1 n1 g2 n2 ga kx y l1 l2 i).tab = TNc1 z0 z1 z2 g0 n0 g1 n1 g2 n2 ga kx y l1 := by kernel_rfl
noncomputable def Rrc1 (z0 z1 z2 : List Int) (g0 n0 g1 n1 g2 n2 ga : Nat) (kx : List Int) (y : List Int) (l1 : Nat) : Out := trim 9 9 [1,2,6,7,8] (run eGh 30 ⟨9, []⟩ 400 r79 [(1, .var 7 0), (2, .var 8 0), (6, .slice 1 0 ga 0 3 (some 3)), (7, .int .i64 3), (8, .int .i64 1), (13, .func (.func 81) [] [.var 9 0, .var 10 0])] (TNc1 z0 z1 z2 g0 n0 g1 n1 g2 n2 ga kx y l1) [])
theorem Rrc1_ok {z0 z1 z2 : List Int} {g0 n0 g1 n1 g2 n2 ga : Nat} {kx : List Int} {y : List Int} {l1 : Nat} (h : allP []) : Ok (Rrc1 z0 z1 z2 g0 n0 g1 n1 g2 n2 ga kx y l1) := Ok.dem (fl := [true]) (by kernel_rfl) (by kernel_rfl) (by kernel_rfl) h
theorem Rrc1_ex {z0 z1 z2 : List Int} {g0 n0 g1 n1 g2 n2 ga : Nat} {kx : List Int} {y : List Int} {l1 : Nat} : (Rrc1 z0 z1 z2 g0 n0 g1 n1 g2 n2 ga kx y l1).ex = .normal := by kernel_rfl
theorem Rrc1_fm {z0 z1 z2 : List Int} {g0 n0 g1 n1 g2 n2 ga : Nat} {kx : List Int} {y : List Int} {l1 : Nat} : (Rrc1 z0 z1 z2 g0 n0 g1 n1 g2 n2 ga kx y l1).fm = [(1, .var 7 0), (2, .var 8 0), (6, .slice 1 0 ga 0 3 (some 3)), (7, .int .i64 3), (8, .int .i64 2)] := by kernel_rfl
theorem Rrc1_tab {z0 z1 z2 : List Int} {g0 n0 g1 n1 g2 n2 ga : Nat} {kx : List Int} {y : List Int} {l1 : Nat} : (Rrc1 z0 z1 z2 g0 n0 g1 n1 g2 n2 ga kx y l1).tab = TPc z0 z1 z2 g0 n0 g1 n1 g2 n2 ga kx y l1 := by kernel_rfl
noncomputable def A6fc1 (z0 z1 z2 : List Int) (g0 n0 g1 n1 g2 n2 ga : Nat) (kx : List Int) (y : List Int) (l1 : Nat) (b : List Int) : Out := trim 11 12 [2,5,6] (run eGh 16 ⟨11, []⟩ 400 as63 ((9, .ints .u64 b) :: [(2, .var 4 0), (4, .var 5 0), (5, .var 6 0), (8, .func (.func 79) [] [.var 7 0])]) (TNc1 z0 z1 z2 g0 n0 g1 n1 g2 n2 ga kx y l1) [])
theorem A6fc1_ok {z0 z1 z2 : List Int} {g0 n0 g1 n1 g2 n2 ga : Nat} {kx : List Int} {y : List Int} {l1 : Nat} {b : List Int} (h : allP [.eqN b.length 2]) : Ok (A6fc1 z0 z1 z2 g0 n0 g1 n1 g2 n2 ga kx y l1 b) := Ok.dem (fl := [true, false, true, true]) (by kernel_rfl) (by kernel_rfl) (by kernel_rfl) h
theorem A6fc1_ex {z0 z1 z2 : List Int} {g0 n0 g1 n1 g2 n2 ga : Nat} {kx : List Int} {y : List Int} {l1 : Nat} {b : List Int} : (A6fc1 z0 z1 z2 g0 n0 g1 n1 g2 n2 ga kx y l1 b).ex = .normal := by kernel_rfl
theorem A6fc1_fm {z0 z1 z2 : List Int} {g0 n0 g1 n1 g2 n2 ga : Nat} {kx : List Int} {y : List Int} {l1 : Nat} {b : List Int} : (A6fc1 z0 z1 z2 g0 n0 g1 n1 g2 n2 ga kx y l1 b).fm = [(2, .var 4 0), (5, .var 6 0), (6, .var 11 0)] := by kernel_rfl
theorem A6fc1_tab {z0 z1 z2 : List Int} {g0 n0 g1 n1 g2 n2 ga : Nat} {kx : List Int} {y : List Int} {l1 : Nat} {b : List Int} : (A6fc1 z0 z1 z2 g0 n0 g1 n1 g2 n2 ga kx y l1 b).tab = TUc1 z0 z1 z2 g0 n0 g1 n1 g2 n2 ga kx y l1 b := by kernel_rfl
noncomputable def B6fc1 (z0 z1 z2 : List Int) (g0 n0 g1 n1 g2 n2 ga : Nat) (kx : List Int) (y : List Int) (l1 : Nat) (b : List Int) : Out := trim 11 11 [] (run eGh 16 ⟨11, []⟩ 400 bd63 [(2, .var 4 0), (5, .var 6 0), (6, .var 11 0)] (TUc1 z0 z1 z2 g0 n0 g1 n1 g2 n2 ga kx y l1 b) [])
theorem B6fc1_ok {z0 z1 z2 : List Int} {g0 n0 g1 n1 g2 n2 ga : Nat} {kx : List Int} {y : List Int} {l1 : Nat} {b : List Int} (h : allP [.eqN y.length 2, .eqN b.length 2, .p (WpLaw y), .p (WpLaw b), .eqN kx.length 2, .eqN kx.length 2, .p (WpLaw (xwLaw y b)), .p (WpLaw kx), .eqN y.length 2]) : Ok (B6fc1 z0 z1 z2 g0 n0 g1 n1 g2 n2 ga kx y l1 b) := Ok.dem (fl := bitsF 25 11539466) (by kernel_rfl) (by
 kernel_rfl) (by kernel_rfl) h
theorem B6fc1_ex {z0 z1 z2 : List Int} {g0 n0 g1 n1 g2 n2 ga : Nat} {kx : List Int} {y : List Int} {l1 : Nat} {b : List Int} : (B6fc1 z0 z1 z2 g0 n0 g1 n1 g2 n2 ga kx y l1 b).ex = .normal := by kernel_rfl
theorem B6fc1_fm {z0 z1 z2 : List Int} {g0 n0 g1 n1 g2 n2 ga : Nat} {kx : List Int} {y : List Int} {l1 : Nat} {b : List Int} : (B6fc1 z0 z1 z2 g0 n0 g1 n1 g2 n2 ga kx y l1 b).fm = [] := by kernel_rfl
theorem B6fc1_tab {z0 z1 z2 : List Int} {g0 n0 g1 n1 g2 n2 ga : Nat} {kx : List Int} {y : List Int} {l1 : Nat} {b : List Int} : (B6fc1 z0 z1 z2 g0 n0 g1 n1 g2 n2 ga kx y l1 b).tab = TNc1 z0 z1 z2 g0 n0 g1 n1 g2 n2 ga kx ((mwLaw (xwLaw y b) kx)) l1 := by kernel_rfl
noncomputable def A6pc1 (z0 z1 z2 : List Int) (g0 n0 g1 n1 g2 n2 ga : Nat) (kx : List Int) (y : List Int) (l1 : Nat) (x : List Int) (b : List Int) : Out := trim 12 13 [2,5,6] (run eGh 16 ⟨12, []⟩ 400 as63 ((9, .ints .u64 b) :: [(2, .var 4 0), (4, .var 5 0), (5, .var 6 0), (8, .func (.func 79) [] [.var 7 0])]) (TQc1 z0 z1 z2 g0 n0 g1 n1 g2 n2 ga kx y l1 x) [])
theorem A6pc1_ok {z0 z1 z2 : List Int} {g0 n0 g1 n1 g2 n2 ga : Nat} {kx : List Int} {y : List Int} {l1 : Nat} {x : List Int} {b : List Int} (h : allP [.eqN b.length 2]) : Ok (A6pc1 z0 z1 z2 g0 n0 g1 n1 g2 n2 ga kx y l1 x b) := Ok.dem (fl := [true, false, true, true]) (by kernel_rfl) (by kernel_rfl) (by kernel_rfl) h
theorem A6pc1_ex {z0 z1 z2 : List Int} {g0 n0 g1 n1 g2 n2 ga : Nat} {kx : List Int} {y : List Int} {l1 : Nat} {x : List Int} {b : List Int} : (A6pc1 z0 z1 z2 g0 n0 g1 n1 g2 n2 ga kx y l1 x b).ex = .normal := by kernel_rfl
theorem A6pc1_fm {z0 z1 z2 : List Int} {g0 n0 g1 n1 g2 n2 ga : Nat} {kx : List Int} {y : List Int} {l1 : Nat} {x : List Int} {b : List Int} : (A6pc1 z0 z1 z2 g0 n0 g1 n1 g2 n2 ga kx y l1 x b).fm = [(2, .var 4 0), (5, .var 6 0), (6, .var 12 0)] := by kernel_rfl
theorem A6pc1_tab {z0 z1 z2 : List Int} {g0 n0 g1 n1 g2 n2 ga : Nat} {kx : List Int} {y : List Int} {l1 : Nat} {x : List Int} {b : List Int} : (A6pc1 z0 z1 z2 g0 n0 g1 n1 g2 n2 ga kx y l1 x b).tab = TVc1 z0 z1 z2 g0 n0 g1 n1 g2 n2 ga kx y l1 x b := by kernel_rfl
noncomputable def B6pc1 (z0 z1 z2 : List Int) (g0 n0 g1 n1 g2 n2 ga : Nat) (kx : List Int) (y : List Int) (l1 : Nat) (x : List Int) (b : List Int) : Out := trim 12 12 [] (run eGh 16 ⟨12, []⟩ 400 bd63 [(2, .var 4 0), (5, .var 6 0), (6, .var 12 0)] (TVc1 z0 z1 z2 g0 n0 g1 n1 g2 n2 ga kx y l1 x b) [])
theorem B6pc1_ok {z0 z1 z2 : List Int} {g0 n0 g1 n1 g2 n2 ga : Nat} {kx : List Int} {y : List Int} {l1 : Nat} {x : List Int} {b : List Int} (h : allP [.eqN y.length 2, .eqN b.length 2, .p (WpLaw y), .p (WpLaw b), .eqN kx.length 2, .eqN kx.length 2, .p (WpLaw (xwLaw y b)), .p (WpLaw kx), .eqN y.length 2]) : Ok (B6pc1 z0 z1 z2 g0 n0 g1 n1 g2 n2 ga kx y l1 x b) := Ok.dem (fl := bitsF 25 11539466) (by
 kernel_rfl) (by kernel_rfl) (by kernel_rfl) h
theorem B6pc1_ex {z0 z1 z2 : List Int} {g0 n0 g1 n1 g2 n2 ga : Nat} {kx : List Int} {y : List Int} {l1 : Nat} {x : List Int} {b : List Int} : (B6pc1 z0 z1 z2 g0 n0 g1 n1 g2 n2 ga kx y l1 x b).ex = .normal := by kernel_rfl
theorem B6pc1_fm {z0 z1 z2 : List Int} {g0 n0 g1 n1 g2 n2 ga : Nat} {kx : List Int} {y : List Int} {l1 : Nat} {x : List Int} {b : List Int} : (B6pc1 z0 z1 z2 g0 n0 g1 n1 g2 n2 ga kx y l1 x b).fm = [] := by kernel_rfl
theorem B6pc1_tab {z0 z1 z2 : List Int} {g0 n0 g1 n1 g2 n2 ga : Nat} {kx : List Int} {y : List Int} {l1 : Nat} {x : List Int} {b : List Int} : (B6pc1 z0 z1 z2 g0 n0 g1 n1 g2 n2 ga kx y l1 x b).tab = TQc1 z0 z1 z2 g0 n0 g1 n1 g2 n2 ga kx ((mwLaw (xwLaw y b) kx)) l1 x := by kernel_rfl
/-! text 2 of 3 -/
noncomputable def Hyc2 (z0 z1 z2 : List Int) (g0 n0 g1 n1 g2 n2 ga : Nat) (kx : List Int) (y : List Int) (l1 l2 : Nat) (i : Int) : Out := trim 11 11 [0,1,2,4] (run eGh 31 ⟨11, []⟩ 400 hd81 [(0, .func (.yield l2) [] []), (1, .var 9 0), (2, .var 10 0), (4, .int .i64 i)] (TNc2 z0 z1 z2 g0 n0 g1 n1 g2 n2 ga kx y l1) [some true])
theorem Hyc2_ok {z0 z1 z2 : List Int} {g0 n0 g1 n1 g2 n2 ga : Nat} {kx : List Int} {y : List Int} {l1 l2 : Nat} {i : Int} (h : allP [.eqN g2 g2, .p (decide (i < (↑n2 : Int)) = true)]) : Ok (Hyc2 z0 z1 z2 g0 n0 g1 n1 g2 n2 ga kx y l1 l2 i) := Ok.dem (fl := [true, true, false, false]) (by kernel_rfl) (by kernel_rfl) (by kernel_rfl) h
theorem Hyc2_ex {z0 z1 z2 : List Int} {g0 n0 g1 n1 g2 n2 ga : Nat} {kx : List Int} {y : List Int} {l1 l2 : Nat} {i : Int} : (Hyc2 z0 z1 z2 g0 n0 g1 n1 g2 n2 ga kx y l1 l2 i).ex = .normal := by kernel_rfl
theorem Hyc2_fm {z0 z1 z2 : List Int} {g0 n0 g1 n1 g2 n2 ga : Nat} {kx : List Int} {y : List Int} {l1 l2 : Nat} {i : Int} : (Hyc2 z0 z1 z2 g0 n0 g1 n1 g2 n2 ga kx y l1 l2 i).fm = [(0, .func (Fn.yield l2) [] []), (1, .var 9 0), (2, .var 10 0), (4, .int .i64 i)] := by kernel_rfl
theorem Hyc2_tab {z0 z1 z2 : List Int} {g0 n0 g1 n1 g2 n2 ga : Nat} {kx : List Int} {y : List Int} {l1 l2 : Nat} {i : Int} : (Hyc2 z0 z1 z2 g0 n0 g1 n1 g2 n2 ga kx y l1 l2 i).tab = TNc2 z0 z1 z2 g0 n0 g1 n1 g2 n2 ga kx y l1 := by kernel_rfl
noncomputable def Hnc2 (z0 z1 z2 : List Int) (g0 n0 g1 n1 g2 n2 ga : Nat) (kx : List Int) (y : List Int) (l1 l2 : Nat) (i : Int) : Out := trim 11 11 [] (run eGh 31 ⟨11, []⟩ 400 hd81 [(0, .func (.yield l2) [] []), (1, .var 9 0), (2, .var 10 0), (4, .int .i64 i)] (TNc2 z0 z1 z2 g0 n0 g1 n1 g2 n2 ga kx y l1) [some false])
theorem Hnc2_ok {z0 z1 z2 : List Int} {g0 n0 g1 n1 g2 n2 ga : Nat} {kx : List Int} {y : List Int} {l1 l2 : Nat} {i : Int} (h : allP [.eqN g2 g2, .p (decide (i < (↑n2 : Int)) = false)]) : Ok (Hnc2 z0 z1 z2 g0 n0 g1 n1 g2 n2 ga kx y l1 l2 i) := Ok.dem (fl := [true, true, false, false]) (by kernel_rfl) (by kernel_rfl) (by kernel_rfl) h
theorem Hnc2_ex {z0 z1 z2 : List Int} {g0 n0 g1 n1 g2 n2 ga : Nat} {kx : List Int} {y : List Int} {l1 l2 : Nat} {i : Int} : (Hnc2 z0 z1 z2 g0 n0 g1 n1 g2 n2 ga kx y l1 l2 i).ex = .exit 0 := by kernel_rfl
theorem Hnc2_fm {z0 z1 z2 : List Int} {g0 n0 g1 n1 g2 n2 ga : Nat} {kx : List Int} {y : List Int} {l1 l2 : Nat} {i : Int} : (Hnc2 z0 z1 z2 g0 n0 g1 n1 g2 n2 ga kx y l1 l2 i).fm = [] := by kernel_rfl
theorem Hnc2_tab {z0 z1 z2 : List Int} {g0 n0 g1 n1 g2 n2 ga : Nat} {kx : List Int} {y : List Int} {l1 l2 : Nat} {i : Int} : (Hnc2 z0 z1 z2 g0 n0 g1 n1 g2 n2 ga kx y l1 l2 i).tab = TNc2 z0 z1 z2 g0 n0 g1 n1 g2 n2 ga kx y l1 := by kernel_rfl
noncomputable def Msc2 (z0 z1 z2 : List Int) (g0 n0 g1 n1 g2 n2 ga : Nat) (kx : List Int) (y : List Int) (l1 l2 : Nat) (i : Int) : Out := trim 11 11 [0,1,2,4,5] (run eGh 31 ⟨11, []⟩ 400 m81 [(0, .func (.yield l2) [] []), (1, .var 9 0), (2, .var 10 0), (4, .int .i64 i)] (TNc2 z0 z1 z2 g0 n0 g1 n1 g2 n2 ga kx y l1) [])
theorem Msc2_ok {z0 z1 z2 : List Int} {g0 n0 g1 n1 g2 n2 ga : Nat} {kx : List Int} {y : List Int} {l1 l2 : Nat} {i : Int} (h : allP [.leI 0 i, .eqN g2 g2, .leN i.toNat n2, .eqN g2 g2]) : Ok (Msc2 z0 z1 z2 g0 n0 g1 n1 g2 n2 ga kx y l1 l2 i) := Ok.dem (fl := [false, true, true, true, true, false, false, false, false]) (by kernel_rfl) (by kernel_rfl) (by kernel_rfl) h
theorem Msc2_ex {z0 z1 z2 : List Int} {g0 n0 g1 n1 g2 n2 ga : Nat} {kx : List Int} {y : List Int} {l1 l2 : Nat} {i : Int} : (Msc2 z0 z1 z2 g0 n0 g1 n1 g2 n2 ga kx y l1 l2 i).ex = .normal := by kernel_rfl
theorem Msc2_fm {z0 z1 z2 : List Int} {g0 n0 g1 n1 g2 n2 ga : Nat} {kx : List Int} {y : List Int} {l1 l2 : Nat} {i : Int} : (Msc2 z0 z1 z2 g0 n0 g1 n1 g2 n2 ga kx y l1 l2 i).fm = [(0, .func (Fn.yield l2) [] []), (1, .var 9 0), (2, .var 10 0), (4, .int .i64 i), (5, .int .i64 (if (↑(subO n2 i.toNat) : Int) < 16 then (↑(subO n2 i.toNat) : Int) else 16))] := by kernel_rfl
theorem Msc2_tab {z0 z1 z2 : List Int} {g0 n0 g1 n1 g2 n2 ga : Nat} {kx : List Int} {y : List Int} {l1 l2 : Nat} {i : Int} : (Msc2 z0 z1 z2 g0 n0 g1 n1 g2 n2 ga kx y l1 l2 i).tab = TNc2 z0 z1 z2 g0 n0 g1 n1 g2 n2 ga kx y l1 := by kernel_rfl
noncomputable def Yac2 (z0 z1 z2 : List Int) (g0 n0 g1 n1 g2 n2 ga : Nat) (kx : List Int) (y : List Int) (l1 l2 : Nat) (i r : Int) : Out := runOps eGh ops81.toList 31 (ops81.toList.take 10) ([(0, .func (.yield l2) [] []), (1, .var 9 0), (2, .var 10 0), (4, .int .i64 i)] ++ [(5, .int .i64 r)]) (((TNc2 z0 z1 z2 g0 n0 g1 n1 g2 n2 ga kx y l1) : Tab) ++ holes (cntA eGh (ops81.toList.take 10))) ((TNc2 z0 z1 z2 g0 n0 g1 n1 g2 n2 ga kx y l1) : Tab).length []
theorem Yac2_ok {z0 z1 z2 : List Int} {g0 n0 g1 n1 g2 n2 ga : Nat} {kx : List Int} {y : List Int} {l1 l2 : Nat} {i r : Int} (h : allP [.rng (-9223372036854775808) (i + r) 9223372036854775807, .rng (-9223372036854775808) (i + r) 9223372036854775807, .leI 0 i, .leI 0 (i + r), .leI 0 (i + r), .eqN g2 g2, .leN i.toNat (i + r).toNat, .leN (i + r).toNat (i + r).toNat, .orN (i + r).toNat n2 (0 + (i +
 r).toNat) z2.length]) : Ok (Yac2 z0 z1 z2 g0 n0 g1 n1 g2 n2 ga kx y l1 l2 i r) := Ok.dem (fl := [true, true, false, false, false, false, false, false, false, false, false]) (by kernel_rfl) (by kernel_rfl) (by kernel_rfl) h
theorem Yac2_fm {z0 z1 z2 : List Int} {g0 n0 g1 n1 g2 n2 ga : Nat} {kx : List Int} {y : List Int} {l1 l2 : Nat} {i r : Int} : (Yac2 z0 z1 z2 g0 n0 g1 n1 g2 n2 ga kx y l1 l2 i r).fm = [(28, .slice 1 3 g2 i.toNat (subO (i + r).toNat i.toNat) (some (subO (i + r).toNat i.toNat))), (27, .int .i64 (i + r)), (26, .int .i64 r), (25, .int .i64 i), (24, .int .i64 (i + r)), (23, .int .i64 r), (22, .int .i64
 i), (21, .int .i64 i), (20, .slice 1 3 g2 0 n2 none), (19, .func (Fn.yield l2) [] []), (0, .func (Fn.yield l2) [] []), (1, .var 9 0), (2, .var 10 0), (4, .int .i64 i), (5, .int .i64 r)] := by kernel_rfl
theorem Yac2_tab {z0 z1 z2 : List Int} {g0 n0 g1 n1 g2 n2 ga : Nat} {kx : List Int} {y : List Int} {l1 l2 : Nat} {i r : Int} : (Yac2 z0 z1 z2 g0 n0 g1 n1 g2 n2 ga kx y l1 l2 i r).tab = TNc2 z0 z1 z2 g0 n0 g1 n1 g2 n2 ga kx y l1 := by kernel_rfl
noncomputable def Asc2 (z0 z1 z2 : List Int) (g0 n0 g1 n1 g2 n2 ga : Nat) (kx : List Int) (y : List Int) (l1 l2 : Nat) (o r : Nat) : Out := trim 11 11 [2,5] (run eGh 30 ⟨11, []⟩ 400 as79 ((14, .slice 1 3 g2 o r (some r)) :: [(1, .var 7 0), (2, .var 8 0), (6, .slice 1 0 ga 0 3 (some 3)), (7, .int .i64 3), (8, .int .i64 2), (13, .func (.func 81) [] [.var 9 0, .var 10 0])]) (TNc2 z0 z1 z2 g0 n0 g1 n1 g2 n2 ga kx y l1) [])
theorem Asc2_ok {z0 z1 z2 : List Int} {g0 n0 g1 n1 g2 n2 ga : Nat} {kx : List Int} {y : List Int} {l1 l2 : Nat} {o r : Nat} (h : allP []) : Ok (Asc2 z0 z1 z2 g0 n0 g1 n1 g2 n2 ga kx y l1 l2 o r) := Ok.dem (fl := []) (by kernel_rfl) (by kernel_rfl) (by kernel_rfl) h
theorem Asc2_ex {z0 z1 z2 : List Int} {g0 n0 g1 n1 g2 n2 ga : Nat} {kx : List Int} {y : List Int} {l1 l2 : Nat} {o r : Nat} : (Asc2 z0 z1 z2 g0 n0 g1 n1 g2 n2 ga kx y l1 l2 o r).ex = .normal := by kernel_rfl
theorem Asc2_fm {z0 z1 z2 : List Int} {g0 n0 g1 n1 g2 n2 ga : Nat} {kx : List Int} {y : List Int} {l1 l2 : Nat} {o r : Nat} : (Asc2 z0 z1 z2 g0 n0 g1 n1 g2 n2 ga kx y l1 l2 o r).fm = [(2, .var 8 0), (5, .slice 1 3 g2 o r (some r))] := by kernel_rfl
theorem Asc2_tab {z0 z1 z2 : List Int} {g0 n0 g1 n1 g2 n2 ga : Nat} {kx : List Int} {y : List Int} {l1 l2 : Nat} {o r : Nat} : (Asc2 z0 z1 z2 g0 n0 g1 n1 g2 n2 ga kx y l1 l2 o r).tab = TNc2 z0 z1 z2 g0 n0 g1 n1 g2 n2 ga kx y l1 := by kernel_rfl
noncomputable def Dfc2 (z0 z1 z2 : List Int) (g0 n0 g1 n1 g2 n2 ga : Nat) (kx : List Int) (y : List Int) (l1 l2 : Nat) (o : Nat) : Out := drawRun eGh (ops79.toList.take 12) 30 [(2, .var 8 0), (5, .slice 1 3 g2 o 16 (some 16))] (TNc2 z0 z1 z2 g0 n0 g1 n1 g2 n2 ga kx y l1) [some true]
theorem Dfc2_ok {z0 z1 z2 : List Int} {g0 n0 g1 n1 g2 n2 ga : Nat} {kx : List Int} {y : List Int} {l1 l2 : Nat} {o : Nat} (h : allP [.eqN g2 g2, .eqN g2 g2, .eqN g2 g2, .eqN g2 g2, .eqN g2 g2, .eqN g2 g2, .leN (addO o 0 + 16) z2.length, .p (Bytes z2)]) : Ok (Dfc2 z0 z1 z2 g0 n0 g1 n1 g2 n2 ga kx y l1 l2 o) := Ok.dem (fl := bitsF 29 135649502) (by kernel_rfl) (by kernel_rfl) (by kernel_rfl) h
theorem Dfc2_fm {z0 z1 z2 : List Int} {g0 n0 g1 n1 g2 n2 ga : Nat} {kx : List Int} {y : List Int} {l1 l2 : Nat} {o : Nat} : (Dfc2 z0 z1 z2 g0 n0 g1 n1 g2 n2 ga kx y l1 l2 o).fm = [(15, .func (Fn.yield l1) [] []), (16, .slice 1 3 g2 o 16 (some 16)), (17, .slice 1 3 g2 o 16 (some 16)), (18, .int .i64 16), (19, .slice 1 3 g2 o 16 (some 16)), (20, .int .i64 16), (21, .slice 1 3 g2 (addO o 0) 16 (some
 16)), (22, .slice 1 3 g2 o 16 (some 16)), (23, .int .i64 16), (24, .int .i64 0), (25, .slice 1 3 g2 (addO o 0) 16 (some 16)), (26, .ints .u64 (gwLaw (subLaw z2 (addO o 0) 16))), (2, .var 8 0), (5, .slice 1 3 g2 o 16 (some 16))] := by kernel_rfl
theorem Dfc2_tab {z0 z1 z2 : List Int} {g0 n0 g1 n1 g2 n2 ga : Nat} {kx : List Int} {y : List Int} {l1 l2 : Nat} {o : Nat} : (Dfc2 z0 z1 z2 g0 n0 g1 n1 g2 n2 ga kx y l1 l2 o).tab = TNc2 z0 z1 z2 g0 n0 g1 n1 g2 n2 ga kx y l1 := by kernel_rfl
noncomputable def Dpc2 (z0 z1 z2 : List Int) (g0 n0 g1 n1 g2 n2 ga : Nat) (kx : List Int) (y : List Int) (l1 l2 : Nat) (o r : Nat) : Out := drawRun eGh (ops79.toList.take 12) 30 [(2, .var 8 0), (5, .slice 1 3 g2 o r (some r))] (TNc2 z0 z1 z2 g0 n0 g1 n1 g2 n2 ga kx y l1) [some false]
theorem Dpc2_ok {z0 z1 z2 : List Int} {g0 n0 g1 n1 g2 n2 ga : Nat} {kx : List Int} {y : List Int} {l1 l2 : Nat} {o r : Nat} (h : allP [.eqN g2 g2, .eqN g2 g2, .leI 0 (↑r : Int), .leI 0 (↑r : Int), .eqN g2 g2, .leN 0 r, .leN r r, .leN r r, .eqN g2 g2, .rng (-9223372036854775808) (16 - (↑r : Int)) 9223372036854775807, .eqN g2 g2, .leN (addO o 0 + r) z2.length, .p (r < addO r (16 - (↑r : Int)).toNat ∨
 r = 0 ∧ r = 0), .leN (addO r (16 - (↑r : Int)).toNat) 140737488355328, .leI 0 (16 - (↑r : Int)), .leI (16 - (↑r : Int)) 9223372036854775807, .leN (16 - (↑r : Int)).toNat 281474976710656, .leN 16 (List.take r (dropO (addO o 0) z2) ++ List.replicate (16 - (↑r : Int)).toNat 0).length, .p (Bytes (List.take r (dropO (addO o 0) z2) ++ List.replicate (16 - (↑r : Int)).toNat 0)), .eqN (addO r (16 - (↑r :
 Int)).toNat) 16]) : Ok (Dpc2 z0 z1 z2 g0 n0 g1 n1 g2 n2 ga kx y l1 l2 o r) := Ok.dem (fl := bitsF 35 335544542) (by kernel_rfl) (by kernel_rfl) (by kernel_rfl) h
theorem Dpc2_fm {z0 z1 z2 : List Int} {g0 n0 g1 n1 g2 n2 ga : Nat} {kx : List Int} {y : List Int} {l1 l2 : Nat} {o r : Nat} : (Dpc2 z0 z1 z2 g0 n0 g1 n1 g2 n2 ga kx y l1 l2 o r).fm = [(15, .func (Fn.yield l1) [] []), (16, .slice 1 3 g2 o r (some r)), (17, .slice 1 3 g2 o r (some r)), (18, .int .i64 (↑r : Int)), (19, .slice 1 3 g2 o r (some r)), (20, .int .i64 (↑r : Int)), (21, .slice 1 3 g2 (addO o
 0) r (some r)), (22, .slice 1 3 g2 o r (some r)), (23, .int .i64 (↑r : Int)), (24, .int .i64 (16 - (↑r : Int))), (25, .slice 1 11 0 0 (addO r (16 - (↑r : Int)).toNat) none), (26, .ints .u64 (gwLaw (subLaw (List.take r (dropO (addO o 0) z2) ++ List.replicate (16 - (↑r : Int)).toNat 0) 0 16))), (2, .var 8 0), (5, .slice 1 3 g2 o r (some r))] := by kernel_rfl
theorem Dpc2_tab {z0 z1 z2 : List Int} {g0 n0 g1 n1 g2 n2 ga : Nat} {kx : List Int} {y : List Int} {l1 l2 : Nat} {o r : Nat} : (Dpc2 z0 z1 z2 g0 n0 g1 n1 g2 n2 ga kx y l1 l2 o r).tab = TQc2 z0 z1 z2 g0 n0 g1 n1 g2 n2 ga kx y l1 ((List.take r (dropO (addO o 0) z2) ++ List.replicate (16 - (↑r : Int)).toNat 0)) := by kernel_rfl
noncomputable def Rbc2 (z0 z1 z2 : List Int) (g0 n0 g1 n1 g2 n2 ga : Nat) (kx : List Int) (y : List Int) (l1 l2 : Nat) (i : Int) : Out := trim 11 11 [0,1,2,4] (run eGh 31 ⟨11, []⟩ 400 r81 [(0, .func (.yield l2) [] []), (1, .var 9 0), (2, .var 10 0), (4, .int .i64 i)] (TNc2 z0 z1 z2 g0 n0 g1 n1 g2 n2 ga kx y l1) [])
theorem Rbc2_ok {z0 z1 z2 : List Int} {g0 n0 g1 n1 g2 n2 ga : Nat} {kx : List Int} {y : List Int} {l1 l2 : Nat} {i : Int} (h : allP [.rng (-9223372036854775808) (i + 16) 9223372036854775807]) : Ok (Rbc2 z0 z1 z2 g0 n0 g1 n1 g2 n2 ga kx y l1 l2 i) := Ok.dem (fl := [true, true, false]) (by kernel_rfl) (by kernel_rfl) (by kernel_rfl) h
theorem Rbc2_ex {z0 z1 z2 : List Int} {g0 n0 g1 n1 g2 n2 ga : Nat} {kx : List Int} {y : List Int} {l1 l2 : Nat} {i : Int} : (Rbc2 z0 z1 z2 g0 n0 g1 n1 g2 n2 ga kx y l1 l2 i).ex = .normal := by kernel_rfl
theorem Rbc2_fm {z0 z1 z2 : List Int} {g0 n0 g1 n1 g2 n2 ga : Nat} {kx : List Int} {y : List Int} {l1 l2 : Nat} {i : Int} : (Rbc2 z0 z1 z2 g0 n0 g1 n1 g2 n2 ga kx y l1 l2 i).fm = [(0, .func (Fn.yield l2) [] []), (1, .var 9 0), (2, .var 10 0), (4, .int .i64 (i + 16))] := by kernel_rfl
theorem Rbc2_tab {z0 z1 z2 : List Int} {g0 n0 g1 n1 g2 n2 ga : Nat} {kx : List Int} {y : List Int} {l1 l2 : Nat} {i : Int} : (Rbc2 z0 z1 z2 g0 n0 g1 n1 g2 n2 ga kx y l1 l2 i).tab = TNc2 z0 z1 z2 g0 n0 g1 n1 g2 n2 ga kx y l1 := by kernel_rfl
noncomputable def Rrc2 (z0 z1 z2 : List Int) (g0 n0 g1 n1 g2 n2 ga : Nat) (kx : List Int) (y : List Int) (l1 : Nat) : Out := trim 9 9 [1,2,6,7,8] (run eGh 30 ⟨9, []⟩ 400 r79 [(1, .var 7 0), (2, .var 8 0), (6, .slice 1 0 ga 0 3 (some 3)), (7, .int .i64 3), (8, .int .i64 2), (13, .func (.func 81) [] [.var 9 0, .var 10 0])] (TNc2 z0 z1 z2 g0 n0 g1 n1 g2 n2 ga kx y l1) [])
theorem Rrc2_ok {z0 z1 z2 : List Int} {g0 n0 g1 n1 g2 n2 ga : Nat} {kx : List Int} {y : List Int} {l1 : Nat} (h : allP []) : Ok (Rrc2 z0 z1 z2 g0 n0 g1 n1 g2 n2 ga kx y l1) := Ok.dem (fl := [true]) (by kernel_rfl) (by kernel_rfl) (by kernel_rfl) h
theorem Rrc2_ex {z0 z1 z2 : List Int} {g0 n0 g1 n1 g2 n2 ga : Nat} {kx : List Int} {y : List Int} {l1 : Nat} : (Rrc2 z0 z1 z2 g0 n0 g1 n1 g2 n2 ga kx y l1).ex = .normal := by kernel_rfl
theorem Rrc2_fm {z0 z1 z2 : List Int} {g0 n0 g1 n1 g2 n2 ga : Nat} {kx : List Int} {y : List Int} {l1 : Nat} : (Rrc2 z0 z1 z2 g0 n0 g1 n1 g2 n2 ga kx y l1).fm = [(1, .var 7 0), (2, .var 8 0), (6, .slice 1 0 ga 0 3 (some 3)), (7, .int .i64 3), (8, .int .i64 3)] := by kernel_rfl
theorem Rrc2_tab {z0 z1 z2 : List Int} {g0 n0 g1 n1 g2 n2 ga : Nat} {kx : List Int} {y : List Int} {l1 : Nat} : (Rrc2 z0 z1 z2 g0 n0 g1 n1 g2 n2 ga kx y l1).tab = TPc z0 z1 z2 g0 n0 g1 n1 g2 n2 ga kx y l1 := by kernel_rfl
noncomputable def A6fc2 (z0 z1 z2 : List Int) (g0 n0 g1 n1 g2 n2 ga : Nat) (kx : List Int) (y : List Int) (l1 : Nat) (b : List Int) : Out := trim 11 12 [2,5,6] (run eGh 16 ⟨11, []⟩ 400 as63 ((9, .ints .u64 b) :: [(2, .var 4 0), (4, .var 5 0), (5, .var 6 0), (8, .func (.func 79) [] [.var 7 0])]) (TNc2 z0 z1 z2 g0 n0 g1 n1 g2 n2 ga kx y l1) [])
theorem A6fc2_ok {z0 z1 z2 : List Int} {g0 n0 g1 n1 g2 n2 ga : Nat} {kx : List Int} {y : List Int} {l1 : Nat} {b : List Int} (h : allP [.eqN b.length 2]) : Ok (A6fc2 z0 z1 z2 g0 n0 g1 n1 g2 n2 ga kx y l1 b) := Ok.dem (fl := [true, false, true, true]) (by kernel_rfl) (by kernel_rfl) (by kernel_rfl) h
theorem A6fc2_ex {z0 z1 z2 : List Int} {g0 n0 g1 n1 g2 n2 ga : Nat} {kx : List Int} {y : List Int} {l1 : Nat} {b : List Int} : (A6fc2 z0 z1 z2 g0 n0 g1 n1 g2 n2 ga kx y l1 b).ex = .normal := by kernel_rfl
theorem A6fc2_fm {z0 z1 z2 : List Int} {g0 n0 g1 n1 g2 n2 ga : Nat} {kx : List Int} {y : List Int} {l1 : Nat} {b : List Int} : (A6fc2 z0 z1 z2 g0 n0 g1 n1 g2 n2 ga kx y l1 b).fm = [(2, .var 4 0), (5, .var 6 0), (6, .var 11 0)] := by kernel_rfl
theorem A6fc2_tab {z0 z1 z2 : List Int} {g0 n0 g1 n1 g2 n2 ga : Nat} {kx : List Int} {y : List Int} {l1 : Nat} {b : List Int} : (A6fc2 z0 z1 z2 g0 n0 g1 n1 g2 n2 ga kx y l1 b).tab = TUc2 z0 z1 z2 g0 n0 g1 n1 g2 n2 ga kx y l1 b := by kernel_rfl
noncomputable def B6fc2 (z0 z1 z2 : List Int) (g0 n0 g1 n1 g2 n2 ga : Nat) (kx : List Int) (y : List Int) (l1 : Nat) (b : List Int) : Out := trim 11 11 [] (run eGh 16 ⟨11, []⟩ 400 bd63 [(2, .var 4 0), (5, .var 6 0), (6, .var 11 0)] (TUc2 z0 z1 z2 g0 n0 g1 n1 g2 n2 ga kx y l1 b) [])
theorem B6fc2_ok {z0 z1 z2 : List Int} {g0 n0 g1 n1 g2 n2 ga : Nat} {kx : List Int} {y : List Int} {l1 : Nat} {b : List Int} (h : allP [.eqN y.length 2, .eqN b.length 2, .p (WpLaw y), .p (WpLaw b), .eqN kx.length 2, .eqN kx.length 2, .p (WpLaw (xwLaw y b)), .p (WpLaw kx), .eqN y.length 2]) : Ok (B6fc2 z0 z1 z2 g0 n0 g1 n1 g2 n2 ga kx y l1 b) := Ok.dem (fl := bitsF 25 11539466) (by kernel_rfl) (by
 kernel_rfl) (by kernel_rfl) h
theorem B6fc2_ex {z0 z1 z2 : List Int} {g0 n0 g1 n1 g2 n2 ga : Nat} {kx : List Int} {y : List Int} {l1 : Nat} {b : List Int} : (B6fc2 z0 z1 z2 g0 n0 g1 n1 g2 n2 ga kx y l1 b).ex = .normal := by kernel_rfl
theorem B6fc2_fm {z0 z1 z2 : List Int} {g0 n0 g1 n1 g2 n2 ga : Nat} {kx : List Int} {y : List Int} {l1 : Nat} {b : List Int} : (B6fc2 z0 z1 z2 g0 n0 g1 n1 g2 n2 ga kx y l1 b).fm = [] := by kernel_rfl
theorem B6fc2_tab {z0 z1 z2 : List Int} {g0 n0 g1 n1 g2 n2 ga : Nat} {kx : List Int} {y : List Int} {l1 : Nat} {b : List Int} : (B6fc2 z0 z1 z2 g0 n0 g1 n1 g2 n2 ga kx y l1 b).tab = TNc2 z0 z1 z2 g0 n0 g1 n1 g2 n2 ga kx ((mwLaw (xwLaw y b) kx)) l1 := by kernel_rfl
noncomputable def A6pc2 (z0 z1 z2 : List Int) (g0 n0 g1 n1 g2 n2 ga : Nat) (kx : List Int) (y : List Int) (l1 : Nat) (x : List Int) (b : List Int) : Out := trim 12 13 [2,5,6] (run eGh 16 ⟨12, []⟩ 400 as63 ((9, .ints .u64 b) :: [(2, .var 4 0), (4, .var 5 0), (5, .var 6 0), (8, .func (.func 79) [] [.var 7 0])]) (TQc2 z0 z1 z2 g0 n0 g1 n1 g2 n2 ga kx y l1 x) [])
theorem A6pc2_ok {z0 z1 z2 : List Int} {g0 n0 g1 n1 g2 n2 ga : Nat} {kx : List Int} {y : List Int} {l1 : Nat} {x : List Int} {b : List Int} (h : allP [.eqN b.length 2]) : Ok (A6pc2 z0 z1 z2 g0 n0 g1 n1 g2 n2 ga kx y l1 x b) := Ok.dem (fl := [true, false, true, true]) (by kernel_rfl) (by kernel_rfl) (by kernel_rfl) h
theorem A6pc2_ex {z0 z1 z2 : List Int} {g0 n0 g1 n1 g2 n2 ga : Nat} {kx : List Int} {y : List Int} {l1 : Nat} {x : List Int} {b : List Int} : (A6pc2 z0 z1 z2 g0 n0 g1 n1 g2 n2 ga kx y l1 x b).ex = .normal := by kernel_rfl
theorem A6pc2_fm {z0 z1 z2 : List Int} {g0 n0 g1 n1 g2 n2 ga : Nat} {kx : List Int} {y : List Int} {l1 : Nat} {x : List Int} {b : List Int} : (A6pc2 z0 z1 z2 g0 n0 g1 n1 g2 n2 ga kx y l1 x b).fm = [(2, .var 4 0), (5, .var 6 0), (6, .var 12 0)] := by kernel_rfl
theorem A6pc2_tab {z0 z1 z2 : List Int} {g0 n0 g1 n1 g2 n2 ga : Nat} {kx : List Int} {y : List Int} {l1 : Nat} {x : List Int} {b : List Int} : (A6pc2 z0 z1 z2 g0 n0 g1 n1 g2 n2 ga kx y l1 x b).tab = TVc2 z0 z1 z2 g0 n0 g1 n1 g2 n2 ga kx y l1 x b := by kernel_rfl
noncomputable def B6pc2 (z0 z1 z2 : List Int) (g0 n0 g1 n1 g2 n2 ga : Nat) (kx : List Int) (y : List Int) (l1 : Nat) (x : List Int) (b : List Int) : Out := trim 12 12 [] (run eGh 16 ⟨12, []⟩ 400 bd63 [(2, .var 4 0), (5, .var 6 0), (6, .var 12 0)] (TVc2 z0 z1 z2 g0 n0 g1 n1 g2 n2 ga kx y l1 x b) [])
theorem B6pc2_ok {z0 z1 z2 : List Int} {g0 n0 g1 n1 g2 n2 ga : Nat} {kx : List Int} {y : List Int} {l1 : Nat} {x : List Int} {b : List Int} (h : allP [.eqN y.length 2, .eqN b.length 2, .p (WpLaw y), .p (WpLaw b), .eqN kx.length 2, .eqN kx.length 2, .p (WpLaw (xwLaw y b)), .p (WpLaw kx), .eqN y.length 2]) : Ok (B6pc2 z0 z1 z2 g0 n0 g1 n1 g2 n2 ga kx y l1 x b) := Ok.dem (fl := bitsF 25 11539466) (by
 kernel_rfl) (by kernel_rfl) (by kernel_rfl) h
theorem B6pc2_ex {z0 z1 z2 : List Int} {g0 n0 g1 n1 g2 n2 ga : Nat} {kx : List Int} {y : List Int} {l1 : Nat} {x : List Int} {b : List Int} : (B6pc2 z0 z1 z2 g0 n0 g1 n1 g2 n2 ga kx y l1 x b).ex = .normal := by kernel_rfl
theorem B6pc2_fm {z0 z1 z2 : List Int} {g0 n0 g1 n1 g2 n2 ga : Nat} {kx : List Int} {y : List Int} {l1 : Nat} {x : List Int} {b : List Int} : (B6pc2 z0 z1 z2 g0 n0 g1 n1 g2 n2 ga kx y l1 x b).fm = [] := by kernel_rfl
theorem B6pc2_tab {z0 z1 z2 : List Int} {g0 n0 g1 n1 g2 n2 ga : Nat} {kx : List Int} {y : List Int} {l1 : Nat} {x : List Int} {b : List Int} : (B6pc2 z0 z1 z2 g0 n0 g1 n1 g2 n2 ga kx y l1 x b).tab = TQc2 z0 z1 z2 g0 n0 g1 n1 g2 n2 ga kx ((mwLaw (xwLaw y b) kx)) l1 x := by kernel_rfl
noncomputable def Sac (z0 z1 z2 : List Int) (g0 n0 g1 n1 g2 n2 ga : Nat) (kx : List Int) (l1 : Nat) : Out := trim 8 9 [1,2] (run eGh 30 ⟨8, []⟩ 400 (fstC (bodyOf f79)) (argF [.func (.yield l1) [] [], .var 7 0] 0) (TBc z0 z1 z2 g0 n0 g1 n1 g2 n2 ga kx [0, 0]) [])
theorem Sac_ok {z0 z1 z2 : List Int} {g0 n0 g1 n1 g2 n2 ga : Nat} {kx : List Int} {l1 : Nat} (h : allP []) : Ok (Sac z0 z1 z2 g0 n0 g1 n1 g2 n2 ga kx l1) := Ok.dem (fl := []) (by kernel_rfl) (by kernel_rfl) (by kernel_rfl) h
theorem Sac_ex {z0 z1 z2 : List Int} {g0 n0 g1 n1 g2 n2 ga : Nat} {kx : List Int} {l1 : Nat} : (Sac z0 z1 z2 g0 n0 g1 n1 g2 n2 ga kx l1).ex = .normal := by kernel_rfl
theorem Sac_fm {z0 z1 z2 : List Int} {g0 n0 g1 n1 g2 n2 ga : Nat} {kx : List Int} {l1 : Nat} : (Sac z0 z1 z2 g0 n0 g1 n1 g2 n2 ga kx l1).fm = [(1, .var 7 0), (2, .var 8 0)] := by kernel_rfl
theorem Sac_tab {z0 z1 z2 : List Int} {g0 n0 g1 n1 g2 n2 ga : Nat} {kx : List Int} {l1 : Nat} : (Sac z0 z1 z2 g0 n0 g1 n1 g2 n2 ga kx l1).tab = TPc z0 z1 z2 g0 n0 g1 n1 g2 n2 ga kx ([0, 0]) l1 := by kernel_rfl
noncomputable def Sbc (z0 z1 z2 : List Int) (g0 n0 g1 n1 g2 n2 ga : Nat) (kx : List Int) (l1 : Nat) : Out := trim 9 9 [1,2,6,7,8] (run eGh 30 ⟨9, []⟩ 400 (fstC (sndC (bodyOf f79))) [(1, .var 7 0), (2, .var 8 0)] (TPc z0 z1 z2 g0 n0 g1 n1 g2 n2 ga kx [0, 0] l1) [])
theorem Sbc_ok {z0 z1 z2 : List Int} {g0 n0 g1 n1 g2 n2 ga : Nat} {kx : List Int} {l1 : Nat} (h : allP [.eqN ga ga]) : Ok (Sbc z0 z1 z2 g0 n0 g1 n1 g2 n2 ga kx l1) := Ok.dem (fl := [true, true, false]) (by kernel_rfl) (by kernel_rfl) (by kernel_rfl) h
theorem Sbc_ex {z0 z1 z2 : List Int} {g0 n0 g1 n1 g2 n2 ga : Nat} {kx : List Int} {l1 : Nat} : (Sbc z0 z1 z2 g0 n0 g1 n1 g2 n2 ga kx l1).ex = .normal := by kernel_rfl
theorem Sbc_fm {z0 z1 z2 : List Int} {g0 n0 g1 n1 g2 n2 ga : Nat} {kx : List Int} {l1 : Nat} : (Sbc z0 z1 z2 g0 n0 g1 n1 g2 n2 ga kx l1).fm = [(1, .var 7 0), (2, .var 8 0), (6, .slice 1 0 ga 0 3 (some 3)), (7, .int .i64 3), (8, .int .i64 0)] := by kernel_rfl
theorem Sbc_tab {z0 z1 z2 : List Int} {g0 n0 g1 n1 g2 n2 ga : Nat} {kx : List Int} {l1 : Nat} : (Sbc z0 z1 z2 g0 n0 g1 n1 g2 n2 ga kx l1).tab = TPc z0 z1 z2 g0 n0 g1 n1 g2 n2 ga kx ([0, 0]) l1 := by kernel_rfl
noncomputable def Zsc0 (z0 z1 z2 : List Int) (g0 n0 g1 n1 g2 n2 ga : Nat) (kx : List Int) (y : List Int) (l1 l2 : Nat) : Out := trim 11 11 [0,1,2,4] (run eGh 31 ⟨11, []⟩ 400 (fstC (bodyOf f81)) (argF [.func (.yield l2) [] [], .var 9 0, .var 10 0] 0) (TNc0 z0 z1 z2 g0 n0 g1 n1 g2 n2 ga kx y l1) [])
theorem Zsc0_ok {z0 z1 z2 : List Int} {g0 n0 g1 n1 g2 n2 ga : Nat} {kx : List Int} {y : List Int} {l1 l2 : Nat} (h : allP []) : Ok (Zsc0 z0 z1 z2 g0 n0 g1 n1 g2 n2 ga kx y l1 l2) := Ok.dem (fl := []) (by kernel_rfl) (by kernel_rfl) (by kernel_rfl) h
theorem Zsc0_ex {z0 z1 z2 : List Int} {g0 n0 g1 n1 g2 n2 ga : Nat} {kx : List Int} {y : List Int} {l1 l2 : Nat} : (Zsc0 z0 z1 z2 g0 n0 g1 n1 g2 n2 ga kx y l1 l2).ex = .normal := by kernel_rfl
theorem Zsc0_fm {z0 z1 z2 : List Int} {g0 n0 g1 n1 g2 n2 ga : Nat} {kx : List Int} {y : List Int} {l1 l2 : Nat} : (Zsc0 z0 z1 z2 g0 n0 g1 n1 g2 n2 ga kx y l1 l2).fm = [(0, .func (Fn.yield l2) [] []), (1, .var 9 0), (2, .var 10 0), (4, .int .i64 0)] := by kernel_rfl
theorem Zsc0_tab {z0 z1 z2 : List Int} {g0 n0 g1 n1 g2 n2 ga : Nat} {kx : List Int} {y : List Int} {l1 l2 : Nat} : (Zsc0 z0 z1 z2 g0 n0 g1 n1 g2 n2 ga kx y l1 l2).tab = TNc0 z0 z1 z2 g0 n0 g1 n1 g2 n2 ga kx y l1 := by kernel_rfl
noncomputable def Hdc0 (z0 z1 z2 : List Int) (g0 n0 g1 n1 g2 n2 ga : Nat) (kx : List Int) (y : List Int) (l1 : Nat) : Out := trim 9 9 [1,2,6,7,8,9] (run eGh 30 ⟨9, []⟩ 400 hd79 [(1, .var 7 0), (2, .var 8 0), (6, .slice 1 0 ga 0 3 (some 3)), (7, .int .i64 3), (8, .int .i64 0)] (TPc z0 z1 z2 g0 n0 g1 n1 g2 n2 ga kx y l1) [none])
theorem Hdc0_ok {z0 z1 z2 : List Int} {g0 n0 g1 n1 g2 n2 ga : Nat} {kx : List Int} {y : List Int} {l1 : Nat} (h : allP []) : Ok (Hdc0 z0 z1 z2 g0 n0 g1 n1 g2 n2 ga kx y l1) := Ok.dem (fl := []) (by kernel_rfl) (by kernel_rfl) (by kernel_rfl) h
theorem Hdc0_ex {z0 z1 z2 : List Int} {g0 n0 g1 n1 g2 n2 ga : Nat} {kx : List Int} {y : List Int} {l1 : Nat} : (Hdc0 z0 z1 z2 g0 n0 g1 n1 g2 n2 ga kx y l1).ex = .normal := by kernel_rfl
theorem Hdc0_fm {z0 z1 z2 : List Int} {g0 n0 g1 n1 g2 n2 ga : Nat} {kx : List Int} {y : List Int} {l1 : Nat} : (Hdc0 z0 z1 z2 g0 n0 g1 n1 g2 n2 ga kx y l1).fm = [(1, .var 7 0), (2, .var 8 0), (6, .slice 1 0 ga 0 3 (some 3)), (7, .int .i64 3), (8, .int .i64 0), (9, .bool true)] := by kernel_rfl
theorem Hdc0_tab {z0 z1 z2 : List Int} {g0 n0 g1 n1 g2 n2 ga : Nat} {kx : List Int} {y : List Int} {l1 : Nat} : (Hdc0 z0 z1 z2 g0 n0 g1 n1 g2 n2 ga kx y l1).tab = TPc z0 z1 z2 g0 n0 g1 n1 g2 n2 ga kx y l1 := by kernel_rfl
noncomputable def Pac0 (z0 z1 z2 : List Int) (g0 n0 g1 n1 g2 n2 ga : Nat) (kx : List Int) (y : List Int) (l1 : Nat) : Out := trim 9 9 [1,2,4,6,7,8] (run eGh 30 ⟨9, []⟩ 400 (fstC x79) [(1, .var 7 0), (2, .var 8 0), (6, .slice 1 0 ga 0 3 (some 3)), (7, .int .i64 3), (8, .int .i64 0)] (TPc z0 z1 z2 g0 n0 g1 n1 g2 n2 ga kx y l1) [])
theorem Pac0_ok {z0 z1 z2 : List Int} {g0 n0 g1 n1 g2 n2 ga : Nat} {kx : List Int} {y : List Int} {l1 : Nat} (h : allP [.eqN ga ga, .eqN ga ga]) : Ok (Pac0 z0 z1 z2 g0 n0 g1 n1 g2 n2 ga kx y l1) := Ok.dem (fl := [false, true, true, false, true]) (by kernel_rfl) (by kernel_rfl) (by kernel_rfl) h
theorem Pac0_ex {z0 z1 z2 : List Int} {g0 n0 g1 n1 g2 n2 ga : Nat} {kx : List Int} {y : List Int} {l1 : Nat} : (Pac0 z0 z1 z2 g0 n0 g1 n1 g2 n2 ga kx y l1).ex = .normal := by kernel_rfl
theorem Pac0_fm {z0 z1 z2 : List Int} {g0 n0 g1 n1 g2 n2 ga : Nat} {kx : List Int} {y : List Int} {l1 : Nat} : (Pac0 z0 z1 z2 g0 n0 g1 n1 g2 n2 ga kx y l1).fm = [(1, .var 7 0), (2, .var 8 0), (4, .slice 1 1 g0 0 n0 none), (6, .slice 1 0 ga 0 3 (some 3)), (7, .int .i64 3), (8, .int .i64 0)] := by kernel_rfl
theorem Pac0_tab {z0 z1 z2 : List Int} {g0 n0 g1 n1 g2 n2 ga : Nat} {kx : List Int} {y : List Int} {l1 : Nat} : (Pac0 z0 z1 z2 g0 n0 g1 n1 g2 n2 ga kx y l1).tab = TPc z0 z1 z2 g0 n0 g1 n1 g2 n2 ga kx y l1 := by kernel_rfl
noncomputable def Pbc0 (z0 z1 z2 : List Int) (g0 n0 g1 n1 g2 n2 ga : Nat) (kx : List Int) (y : List Int) (l1 : Nat) : Out := trim 9 11 [1,2,6,7,8,13] (run eGh 30 ⟨9, []⟩ 400 (fstC (sndC x79)) ((4, .slice 1 1 g0 0 n0 none) :: [(1, .var 7 0), (2, .var 8 0), (6, .slice 1 0 ga 0 3 (some 3)), (7, .int .i64 3), (8, .int .i64 0)]) (TPc z0 z1 z2 g0 n0 g1 n1 g2 n2 ga kx y l1) [])
theorem Pbc0_ok {z0 z1 z2 : List Int} {g0 n0 g1 n1 g2 n2 ga : Nat} {kx : List Int} {y : List Int} {l1 : Nat} (h : allP [.eqN g0 g0]) : Ok (Pbc0 z0 z1 z2 g0 n0 g1 n1 g2 n2 ga kx y l1) := Ok.dem (fl := [false, true, true]) (by kernel_rfl) (by kernel_rfl) (by kernel_rfl) h
theorem Pbc0_ex {z0 z1 z2 : List Int} {g0 n0 g1 n1 g2 n2 ga : Nat} {kx : List Int} {y : List Int} {l1 : Nat} : (Pbc0 z0 z1 z2 g0 n0 g1 n1 g2 n2 ga kx y l1).ex = .normal := by kernel_rfl
theorem Pbc0_fm {z0 z1 z2 : List Int} {g0 n0 g1 n1 g2 n2 ga : Nat} {kx : List Int} {y : List Int} {l1 : Nat} : (Pbc0 z0 z1 z2 g0 n0 g1 n1 g2 n2 ga kx y l1).fm = [(1, .var 7 0), (2, .var 8 0), (6, .slice 1 0 ga 0 3 (some 3)), (7, .int .i64 3), (8, .int .i64 0), (13, .func (Fn.func 81) [] [.var 9 0, .var 10 0])] := by kernel_rfl
theorem Pbc0_tab {z0 z1 z2 : List Int} {g0 n0 g1 n1 g2 n2 ga : Nat} {kx : List Int} {y : List Int} {l1 : Nat} : (Pbc0 z0 z1 z2 g0 n0 g1 n1 g2 n2 ga kx y l1).tab = TNc0 z0 z1 z2 g0 n0 g1 n1 g2 n2 ga kx y l1 := by kernel_rfl
noncomputable def Zsc1 (z0 z1 z2 : List Int) (g0 n0 g1 n1 g2 n2 ga : Nat) (kx : List Int) (y : List Int) (l1 l2 : Nat) : Out := trim 11 11 [0,1,2,4] (run eGh 31 ⟨11, []⟩ 400 (fstC (bodyOf f81)) (argF [.func (.yield l2) [] [], .var 9 0, .var 10 0] 0) (TNc1 z0 z1 z2 g0 n0 g1 n1 g2 n2 ga kx y l1) [])
theorem Zsc1_ok {z0 z1 z2 : List Int} {g0 n0 g1 n1 g2 n2 ga : Nat} {kx : List Int} {y : List Int} {l1 l2 : Nat} (h : allP []) : Ok (Zsc1 z0 z1 z2 g0 n0 g1 n1 g2 n2 ga kx y l1 l2) := Ok.dem (fl := []) (by kernel_rfl) (by kernel_rfl) (by kernel_rfl) h
theorem Zsc1_ex {z0 z1 z2 : List Int} {g0 n0 g1 n1 g2 n2 ga : Nat} {kx : List Int} {y : List Int} {l1 l2 : Nat} : (Zsc1 z0 z1 z2 g0 n0 g1 n1 g2 n2 ga kx y l1 l2).ex = .normal := by kernel_rfl
theorem Zsc1_fm {z0 z1 z2 : List Int} {g0 n0 g1 n1 g2 n2 ga : Nat} {kx : List Int} {y : List Int} {l1 l2 : Nat} : (Zsc1 z0 z1 z2 g0 n0 g1 n1 g2 n2 ga kx y l1 l2).fm = [(0, .func (Fn.yield l2) [] []), (1, .var 9 0), (2, .var 10 0), (4, .int .i64 0)] := by kernel_rfl
theorem Zsc1_tab {z0 z1 z2 : List Int} {g0 n0 g1 n1 g2 n2 ga : Nat} {kx : List Int} {y : List Int} {l1 l2 : Nat} : (Zsc1 z0 z1 z2 g0 n0 g1 n1 g2 n2 ga kx y l1 l2).tab = TNc1 z0 z1 z2 g0 n0 g1 n1 g2 n2 ga kx y l1 := by kernel_rfl
noncomputable def Hdc1 (z0 z1 z2 : List Int) (g0 n0 g1 n1 g2 n2 ga : Nat) (kx : List Int) (y : List Int) (l1 : Nat) : Out := trim 9 9 [1,2,6,7,8,9] (run eGh 30 ⟨9, []⟩ 400 hd79 [(1, .var 7 0), (2, .var 8 0), (6, .slice 1 0 ga 0 3 (some 3)), (7, .int .i64 3), (8, .int .i64 1)] (TPc z0 z1 z2 g0 n0 g1 n1 g2 n2 ga kx y l1) [none])
theorem Hdc1_ok {z0 z1 z2 : List Int} {g0 n0 g1 n1 g2 n2 ga : Nat} {kx : List Int} {y : List Int} {l1 : Nat} (h : allP []) : Ok (Hdc1 z0 z1 z2 g0 n0 g1 n1 g2 n2 ga kx y l1) := Ok.dem (fl := []) (by kernel_rfl) (by kernel_rfl) (by kernel_rfl) h
theorem Hdc1_ex {z0 z1 z2 : List Int} {g0 n0 g1 n1 g2 n2 ga : Nat} {kx : List Int} {y : List Int} {l1 : Nat} : (Hdc1 z0 z1 z2 g0 n0 g1 n1 g2 n2 ga kx y l1).ex = .normal := by kernel_rfl
theorem Hdc1_fm {z0 z1 z2 : List Int} {g0 n0 g1 n1 g2 n2 ga : Nat} {kx : List Int} {y : List Int} {l1 : Nat} : (Hdc1 z0 z1 z2 g0 n0 g1 n1 g2 n2 ga kx y l1).fm = [(1, .var 7 0), (2, .var 8 0), (6, .slice 1 0 ga 0 3 (some 3)), (7, .int .i64 3), (8, .int .i64 1), (9, .bool true)] := by kernel_rfl
theorem Hdc1_tab {z0 z1 z2 : List Int} {g0 n0 g1 n1 g2 n2 ga : Nat} {kx : List Int} {y : List Int} {l1 : Nat} : (Hdc1 z0 z1 z2 g0 n0 g1 n1 g2 n2 ga kx y l1).tab = TPc z0 z1 z2 g0 n0 g1 n1 g2 n2 ga kx y l1 := by kernel_rfl
noncomputable def Pac1 (z0 z1 z2 : List Int) (g0 n0 g1 n1 g2 n2 ga : Nat) (kx : List Int) (y : List Int) (l1 : Nat) : Out := trim 9 9 [1,2,4,6,7,8] (run eGh 30 ⟨9, []⟩ 400 (fstC x79) [(1, .var 7 0), (2, .var 8 0), (6, .slice 1 0 ga 0 3 (some 3)), (7, .int .i64 3), (8, .int .i64 1)] (TPc z0 z1 z2 g0 n0 g1 n1 g2 n2 ga kx y l1) [])
theorem Pac1_ok {z0 z1 z2 : List Int} {g0 n0 g1 n1 g2 n2 ga : Nat} {kx : List Int} {y : List Int} {l1 : Nat} (h : allP [.eqN ga ga, .eqN ga ga]) : Ok (Pac1 z0 z1 z2 g0 n0 g1 n1 g2 n2 ga kx y l1) := Ok.dem (fl := [false, true, true, false, true]) (by kernel_rfl) (by kernel_rfl) (by kernel_rfl) h
theorem Pac1_ex {z0 z1 z2 : List Int} {g0 n0 g1 n1 g2 n2 ga : Nat} {kx : List Int} {y : List Int} {l1 : Nat} : (Pac1 z0 z1 z2 g0 n0 g1 n1 g2 n2 ga kx y l1).ex = .normal := by kernel_rfl
theorem Pac1_fm {z0 z1 z2 : List Int} {g0 n0 g1 n1 g2 n2 ga : Nat} {kx : List Int} {y : List Int} {l1 : Nat} : (Pac1 z0 z1 z2 g0 n0 g1 n1 g2 n2 ga kx y l1).fm = [(1, .var 7 0), (2, .var 8 0), (4, .slice 1 2 g1 0 n1 none), (6, .slice 1 0 ga 0 3 (some 3)), (7, .int .i64 3), (8, .int .i64 1)] := by kernel_rfl
theorem Pac1_tab {z0 z1 z2 : List Int} {g0 n0 g1 n1 g2 n2 ga : Nat} {kx : List Int} {y : List Int} {l1 : Nat} : (Pac1 z0 z1 z2 g0 n0 g1 n1 g2 n2 ga kx y l1).tab = TPc z0 z1 z2 g0 n0 g1 n1 g2 n2 ga kx y l1 := by kernel_rfl
noncomputable def Pbc1 (z0 z1 z2 : List Int) (g0 n0 g1 n1 g2 n2 ga : Nat) (kx : List Int) (y : List Int) (l1 : Nat) : Out := trim 9 11 [1,2,6,7,8,13] (run eGh 30 ⟨9, []⟩ 400 (fstC (sndC x79)) ((4, .slice 1 2 g1 0 n1 none) :: [(1, .var 7 0), (2, .var 8 0), (6, .slice 1 0 ga 0 3 (some 3)), (7, .int .i64 3), (8, .int .i64 1)]) (TPc z0 z1 z2 g0 n0 g1 n1 g2 n2 ga kx y l1) [])
theorem Pbc1_ok {z0 z1 z2 : List Int} {g0 n0 g1 n1 g2 n2 ga : Nat} {kx : List Int} {y : List Int} {l1 : Nat} (h : allP [.eqN g1 g1]) : Ok (Pbc1 z0 z1 z2 g0 n0 g1 n1 g2 n2 ga kx y l1) := Ok.dem (fl := [false, true, true]) (by kernel_rfl) (by kernel_rfl) (by kernel_rfl) h
theorem Pbc1_ex {z0 z1 z2 : List Int} {g0 n0 g1 n1 g2 n2 ga : Nat} {kx : List Int} {y : List Int} {l1 : Nat} : (Pbc1 z0 z1 z2 g0 n0 g1 n1 g2 n2 ga kx y l1).ex = .normal := by kernel_rfl
theorem Pbc1_fm {z0 z1 z2 : List Int} {g0 n0 g1 n1 g2 n2 ga : Nat} {kx : List Int} {y : List Int} {l1 : Nat} : (Pbc1 z0 z1 z2 g0 n0 g1 n1 g2 n2 ga kx y l1).fm = [(1, .var 7 0), (2, .var 8 0), (6, .slice 1 0 ga 0 3 (some 3)), (7, .int .i64 3), (8, .int .i64 1), (13, .func (Fn.func 81) [] [.var 9 0, .var 10 0])] := by kernel_rfl
theorem Pbc1_tab {z0 z1 z2 : List Int} {g0 n0 g1 n1 g2 n2 ga : Nat} {kx : List Int} {y : List Int} {l1 : Nat} : (Pbc1 z0 z1 z2 g0 n0 g1 n1 g2 n2 ga kx y l1).tab = TNc1 z0 z1 z2 g0 n0 g1 n1 g2 n2 ga kx y l1 := by kernel_rfl
noncomputable def Zsc2 (z0 z1 z2 : List Int) (g0 n0 g1 n1 g2 n2 ga : Nat) (kx : List Int) (y : List Int) (l1 l2 : Nat) : Out := trim 11 11 [0,1,2,4] (run eGh 31 ⟨11, []⟩ 400 (fstC (bodyOf f81)) (argF [.func (.yield l2) [] [], .var 9 0, .var 10 0] 0) (TNc2 z0 z1 z2 g0 n0 g1 n1 g2 n2 ga kx y l1) [])
theorem Zsc2_ok {z0 z1 z2 : List Int} {g0 n0 g1 n1 g2 n2 ga : Nat} {kx : List Int} {y : List Int} {l1 l2 : Nat} (h : allP []) : Ok (Zsc2 z0 z1 z2 g0 n0 g1 n1 g2 n2 ga kx y l1 l2) := Ok.dem (fl := []) (by kernel_rfl) (by kernel_rfl) (by kernel_rfl) h
theorem Zsc2_ex {z0 z1 z2 : List Int} {g0 n0 g1 n1 g2 n2 ga : Nat} {kx : List Int} {y : List Int} {l1 l2 : Nat} : (Zsc2 z0 z1 z2 g0 n0 g1 n1 g2 n2 ga kx y l1 l2).ex = .normal := by kernel_rfl
theorem Zsc2_fm {z0 z1 z2 : List Int} {g0 n0 g1 n1 g2 n2 ga : Nat} {kx : List Int} {y : List Int} {l1 l2 : Nat} : (Zsc2 z0 z1 z2 g0 n0 g1 n1 g2 n2 ga kx y l1 l2).fm = [(0, .func (Fn.yield l2) [] []), (1, .var 9 0), (2, .var 10 0), (4, .int .i64 0)] := by kernel_rfl
theorem Zsc2_tab {z0 z1 z2 : List Int} {g0 n0 g1 n1 g2 n2 ga : Nat} {kx : List Int} {y : List Int} {l1 l2 : Nat} : (Zsc2 z0 z1 z2 g0 n0 g1 n1 g2 n2 ga kx y l1 l2).tab = TNc2 z0 z1 z2 g0 n0 g1 n1 g2 n2 ga kx y l1 := by kernel_rfl
noncomputable def Hdc2 (z0 z1 z2 : List Int) (g0 n0 g1 n1 g2 n2 ga : Nat) (kx : List Int) (y : List Int) (l1 : Nat) : Out := trim 9 9 [1,2,6,7,8,9] (run eGh 30 ⟨9, []⟩ 400 hd79 [(1, .var 7 0), (2, .var 8 0), (6, .slice 1 0 ga 0 3 (some 3)), (7, .int .i64 3), (8, .int .i64 2)] (TPc z0 z1 z2 g0 n0 g1 n1 g2 n2 ga kx y l1) [none])
theorem Hdc2_ok {z0 z1 z2 : List Int} {g0 n0 g1 n1 g2 n2 ga : Nat} {kx : List Int} {y : List Int} {l1 : Nat} (h : allP []) : Ok (Hdc2 z0 z1 z2 g0 n0 g1 n1 g2 n2 ga kx y l1) := Ok.dem (fl := []) (by kernel_rfl) (by kernel_rfl) (by kernel_rfl) h
theorem Hdc2_ex {z0 z1 z2 : List Int} {g0 n0 g1 n1 g2 n2 ga : Nat} {kx : List Int} {y : List Int} {l1 : Nat} : (Hdc2 z0 z1 z2 g0 n0 g1 n1 g2 n2 ga kx y l1).ex = .normal := by kernel_rfl
theorem Hdc2_fm {z0 z1 z2 : List Int} {g0 n0 g1 n1 g2 n2 ga : Nat} {kx : List Int} {y : List Int} {l1 : Nat} : (Hdc2 z0 z1 z2 g0 n0 g1 n1 g2 n2 ga kx y l1).fm = [(1, .var 7 0), (2, .var 8 0), (6, .slice 1 0 ga 0 3 (some 3)), (7, .int .i64 3), (8, .int .i64 2), (9, .bool true)] := by kernel_rfl
theorem Hdc2_tab {z0 z1 z2 : List Int} {g0 n0 g1 n1 g2 n2 ga : Nat} {kx : List Int} {y : List Int} {l1 : Nat} : (Hdc2 z0 z1 z2 g0 n0 g1 n1 g2 n2 ga kx y l1).tab = TPc z0 z1 z2 g0 n0 g1 n1 g2 n2 ga kx y l1 := by kernel_rfl
noncomputable def Pac2 (z0 z1 z2 : List Int) (g0 n0 g1 n1 g2 n2 ga : Nat) (kx : List Int) (y : List Int) (l1 : Nat) : Out := trim 9 9 [1,2,4,6,7,8] (run eGh 30 ⟨9, []⟩ 400 (fstC x79) [(1, .var 7 0), (2, .var 8 0), (6, .slice 1 0 ga 0 3 (some 3)), (7, .int .i64 3), (8, .int .i64 2)] (TPc z0 z1 z2 g0 n0 g1 n1 g2 n2 ga kx y l1) [])
theorem Pac2_ok {z0 z1 z2 : List Int} {g0 n0 g1 n1 g2 n2 ga : Nat} {kx : List Int} {y : List Int} {l1 : Nat} (h : allP [.eqN ga ga, .eqN ga ga]) : Ok (Pac2 z0 z1 z2 g0 n0 g1 n1 g2 n2 ga kx y l1) := Ok.dem (fl := [false, true, true, false, true]) (by kernel_rfl) (by kernel_rfl) (by kernel_rfl) h
theorem Pac2_ex {z0 z1 z2 : List Int} {g0 n0 g1 n1 g2 n2 ga : Nat} {kx : List Int} {y : List Int} {l1 : Nat} : (Pac2 z0 z1 z2 g0 n0 g1 n1 g2 n2 ga kx y l1).ex = .normal := by kernel_rfl
theorem Pac2_fm {z0 z1 z2 : List Int} {g0 n0 g1 n1 g2 n2 ga : Nat} {kx : List Int} {y : List Int} {l1 : Nat} : (Pac2 z0 z1 z2 g0 n0 g1 n1 g2 n2 ga kx y l1).fm = [(1, .var 7 0), (2, .var 8 0), (4, .slice 1 3 g2 0 n2 none), (6, .slice 1 0 ga 0 3 (some 3)), (7, .int .i64 3), (8, .int .i64 2)] := by kernel_rfl
theorem Pac2_tab {z0 z1 z2 : List Int} {g0 n0 g1 n1 g2 n2 ga : Nat} {kx : List Int} {y : List Int} {l1 : Nat} : (Pac2 z0 z1 z2 g0 n0 g1 n1 g2 n2 ga kx y l1).tab = TPc z0 z1 z2 g0 n0 g1 n1 g2 n2 ga kx y l1 := by kernel_rfl
noncomputable def Pbc2 (z0 z1 z2 : List Int) (g0 n0 g1 n1 g2 n2 ga : Nat) (kx : List Int) (y : List Int) (l1 : Nat) : Out := trim 9 11 [1,2,6,7,8,13] (run eGh 30 ⟨9, []⟩ 400 (fstC (sndC x79)) ((4, .slice 1 3 g2 0 n2 none) :: [(1, .var 7 0), (2, .var 8 0), (6, .slice 1 0 ga 0 3 (some 3)), (7, .int .i64 3), (8, .int .i64 2)]) (TPc z0 z1 z2 g0 n0 g1 n1 g2 n2 ga kx y l1) [])
theorem Pbc2_ok {z0 z1 z2 : List Int} {g0 n0 g1 n1 g2 n2 ga : Nat} {kx : List Int} {y : List Int} {l1 : Nat} (h : allP [.eqN g2 g2]) : Ok (Pbc2 z0 z1 z2 g0 n0 g1 n1 g2 n2 ga kx y l1) := Ok.dem (fl := [false, true, true]) (by kernel_rfl) (by kernel_rfl) (by kernel_rfl) h
theorem Pbc2_ex {z0 z1 z2 : List Int} {g0 n0 g1 n1 g2 n2 ga : Nat} {kx : List Int} {y : List Int} {l1 : Nat} : (Pbc2 z0 z1 z2 g0 n0 g1 n1 g2 n2 ga kx y l1).ex = .normal := by kernel_rfl
theorem Pbc2_fm {z0 z1 z2 : List Int} {g0 n0 g1 n1 g2 n2 ga : Nat} {kx : List Int} {y : List Int} {l1 : Nat} : (Pbc2 z0 z1 z2 g0 n0 g1 n1 g2 n2 ga kx y l1).fm = [(1, .var 7 0), (2, .var 8 0), (6, .slice 1 0 ga 0 3 (some 3)), (7, .int .i64 3), (8, .int .i64 2), (13, .func (Fn.func 81) [] [.var 9 0, .var 10 0])] := by kernel_rfl
theorem Pbc2_tab {z0 z1 z2 : List Int} {g0 n0 g1 n1 g2 n2 ga : Nat} {kx : List Int} {y : List Int} {l1 : Nat} : (Pbc2 z0 z1 z2 g0 n0 g1 n1 g2 n2 ga kx y l1).tab = TNc2 z0 z1 z2 g0 n0 g1 n1 g2 n2 ga kx y l1 := by kernel_rfl
noncomputable def Nqc0 (z0 z1 z2 : List Int) (g0 n0 g1 n1 g2 n2 ga : Nat) (kx : List Int) (y : List Int) (l1 : Nat) (x : List Int) (fm : Fm) : Out := runOps eGh ops79.toList 30 [ops79.toList.getD 13 default] ((27, .bool true) :: fm) (((TQc0 z0 z1 z2 g0 n0 g1 n1 g2 n2 ga kx y l1 x) : Tab) ++ holes (cntA eGh [ops79.toList.getD 13 default])) ((TQc0 z0 z1 z2 g0 n0 g1 n1 g2 n2 ga kx y l1 x) : Tab).length []
theorem Nqc0_ok {z0 z1 z2 : List Int} {g0 n0 g1 n1 g2 n2 ga : Nat} {kx : List Int} {y : List Int} {l1 : Nat} {x : List Int} {fm : Fm} (h : allP []) : Ok (Nqc0 z0 z1 z2 g0 n0 g1 n1 g2 n2 ga kx y l1 x fm) := Ok.dem (fl := []) (by kernel_rfl) (by kernel_rfl) (by kernel_rfl) h
theorem Nqc0_fm {z0 z1 z2 : List Int} {g0 n0 g1 n1 g2 n2 ga : Nat} {kx : List Int} {y : List Int} {l1 : Nat} {x : List Int} {fm : Fm} : (Nqc0 z0 z1 z2 g0 n0 g1 n1 g2 n2 ga kx y l1 x fm).fm = (28, .bool false) :: (27, .bool true) :: fm := by kernel_rfl
theorem Nqc0_tab {z0 z1 z2 : List Int} {g0 n0 g1 n1 g2 n2 ga : Nat} {kx : List Int} {y : List Int} {l1 : Nat} {x : List Int} {fm : Fm} : (Nqc0 z0 z1 z2 g0 n0 g1 n1 g2 n2 ga kx y l1 x fm).tab = TQc0 z0 z1 z2 g0 n0 g1 n1 g2 n2 ga kx y l1 x := by kernel_rfl
noncomputable def Cpc0 (z0 z1 z2 : List Int) (g0 n0 g1 n1 g2 n2 ga : Nat) (kx : List Int) (y : List Int) (l1 : Nat) (x : List Int) : Out := trim 11 11 [] (run eGh 30 ⟨11, []⟩ 400 cnd79 [(28, .bool false)] (TQc0 z0 z1 z2 g0 n0 g1 n1 g2 n2 ga kx y l1 x) [])
theorem Cpc0_ok {z0 z1 z2 : List Int} {g0 n0 g1 n1 g2 n2 ga : Nat} {kx : List Int} {y : List Int} {l1 : Nat} {x : List Int} (h : allP []) : Ok (Cpc0 z0 z1 z2 g0 n0 g1 n1 g2 n2 ga kx y l1 x) := Ok.dem (fl := []) (by kernel_rfl) (by kernel_rfl) (by kernel_rfl) h
theorem Cpc0_ex {z0 z1 z2 : List Int} {g0 n0 g1 n1 g2 n2 ga : Nat} {kx : List Int} {y : List Int} {l1 : Nat} {x : List Int} : (Cpc0 z0 z1 z2 g0 n0 g1 n1 g2 n2 ga kx y l1 x).ex = .normal := by kernel_rfl
theorem Cpc0_fm {z0 z1 z2 : List Int} {g0 n0 g1 n1 g2 n2 ga : Nat} {kx : List Int} {y : List Int} {l1 : Nat} {x : List Int} : (Cpc0 z0 z1 z2 g0 n0 g1 n1 g2 n2 ga kx y l1 x).fm = [] := by kernel_rfl
theorem Cpc0_tab {z0 z1 z2 : List Int} {g0 n0 g1 n1 g2 n2 ga : Nat} {kx : List Int} {y : List Int} {l1 : Nat} {x : List Int} : (Cpc0 z0 z1 z2 g0 n0 g1 n1 g2 n2 ga kx y l1 x).tab = TNc0 z0 z1 z2 g0 n0 g1 n1 g2 n2 ga kx y l1 := by kernel_rfl
noncomputable def Ntc0 (z0 z1 z2 : List Int) (g0 n0 g1 n1 g2 n2 ga : Nat) (kx : List Int) (y : List Int) (l1 : Nat) (fm : Fm) : Out := runOps eGh ops79.toList 30 [ops79.toList.getD 13 default] ((27, .bool true) :: fm) (((TNc0 z0 z1 z2 g0 n0 g1 n1 g2 n2 ga kx y l1) : Tab) ++ holes (cntA eGh [ops79.toList.getD 13 default])) ((TNc0 z0 z1 z2 g0 n0 g1 n1 g2 n2 ga kx y l1) : Tab).length []
theorem Ntc0_ok {z0 z1 z2 : List Int} {g0 n0 g1 n1 g2 n2 ga : Nat} {kx : List Int} {y : List Int} {l1 : Nat} {fm : Fm} (h : allP []) : Ok (Ntc0 z0 z1 z2 g0 n0 g1 n1 g2 n2 ga kx y l1 fm) := Ok.dem (fl := []) (by kernel_rfl) (by kernel_rfl) (by kernel_rfl) h
theorem Ntc0_fm {z0 z1 z2 : List Int} {g0 n0 g1 n1 g2 n2 ga : Nat} {kx : List Int} {y : List Int} {l1 : Nat} {fm : Fm} : (Ntc0 z0 z1 z2 g0 n0 g1 n1 g2 n2 ga kx y l1 fm).fm = (28, .bool false) :: (27, .bool true) :: fm := by kernel_rfl
theorem Ntc0_tab {z0 z1 z2 : List Int} {g0 n0 g1 n1 g2 n2 ga : Nat} {kx : List Int} {y : List Int} {l1 : Nat} {fm : Fm} : (Ntc0 z0 z1 z2 g0 n0 g1 n1 g2 n2 ga kx y l1 fm).tab = TNc0 z0 z1 z2 g0 n0 g1 n1 g2 n2 ga kx y l1 := by kernel_rfl
noncomputable def Nuc0 (z0 z1 z2 : List Int) (g0 n0 g1 n1 g2 n2 ga : Nat) (kx : List Int) (y : List Int) (l1 : Nat) (fm : Fm) : Out := runOps eGh ops81.toList 31 (ops81.toList.drop 11) ((29, .bool true) :: fm) (((TNc0 z0 z1 z2 g0 n0 g1 n1 g2 n2 ga kx y l1) : Tab) ++ holes (cntA eGh (ops81.toList.drop 11))) ((TNc0 z0 z1 z2 g0 n0 g1 n1 g2 n2 ga kx y l1) : Tab).length []
theorem Nuc0_ok {z0 z1 z2 : List Int} {g0 n0 g1 n1 g2 n2 ga : Nat} {kx : List Int} {y : List Int} {l1 : Nat} {fm : Fm} (h : allP []) : Ok (Nuc0 z0 z1 z2 g0 n0 g1 n1 g2 n2 ga kx y l1 fm) := Ok.dem (fl := []) (by kernel_rfl) (by kernel_rfl) (by kernel_rfl) h
theorem Nuc0_fm {z0 z1 z2 : List Int} {g0 n0 g1 n1 g2 n2 ga : Nat} {kx : List Int} {y : List Int} {l1 : Nat} {fm : Fm} : (Nuc0 z0 z1 z2 g0 n0 g1 n1 g2 n2 ga kx y l1 fm).fm = (30, .bool false) :: (29, .bool true) :: fm := by kernel_rfl
theorem Nuc0_tab {z0 z1 z2 : List Int} {g0 n0 g1 n1 g2 n2 ga : Nat} {kx : List Int} {y : List Int} {l1 : Nat} {fm : Fm} : (Nuc0 z0 z1 z2 g0 n0 g1 n1 g2 n2 ga kx y l1 fm).tab = TNc0 z0 z1 z2 g0 n0 g1 n1 g2 n2 ga kx y l1 := by kernel_rfl
noncomputable def Nqc1 (z0 z1 z2 : List Int) (g0 n0 g1 n1 g2 n2 ga : Nat) (kx : List Int) (y : List Int) (l1 : Nat) (x : List Int) (fm : Fm) : Out := runOps eGh ops79.toList 30 [ops79.toList.getD 13 default] ((27, .bool true) :: fm) (((TQc1 z0 z1 z2 g0 n0 g1 n1 g2 n2 ga kx y l1 x) : Tab) ++ holes (cntA eGh [ops79.toList.getD 13 default])) ((TQc1 z0 z1 z2 g0 n0 g1 n1 g2 n2 ga kx y l1 x) : Tab).length []
theorem Nqc1_ok {z0 z1 z2 : List Int} {g0 n0 g1 n1 g2 n2 ga : Nat} {kx : List Int} {y : List Int} {l1 : Nat} {x : List Int} {fm : Fm} (h : allP []) : Ok (Nqc1 z0 z1 z2 g0 n0 g1 n1 g2 n2 ga kx y l1 x fm) := Ok.dem (fl := []) (by kernel_rfl) (by kernel_rfl) (by kernel_rfl) h
theorem Nqc1_fm {z0 z1 z2 : List Int} {g0 n0 g1 n1 g2 n2 ga : Nat} {kx : List Int} {y : List Int} {l1 : Nat} {x : List Int} {fm : Fm} : (Nqc1 z0 z1 z2 g0 n0 g1 n1 g2 n2 ga kx y l1 x fm).fm = (28, .bool false) :: (27, .bool true) :: fm := by kernel_rfl
theorem Nqc1_tab {z0 z1 z2 : List Int} {g0 n0 g1 n1 g2 n2 ga : Nat} {kx : List Int} {y : List Int} {l1 : Nat} {x : List Int} {fm : Fm} : (Nqc1 z0 z1 z2 g0 n0 g1 n1 g2 n2 ga kx y l1 x fm).tab = TQc1 z0 z1 z2 g0 n0 g1 n1 g2 n2 ga kx y l1 x := by kernel_rfl
noncomputable def Cpc1 (z0 z1 z2 : List Int) (g0 n0 g1 n1 g2 n2 ga : Nat) (kx : List Int) (y : List Int) (l1 : Nat) (x : List Int) : Out := trim 11 11 [] (run eGh 30 ⟨11, []⟩ 400 cnd79 [(28, .bool false)] (TQc1 z0 z1 z2 g0 n0 g1 n1 g2 n2 ga kx y l1 x) [])
theorem Cpc1_ok {z0 z1 z2 : List Int} {g0 n0 g1 n1 g2 n2 ga : Nat} {kx : List Int} {y : List Int} {l1 : Nat} {x : List Int} (h : allP []) : Ok (Cpc1 z0 z1 z2 g0 n0 g1 n1 g2 n2 ga kx y l1 x) := Ok.dem (fl := []) (by kernel_rfl) (by kernel_rfl) (by kernel_rfl) h
theorem Cpc1_ex {z0 z1 z2 : List Int} {g0 n0 g1 n1 g2 n2 ga : Nat} {kx : List Int} {y : List Int} {l1 : Nat} {x : List Int} : (Cpc1 z0 z1 z2 g0 n0 g1 n1 g2 n2 ga kx y l1 x).ex = .normal := by kernel_rfl
theorem Cpc1_fm {z0 z1 z2 : List Int} {g0 n0 g1 n1 g2 n2 ga : Nat} {kx : List Int} {y : List Int} {l1 : Nat} {x : List Int} : (Cpc1 z0 z1 z2 g0 n0 g1 n1 g2 n2 ga kx y l1 x).fm = [] := by kernel_rfl
theorem Cpc1_tab {z0 z1 z2 : List Int} {g0 n0 g1 n1 g2 n2 ga : Nat} {kx : List Int} {y : List Int} {l1 : Nat} {x : List Int} : (Cpc1 z0 z1 z2 g0 n0 g1 n1 g2 n2 ga kx y l1 x).tab = TNc1 z0 z1 z2 g0 n0 g1 n1 g2 n2 ga kx y l1 := by kernel_rfl
noncomputable def Ntc1 (z0 z1 z2 : List Int) (g0 n0 g1 n1 g2 n2 ga : Nat) (kx : List Int) (y : List Int) (l1 : Nat) (fm : Fm) : Out := runOps eGh ops79.toList 30 [ops79.toList.getD 13 default] ((27, .bool true) :: fm) (((TNc1 z0 z1 z2 g0 n0 g1 n1 g2 n2 ga kx y l1) : Tab) ++ holes (cntA eGh [ops79.toList.getD 13 default])) ((TNc1 z0 z1 z2 g0 n0 g1 n1 g2 n2 ga kx y l1) : Tab).length []
theorem Ntc1_ok {z0 z1 z2 : List Int} {g0 n0 g1 n1 g2 n2 ga : Nat} {kx : List Int} {y : List Int} {l1 : Nat} {fm : Fm} (h : allP []) : Ok (Ntc1 z0 z1 z2 g0 n0 g1 n1 g2 n2 ga kx y l1 fm) := Ok.dem (fl := []) (by kernel_rfl) (by kernel_rfl) (by kernel_rfl) h
theorem Ntc1_fm {z0 z1 z2 : List Int} {g0 n0 g1 n1 g2 n2 ga : Nat} {kx : List Int} {y : List Int} {l1 : Nat} {fm : Fm} : (Ntc1 z0 z1 z2 g0 n0 g1 n1 g2 n2 ga kx y l1 fm).fm = (28, .bool false) :: (27, .bool true) :: fm := by kernel_rfl
theorem Ntc1_tab {z0 z1 z2 : List Int} {g0 n0 g1 n1 g2 n2 ga : Nat} {kx : List Int} {y : List Int} {l1 : Nat} {fm : Fm} : (Ntc1 z0 z1 z2 g0 n0 g1 n1 g2 n2 ga kx y l1 fm).tab = TNc1 z0 z1 z2 g0 n0 g1 n1 g2 n2 ga kx y l1 := by kernel_rfl
noncomputable def Nuc1 (z0 z1 z2 : List Int) (g0 n0 g1 n1 g2 n2 ga : Nat) (kx : List Int) (y : List Int) (l1 : Nat) (fm : Fm) : Out := runOps eGh ops81.toList 31 (ops81.toList.drop 11) ((29, .bool true) :: fm) (((TNc1 z0 z1 z2 g0 n0 g1 n1 g2 n2 ga kx y l1) : Tab) ++ holes (cntA eGh (ops81.toList.drop 11))) ((TNc1 z0 z1 z2 g0 n0 g1 n1 g2 n2 ga kx y l1) : Tab).length []
theorem Nuc1_ok {z0 z1 z2 : List Int} {g0 n0 g1 n1 g2 n2 ga : Nat} {kx : List Int} {y : List Int} {l1 : Nat} {fm : Fm} (h : allP []) : Ok (Nuc1 z0 z1 z2 g0 n0 g1 n1 g2 n2 ga kx y l1 fm) := Ok.dem (fl := []) (by kernel_rfl) (by kernel_rfl) (by kernel_rfl) h
theorem Nuc1_fm {z0 z1 z2 : List Int} {g0 n0 g1 n1 g2 n2 ga : Nat} {kx : List Int} {y : List Int} {l1 : Nat} {fm : Fm} : (Nuc1 z0 z1 z2 g0 n0 g1 n1 g2 n2 ga kx y l1 fm).fm = (30, .bool false) :: (29, .bool true) :: fm := by kernel_rfl
theorem Nuc1_tab {z0 z1 z2 : List Int} {g0 n0 g1 n1 g2 n2 ga : Nat} {kx : List Int} {y : List Int} {l1 : Nat} {fm : Fm} : (Nuc1 z0 z1 z2 g0 n0 g1 n1 g2 n2 ga kx y l1 fm).tab = TNc1 z0 z1 z2 g0 n0 g1 n1 g2 n2 ga kx y l1 := by kernel_rfl
noncomputable def Nqc2 (z0 z1 z2 : List Int) (g0 n0 g1 n1 g2 n2 ga : Nat) (kx : List Int) (y : List Int) (l1 : Nat) (x : List Int) (fm : Fm) : Out := runOps eGh ops79.toList 30 [ops79.toList.getD 13 default] ((27, .bool true) :: fm) (((TQc2 z0 z1 z2 g0 n0 g1 n1 g2 n2 ga kx y l1 x) : Tab) ++ holes (cntA eGh [ops79.toList.getD 13 default])) ((TQc2 z0 z1 z2 g0 n0 g1 n1 g2 n2 ga kx y l1 x) : Tab).length []
theorem Nqc2_ok {z0 z1 z2 : List Int} {g0 n0 g1 n1 g2 n2 ga : Nat} {kx : List Int} {y : List Int} {l1 : Nat} {x : List Int} {fm : Fm} (h : allP []) : Ok (Nqc2 z0 z1 z2 g0 n0 g1 n1 g2 n2 ga kx y l1 x fm) := Ok.dem (fl := []) (by kernel_rfl) (by kernel_rfl) (by kernel_rfl) h
theorem Nqc2_fm {z0 z1 z2 : List Int} {g0 n0 g1 n1 g2 n2 ga : Nat} {kx : List Int} {y : List Int} {l1 : Nat} {x : List Int} {fm : Fm} : (Nqc2 z0 z1 z2 g0 n0 g1 n1 g2 n2 ga kx y l1 x fm).fm = (28, .bool false) :: (27, .bool true) :: fm := by kernel_rfl
theorem Nqc2_tab {z0 z1 z2 : List Int} {g0 n0 g1 n1 g2 n2 ga : Nat} {kx : List Int} {y : List Int} {l1 : Nat} {x : List Int} {fm : Fm} : (Nqc2 z0 z1 z2 g0 n0 g1 n1 g2 n2 ga kx y l1 x fm).tab = TQc2 z0 z1 z2 g0 n0 g1 n1 g2 n2 ga kx y l1 x := by kernel_rfl
noncomputable def Cpc2 (z0 z1 z2 : List Int) (g0 n0 g1 n1 g2 n2 ga : Nat) (kx : List Int) (y : List Int) (l1 : Nat) (x : List Int) : Out := trim 11 11 [] (run eGh 30 ⟨11, []⟩ 400 cnd79 [(28, .bool false)] (TQc2 z0 z1 z2 g0 n0 g1 n1 g2 n2 ga kx y l1 x) [])
theorem Cpc2_ok {z0 z1 z2 : List Int} {g0 n0 g1 n1 g2 n2 ga : Nat} {kx : List Int} {y : List Int} {l1 : Nat} {x : List Int} (h : allP []) : Ok (Cpc2 z0 z1 z2 g0 n0 g1 n1 g2 n2 ga kx y l1 x) := Ok.dem (fl := []) (by kernel_rfl) (by kernel_rfl) (by kernel_rfl) h
theorem Cpc2_ex {z0 z1 z2 : List Int} {g0 n0 g1 n1 g2 n2 ga : Nat} {kx : List Int} {y : List Int} {l1 : Nat} {x : List Int} : (Cpc2 z0 z1 z2 g0 n0 g1 n1 g2 n2 ga kx y l1 x).ex = .normal := by kernel_rfl
theorem Cpc2_fm {z0 z1 z2 : List Int} {g0 n0 g1 n1 g2 n2 ga : Nat} {kx : List Int} {y : List Int} {l1 : Nat} {x : List Int} : (Cpc2 z0 z1 z2 g0 n0 g1 n1 g2 n2 ga kx y l1 x).fm = [] := by kernel_rfl
theorem Cpc2_tab {z0 z1 z2 : List Int} {g0 n0 g1 n1 g2 n2 ga : Nat} {kx : List Int} {y : List Int} {l1 : Nat} {x : List Int} : (Cpc2 z0 z1 z2 g0 n0 g1 n1 g2 n2 ga kx y l1 x).tab = TNc2 z0 z1 z2 g0 n0 g1 n1 g2 n2 ga kx y l1 := by kernel_rfl
noncomputable def Ntc2 (z0 z1 z2 : List Int) (g0 n0 g1 n1 g2 n2 ga : Nat) (kx : List Int) (y : List Int) (l1 : Nat) (fm : Fm) : Out := runOps eGh ops79.toList 30 [ops79.toList.getD 13 default] ((27, .bool true) :: fm) (((TNc2 z0 z1 z2 g0 n0 g1 n1 g2 n2 ga kx y l1) : Tab) ++ holes (cntA eGh [ops79.toList.getD 13 default])) ((TNc2 z0 z1 z2 g0 n0 g1 n1 g2 n2 ga kx y l1) : Tab).length []
theorem Ntc2_ok {z0 z1 z2 : List Int} {g0 n0 g1 n1 g2 n2 ga : Nat} {kx : List Int} {y : List Int} {l1 : Nat} {fm : Fm} (h : allP []) : Ok (Ntc2 z0 z1 z2 g0 n0 g1 n1 g2 n2 ga kx y l1 fm) := Ok.dem (fl := []) (by kernel_rfl) (by kernel_rfl) (by kernel_rfl) h
theorem Ntc2_fm {z0 z1 z2 : List Int} {g0 n0 g1 n1 g2 n2 ga : Nat} {kx : List Int} {y : List Int} {l1 : Nat} {fm : Fm} : (Ntc2 z0 z1 z2 g0 n0 g1 n1 g2 n2 ga kx y l1 fm).fm = (28, .bool false) :: (27, .bool true) :: fm := by kernel_rfl
theorem Ntc2_tab {z0 z1 z2 : List Int} {g0 n0 g1 n1 g2 n2 ga : Nat} {kx : List Int} {y : List Int} {l1 : Nat} {fm : Fm} : (Ntc2 z0 z1 z2 g0 n0 g1 n1 g2 n2 ga kx y l1 fm).tab = TNc2 z0 z1 z2 g0 n0 g1 n1 g2 n2 ga kx y l1 := by kernel_rfl
noncomputable def Nuc2 (z0 z1 z2 : List Int) (g0 n0 g1 n1 g2 n2 ga : Nat) (kx : List Int) (y : List Int) (l1 : Nat) (fm : Fm) : Out := runOps eGh ops81.toList 31 (ops81.toList.drop 11) ((29, .bool true) :: fm) (((TNc2 z0 z1 z2 g0 n0 g1 n1 g2 n2 ga kx y l1) : Tab) ++ holes (cntA eGh (ops81.toList.drop 11))) ((TNc2 z0 z1 z2 g0 n0 g1 n1 g2 n2 ga kx y l1) : Tab).length []
theorem Nuc2_ok {z0 z1 z2 : List Int} {g0 n0 g1 n1 g2 n2 ga : Nat} {kx : List Int} {y : List Int} {l1 : Nat} {fm : Fm} (h : allP []) : Ok (Nuc2 z0 z1 z2 g0 n0 g1 n1 g2 n2 ga kx y l1 fm) := Ok.dem (fl := []) (by kernel_rfl) (by kernel_rfl) (by kernel_rfl) h
theorem Nuc2_fm {z0 z1 z2 : List Int} {g0 n0 g1 n1 g2 n2 ga : Nat} {kx : List Int} {y : List Int} {l1 : Nat} {fm : Fm} : (Nuc2 z0 z1 z2 g0 n0 g1 n1 g2 n2 ga kx y l1 fm).fm = (30, .bool false) :: (29, .bool true) :: fm := by kernel_rfl
theorem Nuc2_tab {z0 z1 z2 : List Int} {g0 n0 g1 n1 g2 n2 ga : Nat} {kx : List Int} {y : List Int} {l1 : Nat} {fm : Fm} : (Nuc2 z0 z1 z2 g0 n0 g1 n1 g2 n2 ga kx y l1 fm).tab = TNc2 z0 z1 z2 g0 n0 g1 n1 g2 n2 ga kx y l1 := by kernel_rfl
noncomputable def Hdc3 (z0 z1 z2 : List Int) (g0 n0 g1 n1 g2 n2 ga : Nat) (kx : List Int) (y : List Int) (l1 : Nat) : Out := trim 8 8 [9] (run eGh 30 ⟨8, []⟩ 400 hd79 [(1, .var 7 0), (2, .var 8 0), (6, .slice 1 0 ga 0 3 (some 3)), (7, .int .i64 3), (8, .int .i64 3)] (TPc z0 z1 z2 g0 n0 g1 n1 g2 n2 ga kx y l1) [none])
theorem Hdc3_ok {z0 z1 z2 : List Int} {g0 n0 g1 n1 g2 n2 ga : Nat} {kx : List Int} {y : List Int} {l1 : Nat} (h : allP []) : Ok (Hdc3 z0 z1 z2 g0 n0 g1 n1 g2 n2 ga kx y l1) := Ok.dem (fl := []) (by kernel_rfl) (by kernel_rfl) (by kernel_rfl) h
theorem Hdc3_ex {z0 z1 z2 : List Int} {g0 n0 g1 n1 g2 n2 ga : Nat} {kx : List Int} {y : List Int} {l1 : Nat} : (Hdc3 z0 z1 z2 g0 n0 g1 n1 g2 n2 ga kx y l1).ex = .normal := by kernel_rfl
theorem Hdc3_fm {z0 z1 z2 : List Int} {g0 n0 g1 n1 g2 n2 ga : Nat} {kx : List Int} {y : List Int} {l1 : Nat} : (Hdc3 z0 z1 z2 g0 n0 g1 n1 g2 n2 ga kx y l1).fm = [(9, .bool false)] := by kernel_rfl
theorem Hdc3_tab {z0 z1 z2 : List Int} {g0 n0 g1 n1 g2 n2 ga : Nat} {kx : List Int} {y : List Int} {l1 : Nat} : (Hdc3 z0 z1 z2 g0 n0 g1 n1 g2 n2 ga kx y l1).tab = TBc z0 z1 z2 g0 n0 g1 n1 g2 n2 ga kx y := by kernel_rfl
end Go.Abs

set_option linter.unusedVariables false
set_option linter.unusedSimpArgs false
set_option maxRecDepth 8000
namespace Go.Abs
open Go.Proofs.Try
structure Exc (z0 z1 z2 : List Int) (g0 n0 g1 n1 g2 n2 ga : Nat) (kx : List Int) : Prop where
  pz0 : n0 ≤ z0.length
  pm0 : n0 ≤ 140737488352000
  pb0 : Bytes z0
  pz1 : n1 ≤ z1.length
  pm1 : n1 ≤ 140737488352000
  pb1 : Bytes z1
  pz2 : n2 ≤ z2.length
  pm2 : n2 ≤ 140737488352000
  pb2 : Bytes z2
  pk : WpLaw kx
noncomputable def H1c : Host := ⟨#[9], as63, bd63, [(2, .var 4 0), (4, .var 5 0), (5, .var 6 0), (8, .func (.func 79) [] [.var 7 0])], 16⟩
noncomputable def H2c0 (z0 z1 z2 : List Int) (g0 n0 g1 n1 g2 n2 ga : Nat) (kx : List Int) : Host := ⟨#[14], as79, bd79, [(1, .var 7 0), (2, .var 8 0), (6, .slice 1 0 ga 0 3 (some 3)), (7, .int .i64 3), (8, .int .i64 0), (13, .func (.func 81) [] [.var 9 0, .var 10 0])], 30⟩
theorem ambc0 (z0 z1 z2 : List Int) (g0 n0 g1 n1 g2 n2 ga : Nat) (kx : List Int) (l1 l2 : Nat) : ambIn 11 [(l2, H2c0 z0 z1 z2 g0 n0 g1 n1 g2 n2 ga kx), (l1, H1c)] := fun x hx => by
  rcases List.mem_cons.1 hx with rfl | hx
  · exact fmIn_of rfl
  · exact ambIn_one rfl x hx
theorem ambMc0 (z0 z1 z2 : List Int) (g0 n0 g1 n1 g2 n2 ga : Nat) (kx : List Int) (l1 l2 : Nat) : ambIn 12 [(l2, H2c0 z0 z1 z2 g0 n0 g1 n1 g2 n2 ga kx), (l1, H1c)] := fun x hx => by
  rcases List.mem_cons.1 hx with rfl | hx
  · exact fmIn_of rfl
  · exact ambIn_one rfl x hx
theorem chfc0 {z0 z1 z2 : List Int} {g0 n0 g1 n1 g2 n2 ga : Nat} {kx : List Int} (e : Exc z0 z1 z2 g0 n0 g1 n1 g2 n2 ga kx) {y : List Int} (hy : WpLaw y) (l1 l2 : Nat) {j : Nat} (hj : 16 * j + 16 ≤ n0) :
    YWp eGh 30 11 [(l2, H2c0 z0 z1 z2 g0 n0 g1 n1 g2 n2 ga kx), (l1, H1c)] bd79 [(2, .var 8 0), (5, .slice 1 1 g0 (16 * j) 16 (some 16))] (TNc0 z0 z1 z2 g0 n0 g1 n1 g2 n2 ga kx y l1) [(.busy, none), (.ready, none)] fun ex fm T σ => ex = .normal ∧ T = ((TNc0 z0 z1 z2 g0 n0 g1 n1 g2 n2 ga kx (mwLaw (xwLaw y (gwLaw (ckLaw z0 n0 j))) kx) l1) : Tab) ∧ σ = [(.busy, none), (.ready, none)] := by
  have hamb := ambc0 z0 z1 z2 g0 n0 g1 n1 g2 n2 ga kx l1 l2
  have hambM := ambMc0 z0 z1 z2 g0 n0 g1 n1 g2 n2 ga kx l1 l2
  have hz := e.pz0
  have hbz := e.pb0
  have hcl := ck_len hz j
  have hcb := ck_bytes hbz n0 j
  have eb : (subLaw z0 (addO (16 * j) 0) 16) = (ckLaw z0 n0 j) := by rw [addO_eq, Nat.add_zero, ck_full hj]
  have hw : WpLaw (gwLaw (subLaw z0 (addO (16 * j) 0) 16)) := by rw [eb]; exact .gw hcb hcl
  rw [bd79_eq]
  refine YWp.block (YWp.seq (YWp.yieldDrawn eGh_ok hmA (l1 := ops79.toList.take 12) (oy := ops79.toList.getD 12 default) (o2 := ops79.toList.getD 13 default) (by kernel_rfl) (ds1 := [some true]) (o1 := Dfc0 z0 z1 z2 g0 n0 g1 n1 g2 n2 ga kx y l1 l2 (16 * j)) (by kernel_rfl) (by kernel_rfl) (by kernel_rfl) (by kernel_rfl) (by kernel_rfl) (by kernel_rfl) (Dfc0_ok ?_) (f := .tmp 15) (x := .tmp 26) (t := 27) (c := theCall (ops79.toList.getD 12 default)) (by kernel_rfl) (by kernel_rfl) (by kernel_rfl) (by kernel_rfl) (by kernel_rfl) (by kernel_rfl) (by decide) (i := 1) (l := l1) (H := H1c) (by rw [Dfc0_fm]; rfl) (v := .ints .u64 (gwLaw (subLaw z0 (addO (16 * j) 0) 16))) (by rw [Dfc0_fm]; rfl) rfl rfl (p := 9) rfl (by decide) (kk := 11) (by decide) (by rw [Dfc0_fm]; exact fmIn_of rfl) hamb ?_))
  · simp only [allP, Con.h, addO_eq, Nat.add_zero, hbz, eq_self, true_and, and_true]
    omega
  rw [Dfc0_tab]
  refine YWp.ofTo (To.of (o := A6fc0 z0 z1 z2 g0 n0 g1 n1 g2 n2 ga kx y l1 (gwLaw (subLaw z0 (addO (16 * j) 0) 16))) eGh_ok hmA (Nat.le_refl 11) OrcOk.nil rfl (A6fc0_ok ⟨hw.len, trivial⟩) A6fc0_ex A6fc0_fm A6fc0_tab) hamb ⟨rfl, rfl, ?_⟩
  refine YWp.ofTo (To.of (o := B6fc0 z0 z1 z2 g0 n0 g1 n1 g2 n2 ga kx y l1 (gwLaw (subLaw z0 (addO (16 * j) 0) 16))) eGh_ok hmA (Nat.le_refl 11) OrcOk.nil rfl (B6fc0_ok ?_) B6fc0_ex B6fc0_fm B6fc0_tab) hamb ⟨by decide, [], Ntc0 z0 z1 z2 g0 n0 g1 n1 g2 n2 ga kx (mwLaw (xwLaw y (gwLaw (subLaw z0 (addO (16 * j) 0) 16))) kx) l1 _, rfl, Ntc0_ok trivial, ?_⟩
  · have h1 := hy.len
    have h2 := hw.len
    have h3 := e.pk.len
    have h4 := hy.xw hw
    simp only [allP, Con.h, h1, h2, h3, h4, hy, hw, e.pk, and_true, true_and]
  rw [Ntc0_fm, Ntc0_tab, eb]
  show YWp eGh 30 11 [(l2, H2c0 z0 z1 z2 g0 n0 g1 n1 g2 n2 ga kx), (l1, H1c)] cnd79 _ _ _ _
  rw [cnd79_eq]
  exact YWp.cond (b := false) rfl (fun h => by cases h) (fun _ => YWp.skip hamb ⟨rfl, rfl, rfl⟩)
theorem chpc0 {z0 z1 z2 : List Int} {g0 n0 g1 n1 g2 n2 ga : Nat} {kx : List Int} (e : Exc z0 z1 z2 g0 n0 g1 n1 g2 n2 ga kx) {y : List Int} (hy : WpLaw y) (l1 l2 : Nat) {j r : Nat} (hr : r < 16) (hj : 16 * j + r = n0) :
    YWp eGh 30 11 [(l2, H2c0 z0 z1 z2 g0 n0 g1 n1 g2 n2 ga kx), (l1, H1c)] bd79 [(2, .var 8 0), (5, .slice 1 1 g0 (16 * j) r (some r))] (TNc0 z0 z1 z2 g0 n0 g1 n1 g2 n2 ga kx y l1) [(.busy, none), (.ready, none)] fun ex fm T σ => ex = .normal ∧ T = ((TNc0 z0 z1 z2 g0 n0 g1 n1 g2 n2 ga kx (mwLaw (xwLaw y (gwLaw (ckLaw z0 n0 j))) kx) l1) : Tab) ∧ σ = [(.busy, none), (.ready, none)] := by
  have hamb := ambc0 z0 z1 z2 g0 n0 g1 n1 g2 n2 ga kx l1 l2
  have hambM := ambMc0 z0 z1 z2 g0 n0 g1 n1 g2 n2 ga kx l1 l2
  have hz := e.pz0
  have hbz := e.pb0
  have hcl := ck_len hz j
  have hcb := ck_bytes hbz n0 j
  have ex0 : (List.take r (dropO (addO (16 * j) 0) z0) ++ List.replicate (16 - (r : Int)).toNat 0) = (ckLaw z0 n0 j) := by
    rw [addO_eq, Nat.add_zero, dropO_eq, ck_part (by omega), show n0 - 16 * j = r by omega, show (16 - (r : Int)).toNat = 16 - r by omega]
  have eb : (subLaw (List.take r (dropO (addO (16 * j) 0) z0) ++ List.replicate (16 - (r : Int)).toNat 0) 0 16) = (ckLaw z0 n0 j) := by
    rw [ex0, take_sub, List.take_of_length_le (by omega)]
  have hw : WpLaw (gwLaw (subLaw (List.take r (dropO (addO (16 * j) 0) z0) ++ List.replicate (16 - (r : Int)).toNat 0) 0 16)) := by rw [eb]; exact .gw hcb hcl
  rw [bd79_eq]
  refine YWp.block (YWp.seq (YWp.yieldDrawn eGh_ok hmA (l1 := ops79.toList.take 12) (oy := ops79.toList.getD 12 default) (o2 := ops79.toList.getD 13 default) (by kernel_rfl) (ds1 := [some false]) (o1 := Dpc0 z0 z1 z2 g0 n0 g1 n1 g2 n2 ga kx y l1 l2 (16 * j) r) (by kernel_rfl) (by kernel_rfl) (by kernel_rfl) (by kernel_rfl) (by kernel_rfl) (by kernel_rfl) (Dpc0_ok ?_) (f := .tmp 15) (x := .tmp 26) (t := 27) (c := theCall (ops79.toList.getD 12 default)) (by kernel_rfl) (by kernel_rfl) (by kernel_rfl) (by kernel_rfl) (by kernel_rfl) (by kernel_rfl) (by decide) (i := 1) (l := l1) (H := H1c) (by rw [Dpc0_fm]; rfl) (v := .ints .u64 (gwLaw (subLaw (List.take r (dropO (addO (16 * j) 0) z0) ++ List.replicate (16 - (r : Int)).toNat 0) 0 16))) (by rw [Dpc0_fm]; rfl) rfl rfl (p := 9) rfl (by decide) (kk := 12) (by decide) (by rw [Dpc0_fm]; exact fmIn_of rfl) hamb ?_))
  · rw [ex0]
    simp only [allP, Con.h, addO_eq, Nat.add_zero, hcl, hcb, eq_self, true_and, and_true]
    omega
  rw [Dpc0_tab]
  refine YWp.ofTo (To.of (o := A6pc0 z0 z1 z2 g0 n0 g1 n1 g2 n2 ga kx y l1 (List.take r (dropO (addO (16 * j) 0) z0) ++ List.replicate (16 - (r : Int)).toNat 0) (gwLaw (subLaw (List.take r (dropO (addO (16 * j) 0) z0) ++ List.replicate (16 - (r : Int)).toNat 0) 0 16))) eGh_ok hmA (Nat.le_refl 12) OrcOk.nil rfl (A6pc0_ok ⟨hw.len, trivial⟩) A6pc0_ex A6pc0_fm A6pc0_tab) hambM ⟨rfl, rfl, ?_⟩
  refine YWp.ofTo (To.of (o := B6pc0 z0 z1 z2 g0 n0 g1 n1 g2 n2 ga kx y l1 (List.take r (dropO (addO (16 * j) 0) z0) ++ List.replicate (16 - (r : Int)).toNat 0) (gwLaw (subLaw (List.take r (dropO (addO (16 * j) 0) z0) ++ List.replicate (16 - (r : Int)).toNat 0) 0 16))) eGh_ok hmA (Nat.le_refl 12) OrcOk.nil rfl (B6pc0_ok ?_) B6pc0_ex B6pc0_fm B6pc0_tab) hambM ⟨by decide, [], Nqc0 z0 z1 z2 g0 n0 g1 n1 g2 n2 ga kx (mwLaw (xwLaw y (gwLaw (subLaw (List.take r (dropO (addO (16 * j) 0) z0) ++ List.replicate (16 - (r : Int)).toNat 0) 0 16))) kx) l1 (List.take r (dropO (addO (16 * j) 0) z0) ++ List.replicate (16 - (r : Int)).toNat 0) _, rfl, Nqc0_ok trivial, ?_⟩
  · have h1 := hy.len
    have h2 := hw.len
    have h3 := e.pk.len
    have h4 := hy.xw hw
    simp only [allP, Con.h, h1, h2, h3, h4, hy, hw, e.pk, and_true, true_and]
  rw [Nqc0_fm, Nqc0_tab, eb]
  show YWp eGh 30 11 [(l2, H2c0 z0 z1 z2 g0 n0 g1 n1 g2 n2 ga kx), (l1, H1c)] cnd79 _ _ _ _
  refine YWp.sub (f := [(28, .bool false)]) ⟨rfl, trivial⟩ ?_
  exact YWp.ofTo (To.of (k := 11) (o := Cpc0 z0 z1 z2 g0 n0 g1 n1 g2 n2 ga kx (mwLaw (xwLaw y (gwLaw (ckLaw z0 n0 j))) kx) l1 (List.take r (dropO (addO (16 * j) 0) z0) ++ List.replicate (16 - (r : Int)).toNat 0)) eGh_ok hmA (Nat.le_refl 11) OrcOk.nil rfl (Cpc0_ok trivial) Cpc0_ex Cpc0_fm Cpc0_tab) hamb ⟨rfl, rfl, rfl⟩
theorem chc0 {z0 z1 z2 : List Int} {g0 n0 g1 n1 g2 n2 ga : Nat} {kx : List Int} (e : Exc z0 z1 z2 g0 n0 g1 n1 g2 n2 ga kx) {y : List Int} (hy : WpLaw y) (l1 l2 : Nat) {j : Nat} (hj : 16 * j < n0) :
    YWp eGh 30 11 [(l2, H2c0 z0 z1 z2 g0 n0 g1 n1 g2 n2 ga kx), (l1, H1c)] bd79 [(2, .var 8 0), (5, .slice 1 1 g0 (16 * j) (min 16 (n0 - 16 * j)) (some (min 16 (n0 - 16 * j))))] (TNc0 z0 z1 z2 g0 n0 g1 n1 g2 n2 ga kx y l1) [(.busy, none), (.ready, none)] fun ex fm T σ => ex = .normal ∧ T = ((TNc0 z0 z1 z2 g0 n0 g1 n1 g2 n2 ga kx (mwLaw (xwLaw y (gwLaw (ckLaw z0 n0 j))) kx) l1) : Tab) ∧ σ = [(.busy, none), (.ready, none)] := by
  by_cases h : 16 * j + 16 ≤ n0
  · rw [show min 16 (n0 - 16 * j) = 16 by omega]
    exact chfc0 e hy l1 l2 h
  · exact chpc0 e hy l1 l2 (by omega) (by omega)
theorem rdc0 {z0 z1 z2 : List Int} {g0 n0 g1 n1 g2 n2 ga : Nat} {kx : List Int} (e : Exc z0 z1 z2 g0 n0 g1 n1 g2 n2 ga kx) {y : List Int} (hy : WpLaw y) (l1 l2 : Nat) {j : Nat} (hj : 16 * j < n0) :
    YWp eGh 31 11 [(l2, H2c0 z0 z1 z2 g0 n0 g1 n1 g2 n2 ga kx), (l1, H1c)] (roundOf 0 f81) [(0, .func (.yield l2) [] []), (1, .var 9 0), (2, .var 10 0), (4, .int .i64 ((16 * j : Nat) : Int))] (TNc0 z0 z1 z2 g0 n0 g1 n1 g2 n2 ga kx y l1) [(.ready, none), (.ready, none)] fun ex fm T σ => ex = .normal ∧ fm = [(0, .func (.yield l2) [] []), (1, .var 9 0), (2, .var 10 0), (4, .int .i64 ((16 * (j + 1) : Nat) : Int))] ∧ T = ((TNc0 z0 z1 z2 g0 n0 g1 n1 g2 n2 ga kx (mwLaw (xwLaw y (gwLaw (ckLaw z0 n0 j))) kx) l1) : Tab) ∧ σ = [(.ready, none), (.ready, none)] := by
  have hamb := ambc0 z0 z1 z2 g0 n0 g1 n1 g2 n2 ga kx l1 l2
  have hz := e.pz0
  have hm := e.pm0
  skip
  have er : (if (↑(subO n0 ((16 * j : Nat) : Int).toNat) : Int) < 16 then (↑(subO n0 ((16 * j : Nat) : Int).toNat) : Int) else 16) = ((min 16 (n0 - 16 * j) : Nat) : Int) := by
    rw [Int.toNat_natCast, subO_eq, min16]
  have e1 : ((16 * j : Nat) : Int).toNat = 16 * j := Int.toNat_natCast _
  have e2 : subO (((16 * j : Nat) : Int) + ((min 16 (n0 - 16 * j) : Nat) : Int)).toNat (16 * j) = min 16 (n0 - 16 * j) := by rw [subO_eq]; omega
  rw [split81]
  refine YWp.seq (YWp.ofTo (To.of (o := Hyc0 z0 z1 z2 g0 n0 g1 n1 g2 n2 ga kx y l1 l2 ((16 * j : Nat) : Int)) eGh_ok hmA (Nat.le_refl 11) OrcOk.nil rfl (Hyc0_ok ?_) Hyc0_ex Hyc0_fm Hyc0_tab) hamb ?_)
  · simp only [allP, Con.h, decide_eq_true_eq, eq_self, true_and, and_true]; omega
  refine YWp.seq (YWp.block (YWp.seq (YWp.ofTo (To.of (o := Msc0 z0 z1 z2 g0 n0 g1 n1 g2 n2 ga kx y l1 l2 ((16 * j : Nat) : Int)) (fm' := [(0, .func (.yield l2) [] []), (1, .var 9 0), (2, .var 10 0), (4, .int .i64 ((16 * j : Nat) : Int))] ++ [(5, .int .i64 ((min 16 (n0 - 16 * j) : Nat) : Int))]) eGh_ok hmA (Nat.le_refl 11) OrcOk.nil rfl (Msc0_ok ?_) Msc0_ex (by rw [Msc0_fm, er]; rfl) Msc0_tab) hamb ?_)))
  · simp only [allP, Con.h, eq_self, true_and, and_true]; omega
  refine YWp.seq (YWp.yieldRegion eGh_ok (l1 := ops81.toList.take 10) (l2 := ops81.toList.drop 11) (oy := ops81.toList.getD 10 default) (by kernel_rfl) (ds1 := []) (o1 := Yac0 z0 z1 z2 g0 n0 g1 n1 g2 n2 ga kx y l1 l2 ((16 * j : Nat) : Int) ((min 16 (n0 - 16 * j) : Nat) : Int)) (by kernel_rfl) (Yac0_ok ?_) (f := .tmp 19) (x := .tmp 28) (t := 29) (c := theCall (ops81.toList.getD 10 default)) (by kernel_rfl) (by kernel_rfl) (by kernel_rfl) (by kernel_rfl) (by kernel_rfl) (by decide) (i := 0) (l := l2) (H := H2c0 z0 z1 z2 g0 n0 g1 n1 g2 n2 ga kx) (by rw [Yac0_fm]; rfl) (v := .slice 1 1 g0 (16 * j) (min 16 (n0 - 16 * j)) (some (min 16 (n0 - 16 * j)))) (by rw [Yac0_fm, e1, e2]; rfl) rfl rfl (p := 14) rfl (show 14 < 30 by decide) (kk := 11) (Nat.le_refl _) (by rw [Yac0_fm]; exact fmIn_of rfl) hamb ?_)
  · simp only [allP, Con.h, eq_self, true_and, and_true]; omega
  rw [Yac0_tab]
  refine YWp.ofTo (To.of (o := Asc0 z0 z1 z2 g0 n0 g1 n1 g2 n2 ga kx y l1 l2 (16 * j) (min 16 (n0 - 16 * j))) eGh_ok hmA (Nat.le_refl 11) OrcOk.nil rfl (Asc0_ok trivial) Asc0_ex Asc0_fm Asc0_tab) hamb ⟨rfl, rfl, ?_⟩
  refine YWp.mono (chc0 e hy l1 l2 hj) fun ex fm T σ hP => ?_
  obtain ⟨rfl, rfl, rfl⟩ := hP
  refine ⟨by decide, [], Nuc0 z0 z1 z2 g0 n0 g1 n1 g2 n2 ga kx (mwLaw (xwLaw y (gwLaw (ckLaw z0 n0 j))) kx) l1 _, rfl, Nuc0_ok trivial, ?_⟩
  rw [Nuc0_fm, Nuc0_tab, Yac0_fm]
  show YWp eGh 31 11 [(l2, H2c0 z0 z1 z2 g0 n0 g1 n1 g2 n2 ga kx), (l1, H1c)] cnd81 _ _ _ _
  rw [cnd81_eq]
  refine YWp.cond (b := false) rfl (fun h => by cases h) (fun _ => YWp.skip hamb ?_)
  show YWp eGh 31 11 [(l2, H2c0 z0 z1 z2 g0 n0 g1 n1 g2 n2 ga kx), (l1, H1c)] r81 _ _ _ _
  refine YWp.sub (f := [(0, .func (.yield l2) [] []), (1, .var 9 0), (2, .var 10 0), (4, .int .i64 ((16 * j : Nat) : Int))]) ⟨rfl, rfl, rfl, rfl, trivial⟩ ?_
  refine YWp.ofTo (To.of (o := Rbc0 z0 z1 z2 g0 n0 g1 n1 g2 n2 ga kx _ l1 l2 ((16 * j : Nat) : Int)) eGh_ok hmA (Nat.le_refl 11) OrcOk.nil rfl (Rbc0_ok ?_) Rbc0_ex Rbc0_fm Rbc0_tab) hamb ⟨rfl, ?_, rfl, rfl⟩
  · simp only [allP, Con.h, and_true]; omega
  · rw [show ((16 * j : Nat) : Int) + 16 = ((16 * (j + 1) : Nat) : Int) by omega]
theorem inc0 {z0 z1 z2 : List Int} {g0 n0 g1 n1 g2 n2 ga : Nat} {kx : List Int} (e : Exc z0 z1 z2 g0 n0 g1 n1 g2 n2 ga kx) {y : List Int} (hy : WpLaw y) (l1 l2 : Nat) :
    YWp eGh 31 11 [(l2, H2c0 z0 z1 z2 g0 n0 g1 n1 g2 n2 ga kx), (l1, H1c)] (bodyOf f81) (argF ([] ++ (.func (.yield l2) [] [] :: [.var 9 0, .var 10 0])) 0) (TNc0 z0 z1 z2 g0 n0 g1 n1 g2 n2 ga kx y l1) [(.ready, none), (.ready, none)] fun ex fm' T' σ' =>
      (ex = .normal ∨ ex = .ret) ∧ (∃ cs us, aRes eGh fm' T' f81.results.toList = some (cs, us) ∧ allP cs) ∧ ∃ st σ2, σ' = st :: σ2 ∧ st.1 ≠ .busy ∧
        match st.2 with
        | none => AExit.normal = .normal ∧ [(1, .var 7 0), (2, .var 8 0), (6, .slice 1 0 ga 0 3 (some 3)), (7, .int .i64 3), (8, .int .i64 0), (13, .func (.func 81) [] [.var 9 0, .var 10 0])] = (H2c0 z0 z1 z2 g0 n0 g1 n1 g2 n2 ga kx).fm ∧ T' = (TNc0 z0 z1 z2 g0 n0 g1 n1 g2 n2 ga kx (hsLaw kx y z0 n0) l1) ∧ σ2 = [(.ready, none)]
        | some (.exit id) => AExit.exit id = .normal ∧ [(1, .var 7 0), (2, .var 8 0), (6, .slice 1 0 ga 0 3 (some 3)), (7, .int .i64 3), (8, .int .i64 0), (13, .func (.func 81) [] [.var 9 0, .var 10 0])] = (H2c0 z0 z1 z2 g0 n0 g1 n1 g2 n2 ga kx).fm ∧ T' = (TNc0 z0 z1 z2 g0 n0 g1 n1 g2 n2 ga kx (hsLaw kx y z0 n0) l1) ∧ σ2 = [(.ready, none)]
        | some .ret => AExit.ret = .normal ∧ [(1, .var 7 0), (2, .var 8 0), (6, .slice 1 0 ga 0 3 (some 3)), (7, .int .i64 3), (8, .int .i64 0), (13, .func (.func 81) [] [.var 9 0, .var 10 0])] = (H2c0 z0 z1 z2 g0 n0 g1 n1 g2 n2 ga kx).fm ∧ T' = (TNc0 z0 z1 z2 g0 n0 g1 n1 g2 n2 ga kx (hsLaw kx y z0 n0) l1) ∧ σ2 = [(.ready, none)]
        | _ => False := by
  have hamb := ambc0 z0 z1 z2 g0 n0 g1 n1 g2 n2 ga kx l1 l2
  rw [splitb81, res81]
  refine YWp.seq (YWp.ofTo (To.of (o := Zsc0 z0 z1 z2 g0 n0 g1 n1 g2 n2 ga kx y l1 l2) eGh_ok hmA (Nat.le_refl 11) OrcOk.nil rfl (Zsc0_ok trivial) Zsc0_ex Zsc0_fm Zsc0_tab) hamb ?_)
  refine YWp.block (YWp.loop (fun fm T σ μ => ∃ j, 16 * j < n0 + 16 ∧ μ = n0 + 16 - j ∧ fm = [(0, .func (.yield l2) [] []), (1, .var 9 0), (2, .var 10 0), (4, .int .i64 ((16 * j : Nat) : Int))] ∧ T = (TNc0 z0 z1 z2 g0 n0 g1 n1 g2 n2 ga kx (hyLaw kx y z0 n0 j) l1) ∧ σ = [(.ready, none), (.ready, none)]) (n0 + 16) ⟨0, by omega, rfl, rfl, rfl, rfl⟩ ?_)
  rintro fm T σ μ ⟨j, hj, rfl, rfl, rfl, rfl⟩
  by_cases h : 16 * j < n0
  · refine YWp.mono (rdc0 e (hy_wp hy e.pz0 e.pb0 j) l1 l2 h) fun ex fm T σ hP => ?_
    obtain ⟨rfl, rfl, rfl, rfl⟩ := hP
    exact ⟨n0 + 16 - (j + 1), by omega, j + 1, by omega, rfl, rfl, rfl, rfl⟩
  · rw [split81]
    refine YWp.seq (YWp.ofTo (To.of (o := Hnc0 z0 z1 z2 g0 n0 g1 n1 g2 n2 ga kx (hyLaw kx y z0 n0 j) l1 l2 ((16 * j : Nat) : Int)) eGh_ok hmA (Nat.le_refl 11) OrcOk.nil rfl (Hnc0_ok ?_) Hnc0_ex Hnc0_fm Hnc0_tab) hamb ?_)
    · simp only [allP, Con.h, decide_eq_false_iff_not, eq_self, true_and, and_true]; omega
    obtain rfl : j = (n0 + 15) / 16 := by omega
    exact ⟨.inl rfl, ⟨[], [], rfl, trivial⟩, (.ready, none), _, rfl, by decide, rfl, rfl, rfl, rfl⟩
theorem roc0 {z0 z1 z2 : List Int} {g0 n0 g1 n1 g2 n2 ga : Nat} {kx : List Int} (e : Exc z0 z1 z2 g0 n0 g1 n1 g2 n2 ga kx) {y : List Int} (hy : WpLaw y) (l1 : Nat) :
    YWp eGh 30 8 [(l1, H1c)] (roundOf 0 f79) [(1, .var 7 0), (2, .var 8 0), (6, .slice 1 0 ga 0 3 (some 3)), (7, .int .i64 3), (8, .int .i64 0)] (TPc z0 z1 z2 g0 n0 g1 n1 g2 n2 ga kx y l1) [(.ready, none)] fun ex fm T σ => ex = .normal ∧ fm = [(1, .var 7 0), (2, .var 8 0), (6, .slice 1 0 ga 0 3 (some 3)), (7, .int .i64 3), (8, .int .i64 1)] ∧ T = ((TPc z0 z1 z2 g0 n0 g1 n1 g2 n2 ga kx (hsLaw kx y z0 n0) l1) : Tab) ∧ σ = [(.ready, none)] := by
  have hamb : ambIn 8 [(l1, H1c)] := ambIn_one rfl
  rw [split79]
  refine YWp.seq (YWp.ofTo (To.base (by decide) (To.of (o := Hdc0 z0 z1 z2 g0 n0 g1 n1 g2 n2 ga kx y l1) eGh_ok hmA (Nat.le_refl 9) OrcOk.nil rfl (Hdc0_ok trivial) Hdc0_ex Hdc0_fm Hdc0_tab)) hamb ?_)
  refine YWp.seq ?_
  rw [c79_eq]
  refine YWp.cond (b := true) rfl (fun _ => YWp.skip hamb ?_) (fun h => by cases h)
  refine YWp.sub (f := [(1, .var 7 0), (2, .var 8 0), (6, .slice 1 0 ga 0 3 (some 3)), (7, .int .i64 3), (8, .int .i64 0)]) ⟨rfl, rfl, rfl, rfl, rfl, trivial⟩ ?_
  refine YWp.seq (YWp.block (YWp.seq (YWp.ofTo (To.base (by decide) (To.of (o := Pac0 z0 z1 z2 g0 n0 g1 n1 g2 n2 ga kx y l1) eGh_ok hmA (Nat.le_refl 9) OrcOk.nil rfl (Pac0_ok ⟨rfl, rfl, trivial⟩) Pac0_ex Pac0_fm Pac0_tab)) hamb ?_)))
  refine YWp.sub (f := ((4, .slice 1 1 g0 0 n0 none) :: [(1, .var 7 0), (2, .var 8 0), (6, .slice 1 0 ga 0 3 (some 3)), (7, .int .i64 3), (8, .int .i64 0)])) ⟨rfl, rfl, rfl, rfl, rfl, rfl, trivial⟩ ?_
  refine YWp.seq (YWp.ofTo (To.base (by decide) (To.of (k := 9) (o := Pbc0 z0 z1 z2 g0 n0 g1 n1 g2 n2 ga kx y l1) eGh_ok hmA (Nat.le_refl 9) OrcOk.nil rfl (Pbc0_ok ⟨rfl, trivial⟩) Pbc0_ex Pbc0_fm Pbc0_tab)) hamb ?_)
  refine YWp.block ?_
  rw [rf79_eq]
  refine YWp.mono (YWp.rangeFunc (post := fun ex fm T' σ' => ex = .normal ∧ fm = (H2c0 z0 z1 z2 g0 n0 g1 n1 g2 n2 ga kx).fm ∧ T' = (TNc0 z0 z1 z2 g0 n0 g1 n1 g2 n2 ga kx (hsLaw kx y z0 n0) l1) ∧ σ' = [(.ready, none)]) eGh_ok (gf := 81) (gfn := f81) (c := bodyOf f81) (first := []) (caps := [.var 9 0, .var 10 0]) rfl (by kernel_rfl) (by kernel_rfl) (by kernel_rfl) (kk := 11) (by decide) (fmIn_of rfl) (by kernel_rfl) (fun l2 => inc0 e hy l1 l2)) fun ex fm T σ hP => ?_
  obtain ⟨rfl, rfl, rfl, rfl⟩ := hP
  show YWp eGh 30 8 [(l1, H1c)] r79 _ _ _ _
  exact YWp.ofTo (To.base (by decide) (To.of (k := 9) (o := Rrc0 z0 z1 z2 g0 n0 g1 n1 g2 n2 ga kx (hsLaw kx y z0 n0) l1) eGh_ok hmA (Nat.le_refl 9) OrcOk.nil rfl (Rrc0_ok trivial) Rrc0_ex Rrc0_fm Rrc0_tab)) hamb ⟨rfl, rfl, rfl, rfl⟩
noncomputable def H2c1 (z0 z1 z2 : List Int) (g0 n0 g1 n1 g2 n2 ga : Nat) (kx : List Int) : Host := ⟨#[14], as79, bd79, [(1, .var 7 0), (2, .var 8 0), (6, .slice 1 0 ga 0 3 (some 3)), (7, .int .i64 3), (8, .int .i64 1), (13, .func (.func 81) [] [.var 9 0, .var 10 0])], 30⟩
theorem ambc1 (z0 z1 z2 : List Int) (g0 n0 g1 n1 g2 n2 ga : Nat) (kx : List Int) (l1 l2 : Nat) : ambIn 11 [(l2, H2c1 z0 z1 z2 g0 n0 g1 n1 g2 n2 ga kx), (l1, H1c)] := fun x hx => by
  rcases List.mem_cons.1 hx with rfl | hx
  · exact fmIn_of rfl
  · exact ambIn_one rfl x hx
theorem ambMc1 (z0 z1 z2 : List Int) (g0 n0 g1 n1 g2 n2 ga : Nat) (kx : List Int) (l1 l2 : Nat) : ambIn 12 [(l2, H2c1 z0 z1 z2 g0 n0 g1 n1 g2 n2 ga kx), (l1, H1c)] := fun x hx => by
  rcases List.mem_cons.1 hx with rfl | hx
  · exact fmIn_of rfl
  · exact ambIn_one rfl x hx
theorem chfc1 {z0 z1 z2 : List Int} {g0 n0 g1 n1 g2 n2 ga : Nat} {kx : List Int} (e : Exc z0 z1 z2 g0 n0 g1 n1 g2 n2 ga kx) {y : List Int} (hy : WpLaw y) (l1 l2 : Nat) {j : Nat} (hj : 16 * j + 16 ≤ n1) :
    YWp eGh 30 11 [(l2, H2c1 z0 z1 z2 g0 n0 g1 n1 g2 n2 ga kx), (l1, H1c)] bd79 [(2, .var 8 0), (5, .slice 1 2 g1 (16 * j) 16 (some 16))] (TNc1 z0 z1 z2 g0 n0 g1 n1 g2 n2 ga kx y l1) [(.busy, none), (.ready, none)] fun ex fm T σ => ex = .normal ∧ T = ((TNc1 z0 z1 z2 g0 n0 g1 n1 g2 n2 ga kx (mwLaw (xwLaw y (gwLaw (ckLaw z1 n1 j))) kx) l1) : Tab) ∧ σ = [(.busy, none), (.ready, none)] := by
  have hamb := ambc1 z0 z1 z2 g0 n0 g1 n1 g2 n2 ga kx l1 l2
  have hambM := ambMc1 z0 z1 z2 g0 n0 g1 n1 g2 n2 ga kx l1 l2
  have hz := e.pz1
  have hbz := e.pb1
  have hcl := ck_len hz j
  have hcb := ck_bytes hbz n1 j
  have eb : (subLaw z1 (addO (16 * j) 0) 16) = (ckLaw z1 n1 j) := by rw [addO_eq, Nat.add_zero, ck_full hj]
  have hw : WpLaw (gwLaw (subLaw z1 (addO (16 * j) 0) 16)) := by rw [eb]; exact .gw hcb hcl
  rw [bd79_eq]
  refine YWp.block (YWp.seq (YWp.yieldDrawn eGh_ok hmA (l1 := ops79.toList.take 12) (oy := ops79.toList.getD 12 default) (o2 := ops79.toList.getD 13 default) (by kernel_rfl) (ds1 := [some true]) (o1 := Dfc1 z0 z1 z2 g0 n0 g1 n1 g2 n2 ga kx y l1 l2 (16 * j)) (by kernel_rfl) (by kernel_rfl) (by kernel_rfl) (by kernel_rfl) (by kernel_rfl) (by kernel_rfl) (Dfc1_ok ?_) (f := .tmp 15) (x := .tmp 26) (t := 27) (c := theCall (ops79.toList.getD 12 default)) (by kernel_rfl) (by kernel_rfl) (by kernel_rfl) (by kernel_rfl) (by kernel_rfl) (by kernel_rfl) (by decide) (i := 1) (l := l1) (H := H1c) (by rw [Dfc1_fm]; rfl) (v := .ints .u64 (gwLaw (subLaw z1 (addO (16 * j) 0) 16))) (by rw [Dfc1_fm]; rfl) rfl rfl (p := 9) rfl (by decide) (kk := 11) (by decide) (by rw [Dfc1_fm]; exact fmIn_of rfl) hamb ?_))
  · simp only [allP, Con.h, addO_eq, Nat.add_zero, hbz, eq_self, true_and, and_true]
    omega
  rw [Dfc1_tab]
  refine YWp.ofTo (To.of (o := A6fc1 z0 z1 z2 g0 n0 g1 n1 g2 n2 ga kx y l1 (gwLaw (subLaw z1 (addO (16 * j) 0) 16))) eGh_ok hmA (Nat.le_refl 11) OrcOk.nil rfl (A6fc1_ok ⟨hw.len, trivial⟩) A6fc1_ex A6fc1_fm A6fc1_tab) hamb ⟨rfl, rfl, ?_⟩
  refine YWp.ofTo (To.of (o := B6fc1 z0 z1 z2 g0 n0 g1 n1 g2 n2 ga kx y l1 (gwLaw (subLaw z1 (addO (16 * j) 0) 16))) eGh_ok hmA (Nat.le_refl 11) OrcOk.nil rfl (B6fc1_ok ?_) B6fc1_ex B6fc1_fm B6fc1_tab) hamb ⟨by decide, [], Ntc1 z0 z1 z2 g0 n0 g1 n1 g2 n2 ga kx (mwLaw (xwLaw y (gwLaw (subLaw z1 (addO (16 * j) 0) 16))) kx) l1 _, rfl, Ntc1_ok trivial, ?_⟩
  · have h1 := hy.len
    have h2 := hw.len
    have h3 := e.pk.len
    have h4 := hy.xw hw
    simp only [allP, Con.h, h1, h2, h3, h4, hy, hw, e.pk, and_true, true_and]
  rw [Ntc1_fm, Ntc1_tab, eb]
  show YWp eGh 30 11 [(l2, H2c1 z0 z1 z2 g0 n0 g1 n1 g2 n2 ga kx), (l1, H1c)] cnd79 _ _ _ _
  rw [cnd79_eq]
  exact YWp.cond (b := false) rfl (fun h => by cases h) (fun _ => YWp.skip hamb ⟨rfl, rfl, rfl⟩)
theorem chpc1 {z0 z1 z2 : List Int} {g0 n0 g1 n1 g2 n2 ga : Nat} {kx : List Int} (e : Exc z0 z1 z2 g0 n0 g1 n1 g2 n2 ga kx) {y : List Int} (hy : WpLaw y) (l1 l2 : Nat) {j r : Nat} (hr : r < 16) (hj : 16 * j + r = n1) :
    YWp eGh 30 11 [(l2, H2c1 z0 z1 z2 g0 n0 g1 n1 g2 n2 ga kx), (l1, H1c)] bd79 [(2, .var 8 0), (5, .slice 1 2 g1 (16 * j) r (some r))] (TNc1 z0 z1 z2 g0 n0 g1 n1 g2 n2 ga kx y l1) [(.busy, none), (.ready, none)] fun ex fm T σ => ex = .normal ∧ T = ((TNc1 z0 z1 z2 g0 n0 g1 n1 g2 n2 ga kx (mwLaw (xwLaw y (gwLaw (ckLaw z1 n1 j))) kx) l1) : Tab) ∧ σ = [(.busy, none), (.ready, none)] := by
  have hamb := ambc1 z0 z1 z2 g0 n0 g1 n1 g2 n2 ga kx l1 l2
  have hambM := ambMc1 z0 z1 z2 g0 n0 g1 n1 g2 n2 ga kx l1 l2
  have hz := e.pz1
  have hbz := e.pb1
  have hcl := ck_len hz j
  have hcb := ck_bytes hbz n1 j
  have ex0 : (List.take r (dropO (addO (16 * j) 0) z1) ++ List.replicate (16 - (r : Int)).toNat 0) = (ckLaw z1 n1 j) := by
    rw [addO_eq, Nat.add_zero, dropO_eq, ck_part (by omega), show n1 - 16 * j = r by omega, show (16 - (r : Int)).toNat = 16 - r by omega]
  have eb : (subLaw (List.take r (dropO (addO (16 * j) 0) z1) ++ List.replicate (16 - (r : Int)).toNat 0) 0 16) = (ckLaw z1 n1 j) := by
    rw [ex0, take_sub, List.take_of_length_le (by omega)]
  have hw : WpLaw (gwLaw (subLaw (List.take r (dropO (addO (16 * j) 0) z1) ++ List.replicate (16 - (r : Int)).toNat 0) 0 16)) := by rw [eb]; exact .gw hcb hcl
  rw [bd79_eq]
  refine YWp.block (YWp.seq (YWp.yieldDrawn eGh_ok hmA (l1 := ops79.toList.take 12) (oy := ops79.toList.getD 12 default) (o2 := ops79.toList.getD 13 default) (by kernel_rfl) (ds1 := [some false]) (o1 := Dpc1 z0 z1 z2 g0 n0 g1 n1 g2 n2 ga kx y l1 l2 (16 * j) r) (by kernel_rfl) (by kernel_rfl) (by kernel_rfl) (by kernel_rfl) (by kernel_rfl) (by kernel_rfl) (Dpc1_ok ?_) (f := .tmp 15) (x := .tmp 26) (t := 27) (c := theCall (ops79.toList.getD 12 default)) (by kernel_rfl) (by kernel_rfl) (by kernel_rfl) (by kernel_rfl) (by kernel_rfl) (by kernel_rfl) (by decide) (i := 1) (l := l1) (H := H1c) (by rw [Dpc1_fm]; rfl) (v := .ints .u64 (gwLaw (subLaw (List.take r (dropO (addO (16 * j) 0) z1) ++ List.replicate (16 - (r : Int)).toNat 0) 0 16))) (by rw [Dpc1_fm]; rfl) rfl rfl (p := 9) rfl (by decide) (kk := 12) (by decide) (by rw [Dpc1_fm]; exact fmIn_of rfl) hamb ?_))
  · rw [ex0]
    simp only [allP, Con.h, addO_eq, Nat.add_zero, hcl, hcb, eq_self, true_and, and_true]
    omega
  rw [Dpc1_tab]
  refine YWp.ofTo (To.of (o := A6pc1 z0 z1 z2 g0 n0 g1 n1 g2 n2 ga kx y l1 (List.take r (dropO (addO (16 * j) 0) z1) ++ List.replicate (16 - (r : Int)).toNat 0) (gwLaw (subLaw (List.take r (dropO (addO (16 * j) 0) z1) ++ List.replicate (16 - (r : Int)).toNat 0) 0 16))) eGh_ok hmA (Nat.le_refl 12) OrcOk.nil rfl (A6pc1_ok ⟨hw.len, trivial⟩) A6pc1_ex A6pc1_fm A6pc1_tab) hambM ⟨rfl, rfl, ?_⟩
  refine YWp.ofTo (To.of (o := B6pc1 z0 z1 z2 g0 n0 g1 n1 g2 n2 ga kx y l1 (List.take r (dropO (addO (16 * j) 0) z1) ++ List.replicate (16 - (r : Int)).toNat 0) (gwLaw (subLaw (List.take r (dropO (addO (16 * j) 0) z1) ++ List.replicate (16 - (r : Int)).toNat 0) 0 16))) eGh_ok hmA (Nat.le_refl 12) OrcOk.nil rfl (B6pc1_ok ?_) B6pc1_ex B6pc1_fm B6pc1_tab) hambM ⟨by decide, [], Nqc1 z0 z1 z2 g0 n0 g1 n1 g2 n2 ga kx (mwLaw (xwLaw y (gwLaw (subLaw (List.take r (dropO (addO (16 * j) 0) z1) ++ List.replicate (16 - (r : Int)).toNat 0) 0 16))) kx) l1 (List.take r (dropO (addO (16 * j) 0) z1) ++ List.replicate (16 - (r : Int)).toNat 0) _, rfl, Nqc1_ok trivial, ?_⟩
  · have h1 := hy.len
    have h2 := hw.len
    have h3 := e.pk.len
    have h4 := hy.xw hw
    simp only [allP, Con.h, h1, h2, h3, h4, hy, hw, e.pk, and_true, true_and]
  rw [Nqc1_fm, Nqc1_tab, eb]
  show YWp eGh 30 11 [(l2, H2c1 z0 z1 z2 g0 n0 g1 n1 g2 n2 ga kx), (l1, H1c)] cnd79 _ _ _ _
  refine YWp.sub (f := [(28, .bool false)]) ⟨rfl, trivial⟩ ?_
  exact YWp.ofTo (To.of (k := 11) (o := Cpc1 z0 z1 z2 g0 n0 g1 n1 g2 n2 ga kx (mwLaw (xwLaw y (gwLaw (ckLaw z1 n1 j))) kx) l1 (List.take r (dropO (addO (16 * j) 0) z1) ++ List.replicate (16 - (r : Int)).toNat 0)) eGh_ok hmA (Nat.le_refl 11) OrcOk.nil rfl (Cpc1_ok trivial) Cpc1_ex Cpc1_fm Cpc1_tab) hamb ⟨rfl, rfl, rfl⟩
theorem chc1 {z0 z1 z2 : List Int} {g0 n0 g1 n1 g2 n2 ga : Nat} {kx : List Int} (e : Exc z0 z1 z2 g0 n0 g1 n1 g2 n2 ga kx) {y : List Int} (hy : WpLaw y) (l1 l2 : Nat) {j : Nat} (hj : 16 * j < n1) :
    YWp eGh 30 11 [(l2, H2c1 z0 z1 z2 g0 n0 g1 n1 g2 n2 ga kx), (l1, H1c)] bd79 [(2, .var 8 0), (5, .slice 1 2 g1 (16 * j) (min 16 (n1 - 16 * j)) (some (min 16 (n1 - 16 * j))))] (TNc1 z0 z1 z2 g0 n0 g1 n1 g2 n2 ga kx y l1) [(.busy, none), (.ready, none)] fun ex fm T σ => ex = .normal ∧ T = ((TNc1 z0 z1 z2 g0 n0 g1 n1 g2 n2 ga kx (mwLaw (xwLaw y (gwLaw (ckLaw z1 n1 j))) kx) l1) : Tab) ∧ σ = [(.busy, none), (.ready, none)] := by
  by_cases h : 16 * j + 16 ≤ n1
  · rw [show min 16 (n1 - 16 * j) = 16 by omega]
    exact chfc1 e hy l1 l2 h
  · exact chpc1 e hy l1 l2 (by omega) (by omega)
theorem rdc1 {z0 z1 z2 : List Int} {g0 n0 g1 n1 g2 n2 ga : Nat} {kx : List Int} (e : Exc z0 z1 z2 g0 n0 g1 n1 g2 n2 ga kx) {y : List Int} (hy : WpLaw y) (l1 l2 : Nat) {j : Nat} (hj : 16 * j < n1) :
    YWp eGh 31 11 [(l2, H2c1 z0 z1 z2 g0 n0 g1 n1 g2 n2 ga kx), (l1, H1c)] (roundOf 0 f81) [(0, .func (.yield l2) [] []), (1, .var 9 0), (2, .var 10 0), (4, .int .i64 ((16 * j : Nat) : Int))] (TNc1 z0 z1 z2 g0 n0 g1 n1 g2 n2 ga kx y l1) [(.ready, none), (.ready, none)] fun ex fm T σ => ex = .normal ∧ fm = [(0, .func (.yield l2) [] []), (1, .var 9 0), (2, .var 10 0), (4, .int .i64 ((16 * (j + 1) : Nat) : Int))] ∧ T = ((TNc1 z0 z1 z2 g0 n0 g1 n1 g2 n2 ga kx (mwLaw (xwLaw y (gwLaw (ckLaw z1 n1 j))) kx) l1) : Tab) ∧ σ = [(.ready, none), (.ready, none)] := by
  have hamb := ambc1 z0 z1 z2 g0 n0 g1 n1 g2 n2 ga kx l1 l2
  have hz := e.pz1
  have hm := e.pm1
  skip
  have er : (if (↑(subO n1 ((16 * j : Nat) : Int).toNat) : Int) < 16 then (↑(subO n1 ((16 * j : Nat) : Int).toNat) : Int) else 16) = ((min 16 (n1 - 16 * j) : Nat) : Int) := by
    rw [Int.toNat_natCast, subO_eq, min16]
  have e1 : ((16 * j : Nat) : Int).toNat = 16 * j := Int.toNat_natCast _
  have e2 : subO (((16 * j : Nat) : Int) + ((min 16 (n1 - 16 * j) : Nat) : Int)).toNat (16 * j) = min 16 (n1 - 16 * j) := by rw [subO_eq]; omega
  rw [split81]
  refine YWp.seq (YWp.ofTo (To.of (o := Hyc1 z0 z1 z2 g0 n0 g1 n1 g2 n2 ga kx y l1 l2 ((16 * j : Nat) : Int)) eGh_ok hmA (Nat.le_refl 11) OrcOk.nil rfl (Hyc1_ok ?_) Hyc1_ex Hyc1_fm Hyc1_tab) hamb ?_)
  · simp only [allP, Con.h, decide_eq_true_eq, eq_self, true_and, and_true]; omega
  refine YWp.seq (YWp.block (YWp.seq (YWp.ofTo (To.of (o := Msc1 z0 z1 z2 g0 n0 g1 n1 g2 n2 ga kx y l1 l2 ((16 * j : Nat) : Int)) (fm' := [(0, .func (.yield l2) [] []), (1, .var 9 0), (2, .var 10 0), (4, .int .i64 ((16 * j : Nat) : Int))] ++ [(5, .int .i64 ((min 16 (n1 - 16 * j) : Nat) : Int))]) eGh_ok hmA (Nat.le_refl 11) OrcOk.nil rfl (Msc1_ok ?_) Msc1_ex (by rw [Msc1_fm, er]; rfl) Msc1_tab) hamb ?_)))
  · simp only [allP, Con.h, eq_self, true_and, and_true]; omega
  refine YWp.seq (YWp.yieldRegion eGh_ok (l1 := ops81.toList.take 10) (l2 := ops81.toList.drop 11) (oy := ops81.toList.getD 10 default) (by kernel_rfl) (ds1 := []) (o1 := Yac1 z0 z1 z2 g0 n0 g1 n1 g2 n2 ga kx y l1 l2 ((16 * j : Nat) : Int) ((min 16 (n1 - 16 * j) : Nat) : Int)) (by kernel_rfl) (Yac1_ok ?_) (f := .tmp 19) (x := .tmp 28) (t := 29) (c := theCall (ops81.toList.getD 10 default)) (by kernel_rfl) (by kernel_rfl) (by kernel_rfl) (by kernel_rfl) (by kernel_rfl) (by decide) (i := 0) (l := l2) (H := H2c1 z0 z1 z2 g0 n0 g1 n1 g2 n2 ga kx) (by rw [Yac1_fm]; rfl) (v := .slice 1 2 g1 (16 * j) (min 16 (n1 - 16 * j)) (some (min 16 (n1 - 16 * j)))) (by rw [Yac1_fm, e1, e2]; rfl) rfl rfl (p := 14) rfl (show 14 < 30 by decide) (kk := 11) (Nat.le_refl _) (by rw [Yac1_fm]; exact fmIn_of rfl) hamb ?_)
  · simp only [allP, Con.h, eq_self, true_and, and_true]; omega
  rw [Yac1_tab]
  refine YWp.ofTo (To.of (o := Asc1 z0 z1 z2 g0 n0 g1 n1 g2 n2 ga kx y l1 l2 (16 * j) (min 16 (n1 - 16 * j))) eGh_ok hmA (Nat.le_refl 11) OrcOk.nil rfl (Asc1_ok trivial) Asc1_ex Asc1_fm Asc1_tab) hamb ⟨rfl, rfl, ?_⟩
  refine YWp.mono (chc1 e hy l1 l2 hj) fun ex fm T σ hP => ?_
  obtain ⟨rfl, rfl, rfl⟩ := hP
  refine ⟨by decide, [], Nuc1 z0 z1 z2 g0 n0 g1 n1 g2 n2 ga kx (mwLaw (xwLaw y (gwLaw (ckLaw z1 n1 j))) kx) l1 _, rfl, Nuc1_ok trivial, ?_⟩
  rw [Nuc1_fm, Nuc1_tab, Yac1_fm]
  show YWp eGh 31 11 [(l2, H2c1 z0 z1 z2 g0 n0 g1 n1 g2 n2 ga kx), (l1, H1c)] cnd81 _ _ _ _
  rw [cnd81_eq]
  refine YWp.cond (b := false) rfl (fun h => by cases h) (fun _ => YWp.skip hamb ?_)
  show YWp eGh 31 11 [(l2, H2c1 z0 z1 z2 g0 n0 g1 n1 g2 n2 ga kx), (l1, H1c)] r81 _ _ _ _
  refine YWp.sub (f := [(0, .func (.yield l2) [] []), (1, .var 9 0), (2, .var 10 0), (4, .int .i64 ((16 * j : Nat) : Int))]) ⟨rfl, rfl, rfl, rfl, trivial⟩ ?_
  refine YWp.ofTo (To.of (o := Rbc1 z0 z1 z2 g0 n0 g1 n1 g2 n2 ga kx _ l1 l2 ((16 * j : Nat) : Int)) eGh_ok hmA (Nat.le_refl 11) OrcOk.nil rfl (Rbc1_ok ?_) Rbc1_ex Rbc1_fm Rbc1_tab) hamb ⟨rfl, ?_, rfl, rfl⟩
  · simp only [allP, Con.h, and_true]; omega
  · rw [show ((16 * j : Nat) : Int) + 16 = ((16 * (j + 1) : Nat) : Int) by omega]
theorem inc1 {z0 z1 z2 : List Int} {g0 n0 g1 n1 g2 n2 ga : Nat} {kx : List Int} (e : Exc z0 z1 z2 g0 n0 g1 n1 g2 n2 ga kx) {y : List Int} (hy : WpLaw y) (l1 l2 : Nat) :
    YWp eGh 31 11 [(l2, H2c1 z0 z1 z2 g0 n0 g1 n1 g2 n2 ga kx), (l1, H1c)] (bodyOf f81) (argF ([] ++ (.func (.yield l2) [] [] :: [.var 9 0, .var 10 0])) 0) (TNc1 z0 z1 z2 g0 n0 g1 n1 g2 n2 ga kx y l1) [(.ready, none), (.ready, none)] fun ex fm' T' σ' =>
      (ex = .normal ∨ ex = .ret) ∧ (∃ cs us, aRes eGh fm' T' f81.results.toList = some (cs, us) ∧ allP cs) ∧ ∃ st σ2, σ' = st :: σ2 ∧ st.1 ≠ .busy ∧
        match st.2 with
        | none => AExit.normal = .normal ∧ [(1, .var 7 0), (2, .var 8 0), (6, .slice 1 0 ga 0 3 (some 3)), (7, .int .i64 3), (8, .int .i64 1), (13, .func (.func 81) [] [.var 9 0, .var 10 0])] = (H2c1 z0 z1 z2 g0 n0 g1 n1 g2 n2 ga kx).fm ∧ T' = (TNc1 z0 z1 z2 g0 n0 g1 n1 g2 n2 ga kx (hsLaw kx y z1 n1) l1) ∧ σ2 = [(.ready, none)]
        | some (.exit id) => AExit.exit id = .normal ∧ [(1, .var 7 0), (2, .var 8 0), (6, .slice 1 0 ga 0 3 (some 3)), (7, .int .i64 3), (8, .int .i64 1), (13, .func (.func 81) [] [.var 9 0, .var 10 0])] = (H2c1 z0 z1 z2 g0 n0 g1 n1 g2 n2 ga kx).fm ∧ T' = (TNc1 z0 z1 z2 g0 n0 g1 n1 g2 n2 ga kx (hsLaw kx y z1 n1) l1) ∧ σ2 = [(.ready, none)]
        | some .ret => AExit.ret = .normal ∧ [(1, .var 7 0), (2, .var 8 0), (6, .slice 1 0 ga 0 3 (some 3)), (7, .int .i64 3), (8, .int .i64 1), (13, .func (.func 81) [] [.var 9 0, .var 10 0])] = (H2c1 z0 z1 z2 g0 n0 g1 n1 g2 n2 ga kx).fm ∧ T' = (TNc1 z0 z1 z2 g0 n0 g1 n1 g2 n2 ga kx (hsLaw kx y z1 n1) l1) ∧ σ2 = [(.ready, none)]
        | _ => False := by
  have hamb := ambc1 z0 z1 z2 g0 n0 g1 n1 g2 n2 ga kx l1 l2
  rw [splitb81, res81]
  refine YWp.seq (YWp.ofTo (To.of (o := Zsc1 z0 z1 z2 g0 n0 g1 n1 g2 n2 ga kx y l1 l2) eGh_ok hmA (Nat.le_refl 11) OrcOk.nil rfl (Zsc1_ok trivial) Zsc1_ex Zsc1_fm Zsc1_tab) hamb ?_)
  refine YWp.block (YWp.loop (fun fm T σ μ => ∃ j, 16 * j < n1 + 16 ∧ μ = n1 + 16 - j ∧ fm = [(0, .func (.yield l2) [] []), (1, .var 9 0), (2, .var 10 0), (4, .int .i64 ((16 * j : Nat) : Int))] ∧ T = (TNc1 z0 z1 z2 g0 n0 g1 n1 g2 n2 ga kx (hyLaw kx y z1 n1 j) l1) ∧ σ = [(.ready, none), (.ready, none)]) (n1 + 16) ⟨0, by omega, rfl, rfl, rfl, rfl⟩ ?_)
  rintro fm T σ μ ⟨j, hj, rfl, rfl, rfl, rfl⟩
  by_cases h : 16 * j < n1
  · refine YWp.mono (rdc1 e (hy_wp hy e.pz1 e.pb1 j) l1 l2 h) fun ex fm T σ hP => ?_
    obtain ⟨rfl, rfl, rfl, rfl⟩ := hP
    exact ⟨n1 + 16 - (j + 1), by omega, j + 1, by omega, rfl, rfl, rfl, rfl⟩
  · rw [split81]
    refine YWp.seq (YWp.ofTo (To.of (o := Hnc1 z0 z1 z2 g0 n0 g1 n1 g2 n2 ga kx (hyLaw kx y z1 n1 j) l1 l2 ((16 * j : Nat) : Int)) eGh_ok hmA (Nat.le_refl 11) OrcOk.nil rfl (Hnc1_ok ?_) Hnc1_ex Hnc1_fm Hnc1_tab) hamb ?_)
    · simp only [allP, Con.h, decide_eq_false_iff_not, eq_self, true_and, and_true]; omega
    obtain rfl : j = (n1 + 15) / 16 := by omega
    exact ⟨.inl rfl, ⟨[], [], rfl, trivial⟩, (.ready, none), _, rfl, by decide, rfl, rfl, rfl, rfl⟩
theorem roc1 {z0 z1 z2 : List Int} {g0 n0 g1 n1 g2 n2 ga : Nat} {kx : List Int} (e : Exc z0 z1 z2 g0 n0 g1 n1 g2 n2 ga kx) {y : List Int} (hy : WpLaw y) (l1 : Nat) :
    YWp eGh 30 8 [(l1, H1c)] (roundOf 0 f79) [(1, .var 7 0), (2, .var 8 0), (6, .slice 1 0 ga 0 3 (some 3)), (7, .int .i64 3), (8, .int .i64 1)] (TPc z0 z1 z2 g0 n0 g1 n1 g2 n2 ga kx y l1) [(.ready, none)] fun ex fm T σ => ex = .normal ∧ fm = [(1, .var 7 0), (2, .var 8 0), (6, .slice 1 0 ga 0 3 (some 3)), (7, .int .i64 3), (8, .int .i64 2)] ∧ T = ((TPc z0 z1 z2 g0 n0 g1 n1 g2 n2 ga kx (hsLaw kx y z1 n1) l1) : Tab) ∧ σ = [(.ready, none)] := by
  have hamb : ambIn 8 [(l1, H1c)] := ambIn_one rfl
  rw [split79]
  refine YWp.seq (YWp.ofTo (To.base (by decide) (To.of (o := Hdc1 z0 z1 z2 g0 n0 g1 n1 g2 n2 ga kx y l1) eGh_ok hmA (Nat.le_refl 9) OrcOk.nil rfl (Hdc1_ok trivial) Hdc1_ex Hdc1_fm Hdc1_tab)) hamb ?_)
  refine YWp.seq ?_
  rw [c79_eq]
  refine YWp.cond (b := true) rfl (fun _ => YWp.skip hamb ?_) (fun h => by cases h)
  refine YWp.sub (f := [(1, .var 7 0), (2, .var 8 0), (6, .slice 1 0 ga 0 3 (some 3)), (7, .int .i64 3), (8, .int .i64 1)]) ⟨rfl, rfl, rfl, rfl, rfl, trivial⟩ ?_
  refine YWp.seq (YWp.block (YWp.seq (YWp.ofTo (To.base (by decide) (To.of (o := Pac1 z0 z1 z2 g0 n0 g1 n1 g2 n2 ga kx y l1) eGh_ok hmA (Nat.le_refl 9) OrcOk.nil rfl (Pac1_ok ⟨rfl, rfl, trivial⟩) Pac1_ex Pac1_fm Pac1_tab)) hamb ?_)))
  refine YWp.sub (f := ((4, .slice 1 2 g1 0 n1 none) :: [(1, .var 7 0), (2, .var 8 0), (6, .slice 1 0 ga 0 3 (some 3)), (7, .int .i64 3), (8, .int .i64 1)])) ⟨rfl, rfl, rfl, rfl, rfl, rfl, trivial⟩ ?_
  refine YWp.seq (YWp.ofTo (To.base (by decide) (To.of (k := 9) (o := Pbc1 z0 z1 z2 g0 n0 g1 n1 g2 n2 ga kx y l1) eGh_ok hmA (Nat.le_refl 9) OrcOk.nil rfl (Pbc1_ok ⟨rfl, trivial⟩) Pbc1_ex Pbc1_fm Pbc1_tab)) hamb ?_)
  refine YWp.block ?_
  rw [rf79_eq]
  refine YWp.mono (YWp.rangeFunc (post := fun ex fm T' σ' => ex = .normal ∧ fm = (H2c1 z0 z1 z2 g0 n0 g1 n1 g2 n2 ga kx).fm ∧ T' = (TNc1 z0 z1 z2 g0 n0 g1 n1 g2 n2 ga kx (hsLaw kx y z1 n1) l1) ∧ σ' = [(.ready, none)]) eGh_ok (gf := 81) (gfn := f81) (c := bodyOf f81) (first := []) (caps := [.var 9 0, .var 10 0]) rfl (by kernel_rfl) (by kernel_rfl) (by kernel_rfl) (kk := 11) (by decide) (fmIn_of rfl) (by kernel_rfl) (fun l2 => inc1 e hy l1 l2)) fun ex fm T σ hP => ?_
  obtain ⟨rfl, rfl, rfl, rfl⟩ := hP
  show YWp eGh 30 8 [(l1, H1c)] r79 _ _ _ _
  exact YWp.ofTo (To.base (by decide) (To.of (k := 9) (o := Rrc1 z0 z1 z2 g0 n0 g1 n1 g2 n2 ga kx (hsLaw kx y z1 n1) l1) eGh_ok hmA (Nat.le_refl 9) OrcOk.nil rfl (Rrc1_ok trivial) Rrc1_ex Rrc1_fm Rrc1_tab)) hamb ⟨rfl, rfl, rfl, rfl⟩
noncomputable def H2c2 (z0 z1 z2 : List Int) (g0 n0 g1 n1 g2 n2 ga : Nat) (kx : List Int) : Host := ⟨#[14], as79, bd79, [(1, .var 7 0), (2, .var 8 0), (6, .slice 1 0 ga 0 3 (some 3)), (7, .int .i64 3), (8, .int .i64 2), (13, .func (.func 81) [] [.var 9 0, .var 10 0])], 30⟩
theorem ambc2 (z0 z1 z2 : List Int) (g0 n0 g1 n1 g2 n2 ga : Nat) (kx : List Int) (l1 l2 : Nat) : ambIn 11 [(l2, H2c2 z0 z1 z2 g0 n0 g1 n1 g2 n2 ga kx), (l1, H1c)] := fun x hx => by
  rcases List.mem_cons.1 hx with rfl | hx
  · exact fmIn_of rfl
  · exact ambIn_one rfl x hx
theorem ambMc2 (z0 z1 z2 : List Int) (g0 n0 g1 n1 g2 n2 ga : Nat) (kx : List Int) (l1 l2 : Nat) : ambIn 12 [(l2, H2c2 z0 z1 z2 g0 n0 g1 n1 g2 n2 ga kx), (l1, H1c)] := fun x hx => by
  rcases List.mem_cons.1 hx with rfl | hx
  · exact fmIn_of rfl
  · exact ambIn_one rfl x hx
theorem chfc2 {z0 z1 z2 : List Int} {g0 n0 g1 n1 g2 n2 ga : Nat} {kx : List Int} (e : Exc z0 z1 z2 g0 n0 g1 n1 g2 n2 ga kx) {y : List Int} (hy : WpLaw y) (l1 l2 : Nat) {j : Nat} (hj : 16 * j + 16 ≤ n2) :
    YWp eGh 30 11 [(l2, H2c2 z0 z1 z2 g0 n0 g1 n1 g2 n2 ga kx), (l1, H1c)] bd79 [(2, .var 8 0), (5, .slice 1 3 g2 (16 * j) 16 (some 16))] (TNc2 z0 z1 z2 g0 n0 g1 n1 g2 n2 ga kx y l1) [(.busy, none), (.ready, none)] fun ex fm T σ => ex = .normal ∧ T = ((TNc2 z0 z1 z2 g0 n0 g1 n1 g2 n2 ga kx (mwLaw (xwLaw y (gwLaw (ckLaw z2 n2 j))) kx) l1) : Tab) ∧ σ = [(.busy, none), (.ready, none)] := by
  have hamb := ambc2 z0 z1 z2 g0 n0 g1 n1 g2 n2 ga kx l1 l2
  have hambM := ambMc2 z0 z1 z2 g0 n0 g1 n1 g2 n2 ga kx l1 l2
  have hz := e.pz2
  have hbz := e.pb2
  have hcl := ck_len hz j
  have hcb := ck_bytes hbz n2 j
  have eb : (subLaw z2 (addO (16 * j) 0) 16) = (ckLaw z2 n2 j) := by rw [addO_eq, Nat.add_zero, ck_full hj]
  have hw : WpLaw (gwLaw (subLaw z2 (addO (16 * j) 0) 16)) := by rw [eb]; exact .gw hcb hcl
  rw [bd79_eq]
  refine YWp.block (YWp.seq (YWp.yieldDrawn eGh_ok hmA (l1 := ops79.toList.take 12) (oy := ops79.toList.getD 12 default) (o2 := ops79.toList.getD 13 default) (by kernel_rfl) (ds1 := [some true]) (o1 := Dfc2 z0 z1 z2 g0 n0 g1 n1 g2 n2 ga kx y l1 l2 (16 * j)) (by kernel_rfl) (by kernel_rfl) (by kernel_rfl) (by kernel_rfl) (by kernel_rfl) (by kernel_rfl) (Dfc2_ok ?_) (f := .tmp 15) (x := .tmp 26) (t := 27) (c := theCall (ops79.toList.getD 12 default)) (by kernel_rfl) (by kernel_rfl) (by kernel_rfl) (by kernel_rfl) (by kernel_rfl) (by kernel_rfl) (by decide) (i := 1) (l := l1) (H := H1c) (by rw [Dfc2_fm]; rfl) (v := .ints .u64 (gwLaw (subLaw z2 (addO (16 * j) 0) 16))) (by rw [Dfc2_fm]; rfl) rfl rfl (p := 9) rfl (by decide) (kk := 11) (by decide) (by rw [Dfc2_fm]; exact fmIn_of rfl) hamb ?_))
  · simp only [allP, Con.h, addO_eq, Nat.add_zero, hbz, eq_self, true_and, and_true]
    omega
  rw [Dfc2_tab]
  refine YWp.ofTo (To.of (o := A6fc2 z0 z1 z2 g0 n0 g1 n1 g2 n2 ga kx y l1 (gwLaw (subLaw z2 (addO (16 * j) 0) 16))) eGh_ok hmA (Nat.le_refl 11) OrcOk.nil rfl (A6fc2_ok ⟨hw.len, trivial⟩) A6fc2_ex A6fc2_fm A6fc2_tab) hamb ⟨rfl, rfl, ?_⟩
  refine YWp.ofTo (To.of (o := B6fc2 z0 z1 z2 g0 n0 g1 n1 g2 n2 ga kx y l1 (gwLaw (subLaw z2 (addO (16 * j) 0) 16))) eGh_ok hmA (Nat.le_refl 11) OrcOk.nil rfl (B6fc2_ok ?_) B6fc2_ex B6fc2_fm B6fc2_tab) hamb ⟨by decide, [], Ntc2 z0 z1 z2 g0 n0 g1 n1 g2 n2 ga kx (mwLaw (xwLaw y (gwLaw (subLaw z2 (addO (16 * j) 0) 16))) kx) l1 _, rfl, Ntc2_ok trivial, ?_⟩
  · have h1 := hy.len
    have h2 := hw.len
    have h3 := e.pk.len
    have h4 := hy.xw hw
    simp only [allP, Con.h, h1, h2, h3, h4, hy, hw, e.pk, and_true, true_and]
  rw [Ntc2_fm, Ntc2_tab, eb]
  show YWp eGh 30 11 [(l2, H2c2 z0 z1 z2 g0 n0 g1 n1 g2 n2 ga kx), (l1, H1c)] cnd79 _ _ _ _
  rw [cnd79_eq]
  exact YWp.cond (b := false) rfl (fun h => by cases h) (fun _ => YWp.skip hamb ⟨rfl, rfl, rfl⟩)
theorem chpc2 {z0 z1 z2 : List Int} {g0 n0 g1 n1 g2 n2 ga : Nat} {kx : List Int} (e : Exc z0 z1 z2 g0 n0 g1 n1 g2 n2 ga kx) {y : List Int} (hy : WpLaw y) (l1 l2 : Nat) {j r : Nat} (hr : r < 16) (hj : 16 * j + r = n2) :
    YWp eGh 30 11 [(l2, H2c2 z0 z1 z2 g0 n0 g1 n1 g2 n2 ga kx), (l1, H1c)] bd79 [(2, .var 8 0), (5, .slice 1 3 g2 (16 * j) r (some r))] (TNc2 z0 z1 z2 g0 n0 g1 n1 g2 n2 ga kx y l1) [(.busy, none), (.ready, none)] fun ex fm T σ => ex = .normal ∧ T = ((TNc2 z0 z1 z2 g0 n0 g1 n1 g2 n2 ga kx (mwLaw (xwLaw y (gwLaw (ckLaw z2 n2 j))) kx) l1) : Tab) ∧ σ = [(.busy, none), (.ready, none)] := by
  have hamb := ambc2 z0 z1 z2 g0 n0 g1 n1 g2 n2 ga kx l1 l2
  have hambM := ambMc2 z0 z1 z2 g0 n0 g1 n1 g2 n2 ga kx l1 l2
  have hz := e.pz2
  have hbz := e.pb2
  have hcl := ck_len hz j
  have hcb := ck_bytes hbz n2 j
  have ex0 : (List.take r (dropO (addO (16 * j) 0) z2) ++ List.replicate (16 - (r : Int)).toNat 0) = (ckLaw z2 n2 j) := by
    rw [addO_eq, Nat.add_zero, dropO_eq, ck_part (by omega), show n2 - 16 * j = r by omega, show (16 - (r : Int)).toNat = 16 - r by omega]
  have eb : (subLaw (List.take r (dropO (addO (16 * j) 0) z2) ++ List.replicate (16 - (r : Int)).toNat 0) 0 16) = (ckLaw z2 n2 j) := by
    rw [ex0, take_sub, List.take_of_length_le (by omega)]
  have hw : WpLaw (gwLaw (subLaw (List.take r (dropO (addO (16 * j) 0) z2) ++ List.replicate (16 - (r : Int)).toNat 0) 0 16)) := by rw [eb]; exact .gw hcb hcl
  rw [bd79_eq]
  refine YWp.block (YWp.seq (YWp.yieldDrawn eGh_ok hmA (l1 := ops79.toList.take 12) (oy := ops79.toList.getD 12 default) (o2 := ops79.toList.getD 13 default) (by kernel_rfl) (ds1 := [some false]) (o1 := Dpc2 z0 z1 z2 g0 n0 g1 n1 g2 n2 ga kx y l1 l2 (16 * j) r) (by kernel_rfl) (by kernel_rfl) (by kernel_rfl) (by kernel_rfl) (by kernel_rfl) (by kernel_rfl) (Dpc2_ok ?_) (f := .tmp 15) (x := .tmp 26) (t := 27) (c := theCall (ops79.toList.getD 12 default)) (by kernel_rfl) (by kernel_rfl) (by kernel_rfl) (by kernel_rfl) (by kernel_rfl) (by kernel_rfl) (by decide) (i := 1) (l := l1) (H := H1c) (by rw [Dpc2_fm]; rfl) (v := .ints .u64 (gwLaw (subLaw (List.take r (dropO (addO (16 * j) 0) z2) ++ List.replicate (16 - (r : Int)).toNat 0) 0 16))) (by rw [Dpc2_fm]; rfl) rfl rfl (p := 9) rfl (by decide) (kk := 12) (by decide) (by rw [Dpc2_fm]; exact fmIn_of rfl) hamb ?_))
  · rw [ex0]
    simp only [allP, Con.h, addO_eq, Nat.add_zero, hcl, hcb, eq_self, true_and, and_true]
    omega
  rw [Dpc2_tab]
  refine YWp.ofTo (To.of (o := A6pc2 z0 z1 z2 g0 n0 g1 n1 g2 n2 ga kx y l1 (List.take r (dropO (addO (16 * j) 0) z2) ++ List.replicate (16 - (r : Int)).toNat 0) (gwLaw (subLaw (List.take r (dropO (addO (16 * j) 0) z2) ++ List.replicate (16 - (r : Int)).toNat 0) 0 16))) eGh_ok hmA (Nat.le_refl 12) OrcOk.nil rfl (A6pc2_ok ⟨hw.len, trivial⟩) A6pc2_ex A6pc2_fm A6pc2_tab) hambM ⟨rfl, rfl, ?_⟩
  refine YWp.ofTo (To.of (o := B6pc2 z0 z1 z2 g0 n0 g1 n1 g2 n2 ga kx y l1 (List.take r (dropO (addO (16 * j) 0) z2) ++ List.replicate (16 - (r : Int)).toNat 0) (gwLaw (subLaw (List.take r (dropO (addO (16 * j) 0) z2) ++ List.replicate (16 - (r : Int)).toNat 0) 0 16))) eGh_ok hmA (Nat.le_refl 12) OrcOk.nil rfl (B6pc2_ok ?_) B6pc2_ex B6pc2_fm B6pc2_tab) hambM ⟨by decide, [], Nqc2 z0 z1 z2 g0 n0 g1 n1 g2 n2 ga kx (mwLaw (xwLaw y (gwLaw (subLaw (List.take r (dropO (addO (16 * j) 0) z2) ++ List.replicate (16 - (r : Int)).toNat 0) 0 16))) kx) l1 (List.take r (dropO (addO (16 * j) 0) z2) ++ List.replicate (16 - (r : Int)).toNat 0) _, rfl, Nqc2_ok trivial, ?_⟩
  · have h1 := hy.len
    have h2 := hw.len
    have h3 := e.pk.len
    have h4 := hy.xw hw
    simp only [allP, Con.h, h1, h2, h3, h4, hy, hw, e.pk, and_true, true_and]
  rw [Nqc2_fm, Nqc2_tab, eb]
  show YWp eGh 30 11 [(l2, H2c2 z0 z1 z2 g0 n0 g1 n1 g2 n2 ga kx), (l1, H1c)] cnd79 _ _ _ _
  refine YWp.sub (f := [(28, .bool false)]) ⟨rfl, trivial⟩ ?_
  exact YWp.ofTo (To.of (k := 11) (o := Cpc2 z0 z1 z2 g0 n0 g1 n1 g2 n2 ga kx (mwLaw (xwLaw y (gwLaw (ckLaw z2 n2 j))) kx) l1 (List.take r (dropO (addO (16 * j) 0) z2) ++ List.replicate (16 - (r : Int)).toNat 0)) eGh_ok hmA (Nat.le_refl 11) OrcOk.nil rfl (Cpc2_ok trivial) Cpc2_ex Cpc2_fm Cpc2_tab) hamb ⟨rfl, rfl, rfl⟩
theorem chc2 {z0 z1 z2 : List Int} {g0 n0 g1 n1 g2 n2 ga : Nat} {kx : List Int} (e : Exc z0 z1 z2 g0 n0 g1 n1 g2 n2 ga kx) {y : List Int} (hy : WpLaw y) (l1 l2 : Nat) {j : Nat} (hj : 16 * j < n2) :
    YWp eGh 30 11 [(l2, H2c2 z0 z1 z2 g0 n0 g1 n1 g2 n2 ga kx), (l1, H1c)] bd79 [(2, .var 8 0), (5, .slice 1 3 g2 (16 * j) (min 16 (n2 - 16 * j)) (some (min 16 (n2 - 16 * j))))] (TNc2 z0 z1 z2 g0 n0 g1 n1 g2 n2 ga kx y l1) [(.busy, none), (.ready, none)] fun ex fm T σ => ex = .normal ∧ T = ((TNc2 z0 z1 z2 g0 n0 g1 n1 g2 n2 ga kx (mwLaw (xwLaw y (gwLaw (ckLaw z2 n2 j))) kx) l1) : Tab) ∧ σ = [(.busy, none), (.ready, none)] := by
  by_cases h : 16 * j + 16 ≤ n2
  · rw [show min 16 (n2 - 16 * j) = 16 by omega]
    exact chfc2 e hy l1 l2 h
  · exact chpc2 e hy l1 l2 (by omega) (by omega)
theorem rdc2 {z0 z1 z2 : List Int} {g0 n0 g1 n1 g2 n2 ga : Nat} {kx : List Int} (e : Exc z0 z1 z2 g0 n0 g1 n1 g2 n2 ga kx) {y : List Int} (hy : WpLaw y) (l1 l2 : Nat) {j : Nat} (hj : 16 * j < n2) :
    YWp eGh 31 11 [(l2, H2c2 z0 z1 z2 g0 n0 g1 n1 g2 n2 ga kx), (l1, H1c)] (roundOf 0 f81) [(0, .func (.yield l2) [] []), (1, .var 9 0), (2, .var 10 0), (4, .int .i64 ((16 * j : Nat) : Int))] (TNc2 z0 z1 z2 g0 n0 g1 n1 g2 n2 ga kx y l1) [(.ready, none), (.ready, none)] fun ex fm T σ => ex = .normal ∧ fm = [(0, .func (.yield l2) [] []), (1, .var 9 0), (2, .var 10 0), (4, .int .i64 ((16 * (j + 1) : Nat) : Int))] ∧ T = ((TNc2 z0 z1 z2 g0 n0 g1 n1 g2 n2 ga kx (mwLaw (xwLaw y (gwLaw (ckLaw z2 n2 j))) kx) l1) : Tab) ∧ σ = [(.ready, none), (.ready, none)] := by
  have hamb := ambc2 z0 z1 z2 g0 n0 g1 n1 g2 n2 ga kx l1 l2
  have hz := e.pz2
  have hm := e.pm2
  skip
  have er : (if (↑(subO n2 ((16 * j : Nat) : Int).toNat) : Int) < 16 then (↑(subO n2 ((16 * j : Nat) : Int).toNat) : Int) else 16) = ((min 16 (n2 - 16 * j) : Nat) : Int) := by
    rw [Int.toNat_natCast, subO_eq, min16]
  have e1 : ((16 * j : Nat) : Int).toNat = 16 * j := Int.toNat_natCast _
  have e2 : subO (((16 * j : Nat) : Int) + ((min 16 (n2 - 16 * j) : Nat) : Int)).toNat (16 * j) = min 16 (n2 - 16 * j) := by rw [subO_eq]; omega
  rw [split81]
  refine YWp.seq (YWp.ofTo (To.of (o := Hyc2 z0 z1 z2 g0 n0 g1 n1 g2 n2 ga kx y l1 l2 ((16 * j : Nat) : Int)) eGh_ok hmA (Nat.le_refl 11) OrcOk.nil rfl (Hyc2_ok ?_) Hyc2_ex Hyc2_fm Hyc2_tab) hamb ?_)
  · simp only [allP, Con.h, decide_eq_true_eq, eq_self, true_and, and_true]; omega
  refine YWp.seq (YWp.block (YWp.seq (YWp.ofTo (To.of (o := Msc2 z0 z1 z2 g0 n0 g1 n1 g2 n2 ga kx y l1 l2 ((16 * j : Nat) : Int)) (fm' := [(0, .func (.yield l2) [] []), (1, .var 9 0), (2, .var 10 0), (4, .int .i64 ((16 * j : Nat) : Int))] ++ [(5, .int .i64 ((min 16 (n2 - 16 * j) : Nat) : Int))]) eGh_ok hmA (Nat.le_refl 11) OrcOk.nil rfl (Msc2_ok ?_) Msc2_ex (by rw [Msc2_fm, er]; rfl) Msc2_tab) hamb ?_)))
  · simp only [allP, Con.h, eq_self, true_and, and_true]; omega
  refine YWp.seq (YWp.yieldRegion eGh_ok (l1 := ops81.toList.take 10) (l2 := ops81.toList.drop 11) (oy := ops81.toList.getD 10 default) (by kernel_rfl) (ds1 := []) (o1 := Yac2 z0 z1 z2 g0 n0 g1 n1 g2 n2 ga kx y l1 l2 ((16 * j : Nat) : Int) ((min 16 (n2 - 16 * j) : Nat) : Int)) (by kernel_rfl) (Yac2_ok ?_) (f := .tmp 19) (x := .tmp 28) (t := 29) (c := theCall (ops81.toList.getD 10 default)) (by kernel_rfl) (by kernel_rfl) (by kernel_rfl) (by kernel_rfl) (by kernel_rfl) (by decide) (i := 0) (l := l2) (H := H2c2 z0 z1 z2 g0 n0 g1 n1 g2 n2 ga kx) (by rw [Yac2_fm]; rfl) (v := .slice 1 3 g2 (16 * j) (min 16 (n2 - 16 * j)) (some (min 16 (n2 - 16 * j)))) (by rw [Yac2_fm, e1, e2]; rfl) rfl rfl (p := 14) rfl (show 14 < 30 by decide) (kk := 11) (Nat.le_refl _) (by rw [Yac2_fm]; exact fmIn_of rfl) hamb ?_)
  · simp only [allP, Con.h, eq_self, true_and, and_true]; omega
  rw [Yac2_tab]
  refine YWp.ofTo (To.of (o := Asc2 z0 z1 z2 g0 n0 g1 n1 g2 n2 ga kx y l1 l2 (16 * j) (min 16 (n2 - 16 * j))) eGh_ok hmA (Nat.le_refl 11) OrcOk.nil rfl (Asc2_ok trivial) Asc2_ex Asc2_fm Asc2_tab) hamb ⟨rfl, rfl, ?_⟩
  refine YWp.mono (chc2 e hy l1 l2 hj) fun ex fm T σ hP => ?_
  obtain ⟨rfl, rfl, rfl⟩ := hP
  refine ⟨by decide, [], Nuc2 z0 z1 z2 g0 n0 g1 n1 g2 n2 ga kx (mwLaw (xwLaw y (gwLaw (ckLaw z2 n2 j))) kx) l1 _, rfl, Nuc2_ok trivial, ?_⟩
  rw [Nuc2_fm, Nuc2_tab, Yac2_fm]
  show YWp eGh 31 11 [(l2, H2c2 z0 z1 z2 g0 n0 g1 n1 g2 n2 ga kx), (l1, H1c)] cnd81 _ _ _ _
  rw [cnd81_eq]
  refine YWp.cond (b := false) rfl (fun h => by cases h) (fun _ => YWp.skip hamb ?_)
  show YWp eGh 31 11 [(l2, H2c2 z0 z1 z2 g0 n0 g1 n1 g2 n2 ga kx), (l1, H1c)] r81 _ _ _ _
  refine YWp.sub (f := [(0, .func (.yield l2) [] []), (1, .var 9 0), (2, .var 10 0), (4, .int .i64 ((16 * j : Nat) : Int))]) ⟨rfl, rfl, rfl, rfl, trivial⟩ ?_
  refine YWp.ofTo (To.of (o := Rbc2 z0 z1 z2 g0 n0 g1 n1 g2 n2 ga kx _ l1 l2 ((16 * j : Nat) : Int)) eGh_ok hmA (Nat.le_refl 11) OrcOk.nil rfl (Rbc2_ok ?_) Rbc2_ex Rbc2_fm Rbc2_tab) hamb ⟨rfl, ?_, rfl, rfl⟩
  · simp only [allP, Con.h, and_true]; omega
  · rw [show ((16 * j : Nat) : Int) + 16 = ((16 * (j + 1) : Nat) : Int) by omega]
theorem inc2 {z0 z1 z2 : List Int} {g0 n0 g1 n1 g2 n2 ga : Nat} {kx : List Int} (e : Exc z0 z1 z2 g0 n0 g1 n1 g2 n2 ga kx) {y : List Int} (hy : WpLaw y) (l1 l2 : Nat) :
    YWp eGh 31 11 [(l2, H2c2 z0 z1 z2 g0 n0 g1 n1 g2 n2 ga kx), (l1, H1c)] (bodyOf f81) (argF ([] ++ (.func (.yield l2) [] [] :: [.var 9 0, .var 10 0])) 0) (TNc2 z0 z1 z2 g0 n0 g1 n1 g2 n2 ga kx y l1) [(.ready, none), (.ready, none)] fun ex fm' T' σ' =>
      (ex = .normal ∨ ex = .ret) ∧ (∃ cs us, aRes eGh fm' T' f81.results.toList = some (cs, us) ∧ allP cs) ∧ ∃ st σ2, σ' = st :: σ2 ∧ st.1 ≠ .busy ∧
        match st.2 with
        | none => AExit.normal = .normal ∧ [(1, .var 7 0), (2, .var 8 0), (6, .slice 1 0 ga 0 3 (some 3)), (7, .int .i64 3), (8, .int .i64 2), (13, .func (.func 81) [] [.var 9 0, .var 10 0])] = (H2c2 z0 z1 z2 g0 n0 g1 n1 g2 n2 ga kx).fm ∧ T' = (TNc2 z0 z1 z2 g0 n0 g1 n1 g2 n2 ga kx (hsLaw kx y z2 n2) l1) ∧ σ2 = [(.ready, none)]
        | some (.exit id) => AExit.exit id = .normal ∧ [(1, .var 7 0), (2, .var 8 0), (6, .slice 1 0 ga 0 3 (some 3)), (7, .int .i64 3), (8, .int .i64 2), (13, .func (.func 81) [] [.var 9 0, .var 10 0])] = (H2c2 z0 z1 z2 g0 n0 g1 n1 g2 n2 ga kx).fm ∧ T' = (TNc2 z0 z1 z2 g0 n0 g1 n1 g2 n2 ga kx (hsLaw kx y z2 n2) l1) ∧ σ2 = [(.ready, none)]
        | some .ret => AExit.ret = .normal ∧ [(1, .var 7 0), (2, .var 8 0), (6, .slice 1 0 ga 0 3 (some 3)), (7, .int .i64 3), (8, .int .i64 2), (13, .func (.func 81) [] [.var 9 0, .var 10 0])] = (H2c2 z0 z1 z2 g0 n0 g1 n1 g2 n2 ga kx).fm ∧ T' = (TNc2 z0 z1 z2 g0 n0 g1 n1 g2 n2 ga kx (hsLaw kx y z2 n2) l1) ∧ σ2 = [(.ready, none)]
        | _ => False := by
  have hamb := ambc2 z0 z1 z2 g0 n0 g1 n1 g2 n2 ga kx l1 l2
  rw [splitb81, res81]
  refine YWp.seq (YWp.ofTo (To.of (o := Zsc2 z0 z1 z2 g0 n0 g1 n1 g2 n2 ga kx y l1 l2) eGh_ok hmA (Nat.le_refl 11) OrcOk.nil rfl (Zsc2_ok trivial) Zsc2_ex Zsc2_fm Zsc2_tab) hamb ?_)
  refine YWp.block (YWp.loop (fun fm T σ μ => ∃ j, 16 * j < n2 + 16 ∧ μ = n2 + 16 - j ∧ fm = [(0, .func (.yield l2) [] []), (1, .var 9 0), (2, .var 10 0), (4, .int .i64 ((16 * j : Nat) : Int))] ∧ T = (TNc2 z0 z1 z2 g0 n0 g1 n1 g2 n2 ga kx (hyLaw kx y z2 n2 j) l1) ∧ σ = [(.ready, none), (.ready, none)]) (n2 + 16) ⟨0, by omega, rfl, rfl, rfl, rfl⟩ ?_)
  rintro fm T σ μ ⟨j, hj, rfl, rfl, rfl, rfl⟩
  by_cases h : 16 * j < n2
  · refine YWp.mono (rdc2 e (hy_wp hy e.pz2 e.pb2 j) l1 l2 h) fun ex fm T σ hP => ?_
    obtain ⟨rfl, rfl, rfl, rfl⟩ := hP
    exact ⟨n2 + 16 - (j + 1), by omega, j + 1, by omega, rfl, rfl, rfl, rfl⟩
  · rw [split81]
    refine YWp.seq (YWp.ofTo (To.of (o := Hnc2 z0 z1 z2 g0 n0 g1 n1 g2 n2 ga kx (hyLaw kx y z2 n2 j) l1 l2 ((16 * j : Nat) : Int)) eGh_ok hmA (Nat.le_refl 11) OrcOk.nil rfl (Hnc2_ok ?_) Hnc2_ex Hnc2_fm Hnc2_tab) hamb ?_)
    · simp only [allP, Con.h, decide_eq_false_iff_not, eq_self, true_and, and_true]; omega
    obtain rfl : j = (n2 + 15) / 16 := by omega
    exact ⟨.inl rfl, ⟨[], [], rfl, trivial⟩, (.ready, none), _, rfl, by decide, rfl, rfl, rfl, rfl⟩
theorem roc2 {z0 z1 z2 : List Int} {g0 n0 g1 n1 g2 n2 ga : Nat} {kx : List Int} (e : Exc z0 z1 z2 g0 n0 g1 n1 g2 n2 ga kx) {y : List Int} (hy : WpLaw y) (l1 : Nat) :
    YWp eGh 30 8 [(l1, H1c)] (roundOf 0 f79) [(1, .var 7 0), (2, .var 8 0), (6, .slice 1 0 ga 0 3 (some 3)), (7, .int .i64 3), (8, .int .i64 2)] (TPc z0 z1 z2 g0 n0 g1 n1 g2 n2 ga kx y l1) [(.ready, none)] fun ex fm T σ => ex = .normal ∧ fm = [(1, .var 7 0), (2, .var 8 0), (6, .slice 1 0 ga 0 3 (some 3)), (7, .int .i64 3), (8, .int .i64 3)] ∧ T = ((TPc z0 z1 z2 g0 n0 g1 n1 g2 n2 ga kx (hsLaw kx y z2 n2) l1) : Tab) ∧ σ = [(.ready, none)] := by
  have hamb : ambIn 8 [(l1, H1c)] := ambIn_one rfl
  rw [split79]
  refine YWp.seq (YWp.ofTo (To.base (by decide) (To.of (o := Hdc2 z0 z1 z2 g0 n0 g1 n1 g2 n2 ga kx y l1) eGh_ok hmA (Nat.le_refl 9) OrcOk.nil rfl (Hdc2_ok trivial) Hdc2_ex Hdc2_fm Hdc2_tab)) hamb ?_)
  refine YWp.seq ?_
  rw [c79_eq]
  refine YWp.cond (b := true) rfl (fun _ => YWp.skip hamb ?_) (fun h => by cases h)
  refine YWp.sub (f := [(1, .var 7 0), (2, .var 8 0), (6, .slice 1 0 ga 0 3 (some 3)), (7, .int .i64 3), (8, .int .i64 2)]) ⟨rfl, rfl, rfl, rfl, rfl, trivial⟩ ?_
  refine YWp.seq (YWp.block (YWp.seq (YWp.ofTo (To.base (by decide) (To.of (o := Pac2 z0 z1 z2 g0 n0 g1 n1 g2 n2 ga kx y l1) eGh_ok hmA (Nat.le_refl 9) OrcOk.nil rfl (Pac2_ok ⟨rfl, rfl, trivial⟩) Pac2_ex Pac2_fm Pac2_tab)) hamb ?_)))
  refine YWp.sub (f := ((4, .slice 1 3 g2 0 n2 none) :: [(1, .var 7 0), (2, .var 8 0), (6, .slice 1 0 ga 0 3 (some 3)), (7, .int .i64 3), (8, .int .i64 2)])) ⟨rfl, rfl, rfl, rfl, rfl, rfl, trivial⟩ ?_
  refine YWp.seq (YWp.ofTo (To.base (by decide) (To.of (k := 9) (o := Pbc2 z0 z1 z2 g0 n0 g1 n1 g2 n2 ga kx y l1) eGh_ok hmA (Nat.le_refl 9) OrcOk.nil rfl (Pbc2_ok ⟨rfl, trivial⟩) Pbc2_ex Pbc2_fm Pbc2_tab)) hamb ?_)
  refine YWp.block ?_
  rw [rf79_eq]
  refine YWp.mono (YWp.rangeFunc (post := fun ex fm T' σ' => ex = .normal ∧ fm = (H2c2 z0 z1 z2 g0 n0 g1 n1 g2 n2 ga kx).fm ∧ T' = (TNc2 z0 z1 z2 g0 n0 g1 n1 g2 n2 ga kx (hsLaw kx y z2 n2) l1) ∧ σ' = [(.ready, none)]) eGh_ok (gf := 81) (gfn := f81) (c := bodyOf f81) (first := []) (caps := [.var 9 0, .var 10 0]) rfl (by kernel_rfl) (by kernel_rfl) (by kernel_rfl) (kk := 11) (by decide) (fmIn_of rfl) (by kernel_rfl) (fun l2 => inc2 e hy l1 l2)) fun ex fm T σ hP => ?_
  obtain ⟨rfl, rfl, rfl, rfl⟩ := hP
  show YWp eGh 30 8 [(l1, H1c)] r79 _ _ _ _
  exact YWp.ofTo (To.base (by decide) (To.of (k := 9) (o := Rrc2 z0 z1 z2 g0 n0 g1 n1 g2 n2 ga kx (hsLaw kx y z2 n2) l1) eGh_ok hmA (Nat.le_refl 9) OrcOk.nil rfl (Rrc2_ok trivial) Rrc2_ex Rrc2_fm Rrc2_tab)) hamb ⟨rfl, rfl, rfl, rfl⟩
theorem outc {z0 z1 z2 : List Int} {g0 n0 g1 n1 g2 n2 ga : Nat} {kx : List Int} (e : Exc z0 z1 z2 g0 n0 g1 n1 g2 n2 ga kx) (l1 : Nat) : YWp eGh 30 8 [(l1, H1c)] (bodyOf f79) (argF ([] ++ (.func (.yield l1) [] [] :: [.var 7 0])) 0) (TBc z0 z1 z2 g0 n0 g1 n1 g2 n2 ga kx [0, 0]) [(.ready, none)] fun ex fm' T' σ' =>
      (ex = .normal ∨ ex = .ret) ∧ (∃ cs us, aRes eGh fm' T' f79.results.toList = some (cs, us) ∧ allP cs) ∧ ∃ st σ2, σ' = st :: σ2 ∧ st.1 ≠ .busy ∧
        match st.2 with
        | none => (AExit.normal = .normal ∨ AExit.normal = .exit 0) ∧ [(2, .var 4 0), (4, .var 5 0), (5, .var 6 0), (8, .func (.func 79) [] [.var 7 0])] = H1c.fm ∧ T' = (TBc z0 z1 z2 g0 n0 g1 n1 g2 n2 ga kx (hsLaw kx (hsLaw kx (hsLaw kx [0, 0] z0 n0) z1 n1) z2 n2))
        | some (.exit id) => (AExit.exit id = .normal ∨ AExit.exit id = .exit 0) ∧ [(2, .var 4 0), (4, .var 5 0), (5, .var 6 0), (8, .func (.func 79) [] [.var 7 0])] = H1c.fm ∧ T' = (TBc z0 z1 z2 g0 n0 g1 n1 g2 n2 ga kx (hsLaw kx (hsLaw kx (hsLaw kx [0, 0] z0 n0) z1 n1) z2 n2))
        | some .ret => (AExit.ret = .normal ∨ AExit.ret = .exit 0) ∧ [(2, .var 4 0), (4, .var 5 0), (5, .var 6 0), (8, .func (.func 79) [] [.var 7 0])] = H1c.fm ∧ T' = (TBc z0 z1 z2 g0 n0 g1 n1 g2 n2 ga kx (hsLaw kx (hsLaw kx (hsLaw kx [0, 0] z0 n0) z1 n1) z2 n2))
        | _ => False := by
  have hamb : ambIn 8 [(l1, H1c)] := ambIn_one rfl
  have w0 := WpLaw.zero
  have w1 := hs_wp (h := kx) w0 e.pz0 e.pb0
  have w2 := hs_wp (h := kx) w1 e.pz1 e.pb1
  have w3 := hs_wp (h := kx) w2 e.pz2 e.pb2
  rw [splitb79, res79]
  refine YWp.seq (YWp.ofTo (To.of (k := 8) (o := Sac z0 z1 z2 g0 n0 g1 n1 g2 n2 ga kx l1) eGh_ok hmA (Nat.le_refl 8) OrcOk.nil rfl (Sac_ok trivial) Sac_ex Sac_fm Sac_tab) hamb ?_)
  refine YWp.seq (YWp.ofTo (To.base (by decide) (To.of (k := 9) (o := Sbc z0 z1 z2 g0 n0 g1 n1 g2 n2 ga kx l1) eGh_ok hmA (Nat.le_refl 9) OrcOk.nil rfl (Sbc_ok ⟨rfl, trivial⟩) Sbc_ex Sbc_fm Sbc_tab)) hamb ?_)
  refine YWp.block (YWp.loop (fun fm T σ μ => σ = [(.ready, none)] ∧ ((μ = 3 ∧ fm = [(1, .var 7 0), (2, .var 8 0), (6, .slice 1 0 ga 0 3 (some 3)), (7, .int .i64 3), (8, .int .i64 0)] ∧ T = (TPc z0 z1 z2 g0 n0 g1 n1 g2 n2 ga kx [0, 0] l1)) ∨ (μ = 2 ∧ fm = [(1, .var 7 0), (2, .var 8 0), (6, .slice 1 0 ga 0 3 (some 3)), (7, .int .i64 3), (8, .int .i64 1)] ∧ T = (TPc z0 z1 z2 g0 n0 g1 n1 g2 n2 ga kx (hsLaw kx [0, 0] z0 n0) l1)) ∨ (μ = 1 ∧ fm = [(1, .var 7 0), (2, .var 8 0), (6, .slice 1 0 ga 0 3 (some 3)), (7, .int .i64 3), (8, .int .i64 2)] ∧ T = (TPc z0 z1 z2 g0 n0 g1 n1 g2 n2 ga kx (hsLaw kx (hsLaw kx [0, 0] z0 n0) z1 n1) l1)) ∨ (μ = 0 ∧ fm = [(1, .var 7 0), (2, .var 8 0), (6, .slice 1 0 ga 0 3 (some 3)), (7, .int .i64 3), (8, .int .i64 3)] ∧ T = (TPc z0 z1 z2 g0 n0 g1 n1 g2 n2 ga kx (hsLaw kx (hsLaw kx (hsLaw kx [0, 0] z0 n0) z1 n1) z2 n2) l1)))) 3 ⟨rfl, .inl ⟨rfl, rfl, rfl⟩⟩ ?_)
  rintro fm T σ μ ⟨rfl, hI⟩
  rcases hI with ⟨rfl, rfl, rfl⟩ | ⟨rfl, rfl, rfl⟩ | ⟨rfl, rfl, rfl⟩ | ⟨rfl, rfl, rfl⟩
  · refine YWp.mono (roc0 e w0 l1) fun ex fm T σ hP => ?_
    obtain ⟨rfl, rfl, rfl, rfl⟩ := hP
    exact ⟨2, by decide, rfl, .inr (.inl ⟨rfl, rfl, rfl⟩)⟩
  · refine YWp.mono (roc1 e w1 l1) fun ex fm T σ hP => ?_
    obtain ⟨rfl, rfl, rfl, rfl⟩ := hP
    exact ⟨1, by decide, rfl, .inr (.inr (.inl ⟨rfl, rfl, rfl⟩))⟩
  · refine YWp.mono (roc2 e w2 l1) fun ex fm T σ hP => ?_
    obtain ⟨rfl, rfl, rfl, rfl⟩ := hP
    exact ⟨0, by decide, rfl, .inr (.inr (.inr (⟨rfl, rfl, rfl⟩)))⟩
  · rw [split79]
    refine YWp.seq (YWp.ofTo (To.of (k := 8) (o := Hdc3 z0 z1 z2 g0 n0 g1 n1 g2 n2 ga kx (hsLaw kx (hsLaw kx (hsLaw kx [0, 0] z0 n0) z1 n1) z2 n2) l1) eGh_ok hmA (Nat.le_refl 8) OrcOk.nil rfl (Hdc3_ok trivial) Hdc3_ex Hdc3_fm Hdc3_tab) hamb ?_)
    refine YWp.seq ?_
    rw [c79_eq]
    refine YWp.cond (b := false) rfl (fun h => by cases h) (fun _ => YWp.exit hamb ?_)
    exact ⟨.inl rfl, ⟨[], [], rfl, trivial⟩, (.ready, none), _, rfl, by decide, .inl rfl, rfl, rfl⟩
theorem blk63c {z0 z1 z2 : List Int} {g0 n0 g1 n1 g2 n2 ga : Nat} {kx : List Int} (e : Exc z0 z1 z2 g0 n0 g1 n1 g2 n2 ga kx) : To eGh 16 8 (.block 0 rf63) [(2, .var 4 0), (4, .var 5 0), (5, .var 6 0), (8, .func (.func 79) [] [.var 7 0])] (TBc z0 z1 z2 g0 n0 g1 n1 g2 n2 ga kx [0, 0]) .normal [(2, .var 4 0), (4, .var 5 0), (5, .var 6 0), (8, .func (.func 79) [] [.var 7 0])] (TBc z0 z1 z2 g0 n0 g1 n1 g2 n2 ga kx (hsLaw kx (hsLaw kx (hsLaw kx [0, 0] z0 n0) z1 n1) z2 n2)) := by
  refine AWp.block (AWp.ofY ?_)
  rw [rf63_eq]
  refine YWp.mono (YWp.rangeFunc (post := fun ex fm T' σ' => (ex = .normal ∨ ex = .exit 0) ∧ fm = H1c.fm ∧ T' = (TBc z0 z1 z2 g0 n0 g1 n1 g2 n2 ga kx (hsLaw kx (hsLaw kx (hsLaw kx [0, 0] z0 n0) z1 n1) z2 n2))) eGh_ok (gf := 79) (gfn := f79) (c := bodyOf f79) (first := []) (caps := [.var 7 0]) rfl (by kernel_rfl) (by kernel_rfl) (by kernel_rfl) (kk := 8) (Nat.le_refl _) (fmIn_of rfl) (by kernel_rfl) (fun l => outc e l)) fun ex fm T σ hP => ?_
  obtain ⟨h1, rfl, rfl⟩ := hP
  rcases h1 with rfl | rfl
  · exact ⟨rfl, rfl, rfl⟩
  · exact ⟨rfl, rfl, rfl⟩
noncomputable def g63cc (vs : List AVal) (T : Tab) (z0 : List Int) (z1 : List Int) (z2 : List Int) (g0 : Nat) (n0 : Nat) (g1 : Nat) (n1 : Nat) (g2 : Nat) (n2 : Nat) (ga : Nat) (kx : List Int) : Out := ⟨[.tab T [some ⟨.agg [.slice 1 1 g0 0 n0 none, .slice 1 2 g1 0 n1 none, .slice 1 3 g2 0 n2 none], ga, false, 25⟩, some ⟨.ints .u8 z0, g0, false, 5⟩, some ⟨.ints .u8 z1, g1, false, 5⟩, some ⟨.ints .u8 z2, g2, false, 5⟩, some ⟨.ints .u64 kx, 0, true, 65⟩, some ⟨.ints .u64 [0, 0], 0, true, 65⟩, some ⟨.ints .u64 [0, 0], 0, true, 65⟩, some ⟨.agg [.slice 1 0 ga 0 3 (some 3)], 0, true, 81⟩], .val (.tuple vs) (.tuple [.var 4 0, .var 5 0, .var 6 0, .func (.func 79) [] [.var 7 0]]), .leN n0 z0.length, .leN n0 140737488352000, .p (Bytes z0), .leN n1 z1.length, .leN n1 140737488352000, .p (Bytes z1), .leN n2 z2.length, .leN n2 140737488352000, .p (Bytes z2), .p (WpLaw kx)], .normal, [(2, .var 4 0), (4, .var 5 0), (5, .var 6 0), (8, .func (.func 79) [] [.var 7 0])], [some ⟨.agg [.slice 1 1 g0 0 n0 none, .slice 1 2 g1 0 n1 none, .slice 1 3 g2 0 n2 none], ga, false, 25⟩, some ⟨.ints .u8 z0, g0, false, 5⟩, some ⟨.ints .u8 z1, g1, false, 5⟩, some ⟨.ints .u8 z2, g2, false, 5⟩, some ⟨.ints .u64 kx, 0, true, 65⟩, some ⟨.ints .u64 [0, 0], 0, true, 65⟩, some ⟨.ints .u64 (hsLaw kx (hsLaw kx (hsLaw kx [0, 0] z0 n0) z1 n1) z2 n2), 0, true, 65⟩, some ⟨.agg [.slice 1 0 ga 0 3 (some 3)], 0, true, 81⟩], []⟩
theorem g63cc_ok {vs : List AVal} {T : Tab} {z0 : List Int} {z1 : List Int} {z2 : List Int} {g0 : Nat} {n0 : Nat} {g1 : Nat} {n1 : Nat} {g2 : Nat} {n2 : Nat} {ga : Nat} {kx : List Int} (h : Ok (g63cc vs T z0 z1 z2 g0 n0 g1 n1 g2 n2 ga kx)) : To eGh 16 8 (.block 0 rf63) (zipF [2,4,5,8] vs) T (g63cc vs T z0 z1 z2 g0 n0 g1 n1 g2 n2 ga kx).ex (g63cc vs T z0 z1 z2 g0 n0 g1 n1 g2 n2 ga kx).fm (g63cc vs T z0 z1 z2 g0 n0 g1 n1 g2 n2 ga kx).tab := by
  obtain ⟨hT, hv, h1, h2, h3, h4, h5, h6, h7, h8, h9, h10, _⟩ := h.h
  simp only [Con.h] at hT hv h1 h2 h3 h4 h5 h6 h7 h8 h9 h10
  injection hv with hv
  subst hT hv
  exact blk63c ⟨h1, h2, h3, h4, h5, h6, h7, h8, h9, h10⟩
noncomputable def g63c : List AVal → Tab → Out := fun vs T => g63cc vs T (xsAt T 1) (xsAt T 2) (xsAt T 3) (gAt T 1) (lenOf (cAt T 0 0)) (gAt T 2) (lenOf (cAt T 0 1)) (gAt T 3) (lenOf (cAt T 0 2)) (gAt T 0) (xsAt T 4)
theorem g63c_ok : BlkOk eGh f63 0 rf63 (blkS 8 [2,4,5,8] g63c) := blkS_ok fun vs T h => g63cc_ok h
noncomputable def orc63c : OrcL := [(0, blkS 8 [2,4,5,8] g63c)]
theorem orc63c_ok : FnOrc eGh f63 orc63c := FnOrc.cons g63c_ok (by kernel_rfl) FnOrc.nil
noncomputable def R63c (z0 z1 z2 : List Int) (g0 n0 g1 n1 g2 n2 ga : Nat) (kx : List Int) : Res := resG 4 [0, 1, 2, 3] (runF eGh f63 orc63c 400 [.ints .u64 kx, .slice 1 0 ga 0 3 (some 3)] [some ⟨.agg [.slice 1 1 g0 0 n0 none, .slice 1 2 g1 0 n1 none, .slice 1 3 g2 0 n2 none], ga, false, 25⟩, some ⟨.ints .u8 z0, g0, false, 5⟩, some ⟨.ints .u8 z1, g1, false, 5⟩, some ⟨.ints .u8 z2, g2, false, 5⟩] [])
theorem R63c_ok {z0 z1 z2 : List Int} {g0 n0 g1 n1 g2 n2 ga : Nat} {kx : List Int} (h : allP [.eqN ga ga, .eqN g0 g0, .eqN g1 g1, .eqN g2 g2, .leN n0 z0.length, .leN n0 140737488352000, .p (Bytes z0), .leN n1 z1.length, .leN n1 140737488352000, .p (Bytes z1), .leN n2 z2.length, .leN n2 140737488352000, .p (Bytes z2), .p (WpLaw kx), .eqN (hsLaw kx (hsLaw kx (hsLaw kx [0, 0] z0 n0) z1 n1) z2
 n2).length 2, .eqN (hsLaw kx (hsLaw kx (hsLaw kx [0, 0] z0 n0) z1 n1) z2 n2).length 2, .eqN (hsLaw kx (hsLaw kx (hsLaw kx [0, 0] z0 n0) z1 n1) z2 n2).length 2]) : OkR (R63c z0 z1 z2 g0 n0 g1 n1 g2 n2 ga kx) := OkR.dem (fl := bitsF 24 7667712) (by kernel_rfl) (by kernel_rfl) (by kernel_rfl) h
theorem R63c_val {z0 z1 z2 : List Int} {g0 n0 g1 n1 g2 n2 ga : Nat} {kx : List Int} : (R63c z0 z1 z2 g0 n0 g1 n1 g2 n2 ga kx).val = .ints .u64 (hsLaw kx (hsLaw kx (hsLaw kx [0, 0] z0 n0) z1 n1) z2 n2) := by kernel_rfl
theorem R63c_tab {z0 z1 z2 : List Int} {g0 n0 g1 n1 g2 n2 ga : Nat} {kx : List Int} : (R63c z0 z1 z2 g0 n0 g1 n1 g2 n2 ga kx).tab = [some ⟨.agg [.slice 1 1 g0 0 n0 none, .slice 1 2 g1 0 n1 none, .slice 1 3 g2 0 n2 none], ga, false, 25⟩, some ⟨.ints .u8 z0, g0, false, 5⟩, some ⟨.ints .u8 z1, g1, false, 5⟩, some ⟨.ints .u8 z2, g2, false, 5⟩] := by kernel_rfl
noncomputable def sm63cc (args : List AVal) (T : Tab) (z0 : List Int) (z1 : List Int) (z2 : List Int) (g0 : Nat) (n0 : Nat) (g1 : Nat) (n1 : Nat) (g2 : Nat) (n2 : Nat) (ga : Nat) (kx : List Int) : Res := ⟨[.tab T [some ⟨.agg [.slice 1 1 g0 0 n0 none, .slice 1 2 g1 0 n1 none, .slice 1 3 g2 0 n2 none], ga, false, 25⟩, some ⟨.ints .u8 z0, g0, false, 5⟩, some ⟨.ints .u8 z1, g1, false, 5⟩, some ⟨.ints .u8 z2, g2, false, 5⟩], .val (.tuple args) (.tuple [.ints .u64 kx, .slice 1 0 ga 0 3 (some 3)]), .leN n0 z0.length, .leN n0 140737488352000, .p (Bytes z0), .leN n1 z1.length, .leN n1 140737488352000, .p (Bytes z1), .leN n2 z2.length, .leN n2 140737488352000, .p (Bytes z2), .p (WpLaw kx)], .ints .u64 (hsLaw kx (hsLaw kx (hsLaw kx [0, 0] z0 n0) z1 n1) z2 n2), [some ⟨.agg [.slice 1 1 g0 0 n0 none, .slice 1 2 g1 0 n1 none, .slice 1 3 g2 0 n2 none], ga, false, 25⟩, some ⟨.ints .u8 z0, g0, false, 5⟩, some ⟨.ints .u8 z1, g1, false, 5⟩, some ⟨.ints .u8 z2, g2, false, 5⟩]⟩
theorem sm63cc_ok {args : List AVal} {T : Tab} {z0 : List Int} {z1 : List Int} {z2 : List Int} {g0 : Nat} {n0 : Nat} {g1 : Nat} {n1 : Nat} {g2 : Nat} {n2 : Nat} {ga : Nat} {kx : List Int} (h : allP (sm63cc args T z0 z1 z2 g0 n0 g1 n1 g2 n2 ga kx).cs) : Small prog (fun _ => none) 63 args T (sm63cc args T z0 z1 z2 g0 n0 g1 n1 g2 n2 ga kx).val (sm63cc args T z0 z1 z2 g0 n0 g1 n1 g2 n2 ga kx).tab := by
  obtain ⟨hT, hv, h1, h2, h3, h4, h5, h6, h7, h8, h9, h10, _⟩ := h
  simp only [Con.h] at hT hv h1 h2 h3 h4 h5 h6 h7 h8 h9 h10
  injection hv with hv
  subst hT hv
  have w0 := WpLaw.zero
  have w1 := hs_wp (h := kx) w0 h1 h3
  have w2 := hs_wp (h := kx) w1 h4 h6
  have w3 := hs_wp (h := kx) w2 h7 h9
  refine small_ofG (R := R63c z0 z1 z2 g0 n0 g1 n1 g2 n2 ga kx) (keep := [0, 1, 2, 3]) eGh_ok hmA (f := 63) (fn := f63) (by kernel_rfl) (by kernel_rfl) orc63c_ok rfl (R63c_ok ?_) R63c_val R63c_tab
  have hl := w3.len
  have hk := h10.len
  simp only [allP, Con.h, hl, hk, h1, h2, h3, h4, h5, h6, h7, h8, h9, h10, eq_self, true_and, and_true]
noncomputable def sm63c : Summary := fun args T => sm63cc args T (xsAt T 1) (xsAt T 2) (xsAt T 3) (gAt T 1) (lenOf (cAt T 0 0)) (gAt T 2) (lenOf (cAt T 0 1)) (gAt T 3) (lenOf (cAt T 0 2)) (gAt T 0) (xsOf (vAt args 0))
theorem sm63c_ok : SmOk prog (fun _ => none) 63 sm63c := fun args T h => sm63cc_ok h
noncomputable def S63c : Summary := callR sm63c []
theorem S63c_ok : SumOk prog (fun _ => none) 63 S63c := callR_ok sm63c_ok []
end Go.Abs

set_option linter.unusedVariables false
set_option linter.unusedSimpArgs false
set_option maxRecDepth 8000
namespace Go.Abs
open Go.Proofs.Try
/-! ### turn, the whole -/
def tnLaw (K N xs : List Int) : Nat → List Int
  | 0 => xs
  | j + 1 => xkLaw (ctLaw K N (2 + (j : Int))) (tnLaw K N xs j) (16 * j)
def turnLaw (K N xs : List Int) : List Int := tnLaw K N xs ((xs.length + 15) / 16)
theorem tn_len (K N xs : List Int) : ∀ j, (tnLaw K N xs j).length = xs.length
  | 0 => rfl
  | j + 1 => by rw [tnLaw, xkLaw, bx_len, tn_len K N xs j]
theorem tn_bytes {K N xs : List Int} (hk : Bytes K) (hn : Bytes N) (hx : Bytes xs) : ∀ j, Bytes (tnLaw K N xs j)
  | 0 => hx
  | j + 1 => bx_bytes (ct_bytes hk hn _) (tn_bytes hk hn hx j) _ _
theorem turn_len (K N xs : List Int) : (turnLaw K N xs).length = xs.length := tn_len K N xs _
theorem turn_bytes {K N xs : List Int} (hk : Bytes K) (hn : Bytes N) (hx : Bytes xs) : Bytes (turnLaw K N xs) := tn_bytes hk hn hx _
theorem loop54o {zs ns : List Int} {gk gn : Nat} {cpk cpn : Option Nat} {ts : List Int} {gt : Nat} {owt : Bool} {n : Nat} {xs : List Int} (h1 : 16 ≤ zs.length) (h2 : 12 ≤ ns.length) (h3 : Bytes zs) (h4 : Bytes ns) (hn : n = xs.length) (hb : n ≤ 140737488352000) (hx : Bytes xs) : To eGt 45 5 (.block 0 (.loop (roundOf 0 f54))) [(2, .var 3 0), (5, .slice 1 4 1 0 n none), (6, .int .i64 0)] [some ⟨.ints .u8 zs, gk, false, 5⟩, some ⟨.ints .u8 ns, gn, false, 5⟩, some ⟨.ints .u8 ts, gt, owt, 5⟩, some ⟨.agg [.slice 1 0 gk 0 16 cpk, .slice 1 1 gn 0 12 cpn], 0, true, 60⟩, some ⟨.ints .u8 xs, 1, true, 5⟩] .normal [(5, .slice 1 4 1 0 n none)] [some ⟨.ints .u8 zs, gk, false, 5⟩, some ⟨.ints .u8 ns, gn, false, 5⟩, some ⟨.ints .u8 ts, gt, owt, 5⟩, some ⟨.agg [.slice 1 0 gk 0 16 cpk, .slice 1 1 gn 0 12 cpn], 0, true, 60⟩, some ⟨.ints .u8 (turnLaw (subLaw zs 0 16) (subLaw ns 0 12) xs), 1, true, 5⟩] := by
  have b1 := sub_bytes h3 0 16
  have b2 := sub_bytes h4 0 12
  unfold turnLaw
  refine To.rounds (fun j : Nat => [(2, .var 3 0), (5, .slice 1 4 1 0 n none), (6, .int .i64 ((16 * j : Nat) : Int))]) (fun j => [some ⟨.ints .u8 zs, gk, false, 5⟩, some ⟨.ints .u8 ns, gn, false, 5⟩, some ⟨.ints .u8 ts, gt, owt, 5⟩, some ⟨.agg [.slice 1 0 gk 0 16 cpk, .slice 1 1 gn 0 12 cpn], 0, true, 60⟩, some ⟨.ints .u8 (tnLaw (subLaw zs 0 16) (subLaw ns 0 12) xs j), 1, true, 5⟩]) ((xs.length + 15) / 16) (fun j hj => ?_) (To.of (o := E54 zs ns gk gn cpk cpn ts gt owt n (tnLaw (subLaw zs 0 16) (subLaw ns 0 12) xs ((xs.length + 15) / 16)) ((16 * ((xs.length + 15) / 16) : Nat) : Int)) eGt_ok hmA (Nat.le_refl 5) OrcOk.nil rfl (E54_ok ?_) E54_ex E54_fm E54_tab)
  · have e1 : ((16 * j : Nat) : Int).tdiv 16 = (j : Int) := by rw [Int.tdiv_eq_ediv_of_nonneg (by omega)]; omega
    have hl := tn_len (subLaw zs 0 16) (subLaw ns 0 12) xs j
    have hbb := tn_bytes b1 b2 hx j
    have hcb := ct_bytes b1 b2 (2 + (j : Int))
    have e2 : ((16 * j : Nat) : Int) = (((16 * j : Nat) : Int).toNat : Int) := by omega
    refine To.of (o := O54 zs ns gk gn cpk cpn ts gt owt n (tnLaw (subLaw zs 0 16) (subLaw ns 0 12) xs j) ((16 * j : Nat) : Int)) eGt_ok hmA (Nat.le_refl 5) (OrcOk.cons (fn := f54) g54i_ok (by kernel_rfl) OrcOk.nil) rfl (O54_ok ?_) O54_ex ?_ ?_
    · rw [e1]
      simp only [allP, Con.h, h1, h2, h3, h4, hl, hbb, hcb, Int.toNat_natCast, decide_eq_true_eq, eq_self, true_and, and_true]
      omega
    · rw [O54_fm, show ((16 * j : Nat) : Int) + 16 = ((16 * (j + 1) : Nat) : Int) by omega]
    · rw [O54_tab, e1, Int.toNat_natCast]; rfl
  · simp only [allP, Con.h, decide_eq_false_iff_not, and_true]
    omega
noncomputable def g54c (vs : List AVal) (T : Tab) (zs : List Int) (ns : List Int) (gk : Nat) (gn : Nat) (cpk : Option Nat) (cpn : Option Nat) (ts : List Int) (gt : Nat) (owt : Bool) (n : Nat) (xs : List Int) : Out := ⟨[.tab T [some ⟨.ints .u8 zs, gk, false, 5⟩, some ⟨.ints .u8 ns, gn, false, 5⟩, some ⟨.ints .u8 ts, gt, owt, 5⟩, some ⟨.agg [.slice 1 0 gk 0 16 cpk, .slice 1 1 gn 0 12 cpn], 0, true, 60⟩, some ⟨.ints .u8 xs, 1, true, 5⟩], .val (.tuple vs) (.tuple [.var 3 0, .slice 1 4 1 0 n none, .int .i64 0]), .leN 16 zs.length, .leN 12 ns.length, .p (Bytes zs), .p (Bytes ns), .eqN n xs.length, .leN n 140737488352000, .p (Bytes xs)], .normal, [(5, .slice 1 4 1 0 n none)], [some ⟨.ints .u8 zs, gk, false, 5⟩, some ⟨.ints .u8 ns, gn, false, 5⟩, some ⟨.ints .u8 ts, gt, owt, 5⟩, some ⟨.agg [.slice 1 0 gk 0 16 cpk, .slice 1 1 gn 0 12 cpn], 0, true, 60⟩, some ⟨.ints .u8 (turnLaw (subLaw zs 0 16) (subLaw ns 0 12) xs), 1, true, 5⟩], []⟩
theorem g54c_ok {vs : List AVal} {T : Tab} {zs : List Int} {ns : List Int} {gk : Nat} {gn : Nat} {cpk : Option Nat} {cpn : Option Nat} {ts : List Int} {gt : Nat} {owt : Bool} {n : Nat} {xs : List Int} (h : Ok (g54c vs T zs ns gk gn cpk cpn ts gt owt n xs)) : To eGt 45 5 (.block 0 (.loop (roundOf 0 f54))) (zipF [2,5,6] vs) T (g54c vs T zs ns gk gn cpk cpn ts gt owt n xs).ex (g54c vs T zs ns gk gn cpk cpn ts gt owt n xs).fm (g54c vs T zs ns gk gn cpk cpn ts gt owt n xs).tab := by
  obtain ⟨hT, hv, h1, h2, h3, h4, h5, h6, h7, _⟩ := h.h
  simp only [Con.h] at hT hv h1 h2 h3 h4 h5 h6 h7
  injection hv with hv
  subst hT hv
  exact loop54o h1 h2 h3 h4 h5 h6 h7
noncomputable def g54 : List AVal → Tab → Out := fun vs T => g54c vs T (xsAt T 0) (xsAt T 1) (gAt T 0) (gAt T 1) (capOf (cAt T 3 0)) (capOf (cAt T 3 1)) (xsAt T 2) (gAt T 2) (owAt T 2) (lenOf (vAt vs 1)) (xsAt T 4)
theorem g54_ok : BlkOk eGt f54 0 (.loop (roundOf 0 f54)) (blkS 5 [2,5,6] g54) := blkS_ok fun vs T h => g54c_ok h
noncomputable def orc54 : OrcL := [(0, blkS 5 [2,5,6] g54)]
theorem orc54_ok : FnOrc eGt f54 orc54 := FnOrc.cons g54_ok (by kernel_rfl) FnOrc.nil
noncomputable def R54 (zs ns : List Int) (gk gn : Nat) (cpk cpn : Option Nat) (ts : List Int) (gt : Nat) (owt : Bool) (n : Nat) (cp : Option Nat) : Res := resG 3 [0,1,2,4] (runF eGt f54 orc54 400 [.agg [.slice 1 0 gk 0 16 cpk, .slice 1 1 gn 0 12 cpn], .slice 1 2 gt 0 n cp] [some ⟨.ints .u8 zs, gk, false, 5⟩, some ⟨.ints .u8 ns, gn, false, 5⟩, some ⟨.ints .u8 ts, gt, owt, 5⟩] [])
theorem R54_ok {zs ns : List Int} {gk gn : Nat} {cpk cpn : Option Nat} {ts : List Int} {gt : Nat} {owt : Bool} {n : Nat} {cp : Option Nat} (h : allP [.eqN gt gt, .leN (0 + n) ts.length, .leN n 140737488355000, .leN 16 zs.length, .leN 12 ns.length, .p (Bytes zs), .p (Bytes ns), .eqN n (subLaw ts 0 n).length, .leN n 140737488352000, .p (Bytes (subLaw ts 0 n))]) : OkR (R54 zs ns gk gn cpk cpn ts gt
 owt n cp) := OkR.dem (fl := bitsF 14 0) (by kernel_rfl) (by kernel_rfl) (by kernel_rfl) h
theorem R54_val {zs ns : List Int} {gk gn : Nat} {cpk cpn : Option Nat} {ts : List Int} {gt : Nat} {owt : Bool} {n : Nat} {cp : Option Nat} : (R54 zs ns gk gn cpk cpn ts gt owt n cp).val = .slice 1 3 1 0 n none := by kernel_rfl
theorem R54_tab {zs ns : List Int} {gk gn : Nat} {cpk cpn : Option Nat} {ts : List Int} {gt : Nat} {owt : Bool} {n : Nat} {cp : Option Nat} : (R54 zs ns gk gn cpk cpn ts gt owt n cp).tab = [some ⟨.ints .u8 zs, gk, false, 5⟩, some ⟨.ints .u8 ns, gn, false, 5⟩, some ⟨.ints .u8 ts, gt, owt, 5⟩, some ⟨.ints .u8 (turnLaw (subLaw zs 0 16) (subLaw ns 0 12) (subLaw ts 0 n)), 1, true, 5⟩] := by kernel_rfl
noncomputable def sm54c (args : List AVal) (T : Tab) (zs : List Int) (ns : List Int) (gk : Nat) (gn : Nat) (cpk : Option Nat) (cpn : Option Nat) (ts : List Int) (gt : Nat) (owt : Bool) (n : Nat) (cp : Option Nat) : Res := ⟨[.tab T [some ⟨.ints .u8 zs, gk, false, 5⟩, some ⟨.ints .u8 ns, gn, false, 5⟩, some ⟨.ints .u8 ts, gt, owt, 5⟩], .val (.tuple args) (.tuple [.agg [.slice 1 0 gk 0 16 cpk, .slice 1 1 gn 0 12 cpn], .slice 1 2 gt 0 n cp]), .leN 16 zs.length, .leN 12 ns.length, .p (Bytes zs), .p (Bytes ns), .leN n ts.length, .leN n 140737488352000, .p (Bytes ts)], .slice 1 3 1 0 n none, [some ⟨.ints .u8 zs, gk, false, 5⟩, some ⟨.ints .u8 ns, gn, false, 5⟩, some ⟨.ints .u8 ts, gt, owt, 5⟩, some ⟨.ints .u8 (turnLaw (subLaw zs 0 16) (subLaw ns 0 12) (subLaw ts 0 n)), 1, true, 5⟩]⟩
theorem sm54c_ok {args : List AVal} {T : Tab} {zs : List Int} {ns : List Int} {gk : Nat} {gn : Nat} {cpk : Option Nat} {cpn : Option Nat} {ts : List Int} {gt : Nat} {owt : Bool} {n : Nat} {cp : Option Nat} (h : allP (sm54c args T zs ns gk gn cpk cpn ts gt owt n cp).cs) : Small prog (fun _ => none) 54 args T (sm54c args T zs ns gk gn cpk cpn ts gt owt n cp).val (sm54c args T zs ns gk gn cpk cpn ts gt owt n cp).tab := by
  obtain ⟨hT, hv, h1, h2, h3, h4, h5, h6, h7, _⟩ := h
  simp only [Con.h] at hT hv h1 h2 h3 h4 h5 h6 h7
  injection hv with hv
  subst hT hv
  have l1 : (subLaw ts 0 n).length = n := subLaw_len (by omega)
  have b1 := sub_bytes h7 0 n
  refine small_ofG (R := R54 zs ns gk gn cpk cpn ts gt owt n cp) (keep := [0,1,2,4]) eGt_ok hmA (f := 54) (fn := f54) (by kernel_rfl) (by kernel_rfl) orc54_ok rfl (R54_ok ?_) R54_val R54_tab
  simp only [allP, Con.h, l1, b1, h1, h2, h3, h4, h5, h6, Nat.zero_add, eq_self, true_and, and_true]
  try omega
noncomputable def sm54 : Summary := fun args T => sm54c args T (xsAt T 0) (xsAt T 1) (gAt T 0) (gAt T 1) (capOf (vAt (vsOf (vAt args 0)) 0)) (capOf (vAt (vsOf (vAt args 0)) 1)) (xsAt T 2) (gAt T 2) (owAt T 2) (lenOf (vAt args 1)) (capOf (vAt args 1))
theorem sm54_ok : SmOk prog (fun _ => none) 54 sm54 := fun args T h => sm54c_ok h
noncomputable def S54 : Summary := callR sm54 []
theorem S54_ok : SumOk prog (fun _ => none) 54 S54 := callR_ok sm54_ok []
/-! ### tag -/
noncomputable def S72 : Summary := sumI modeO (eA []) f72 [] 100 [] []
theorem S72_ok : SumOk prog (fun _ => none) 72 S72 := sumI_ok eA0_ok hmA (fn := f72) (by kernel_rfl) (by kernel_rfl) [] FnOrc.nil 100 [] []
noncomputable def eGg : Env := eA [(23, S23), (59, S59), (61, S61), (63, S63c), (71, S71), (72, S72), (73, S73)]
theorem eGg_ok : EnvOk eGg := envOf_ok tysA_ok (SumsOk.cons (fn := f23) S23_ok (by kernel_rfl) (by kernel_rfl) (by kernel_rfl) (SumsOk.cons (fn := f59) S59_ok (by kernel_rfl) (by kernel_rfl) (by kernel_rfl) (SumsOk.cons (fn := f61) S61_ok (by kernel_rfl) (by kernel_rfl) (by kernel_rfl) (SumsOk.cons (fn := f63) S63c_ok (by kernel_rfl) (by kernel_rfl) (by kernel_rfl) (SumsOk.cons (fn := f71) S71_ok (by kernel_rfl) (by kernel_rfl) (by kernel_rfl) (SumsOk.cons (fn := f72) S72_ok (by kernel_rfl) (by kernel_rfl) (by kernel_rfl) (SumsOk.cons (fn := f73) S73_ok (by kernel_rfl) (by kernel_rfl) (by kernel_rfl) trivial)))))))
noncomputable def R55 (zs ns : List Int) (gk gn : Nat) (cpk cpn : Option Nat) (ms ts : List Int) (gm gt n m : Nat) : Res := resG 4 [0,1,2,3,11] (runF eGg f55 [] 400 [.agg [.slice 1 0 gk 0 16 cpk, .slice 1 1 gn 0 12 cpn], .slice 1 2 gm 0 m none, .slice 1 3 gt 0 n none] [some ⟨.ints .u8 zs, gk, false, 5⟩, some ⟨.ints .u8 ns, gn, false, 5⟩, some ⟨.ints .u8 ms, gm, false, 5⟩, some ⟨.ints .u8 ts, gt, false, 5⟩] [])
theorem R55_ok {zs ns : List Int} {gk gn : Nat} {cpk cpn : Option Nat} {ms ts : List Int} {gm gt n m : Nat} (h : allP [.eqN gk gk, .eqN gk gk, .leN 16 zs.length, .p (Bytes (subLaw zs 0 16)), .p (Bytes (subLaw [0, 0, 0, 0, 0, 0, 0, 0, 0, 0, 0, 0, 0, 0, 0, 0] 0 16)), .eqN gm gm, .eqN gm gm, .rng 0 (↑m : Int) 18446744073709551615, .eqN gt gt, .eqN gt gt, .rng 0 (↑n : Int) 18446744073709551615, .p
 (Bytes (blockLaw (ksLaw (subLaw zs 0 16) 176) (subLaw [0, 0, 0, 0, 0, 0, 0, 0, 0, 0, 0, 0, 0, 0, 0, 0] 0 16))), .p (WpLaw [8 * (↑m : Int) % 18446744073709551616, 8 * (↑n : Int) % 18446744073709551616]), .eqN gm gm, .eqN gt gt, .leN m ms.length, .leN m 140737488352000, .p (Bytes ms), .leN n ts.length, .leN n 140737488352000, .p (Bytes ts), .p (Bytes (ptLaw [8 * (↑m : Int) % 18446744073709551616, 8 *
 (↑n : Int) % 18446744073709551616])), .p (WpLaw (gwLaw (subLaw (blockLaw (ksLaw (subLaw zs 0 16) 176) (subLaw [0, 0, 0, 0, 0, 0, 0, 0, 0, 0, 0, 0, 0, 0, 0, 0] 0 16)) 0 16))), .eqN gk gk, .eqN gn gn, .leN 16 zs.length, .leN 12 ns.length, .p (Bytes zs), .p (Bytes ns), .p (Bytes (ctLaw (subLaw zs 0 16) (subLaw ns 0 12) (OfNat.ofNat 1))), .p (WpLaw (hsLaw (gwLaw (subLaw (blockLaw (ksLaw (subLaw zs 0
 16) 176) (subLaw [0, 0, 0, 0, 0, 0, 0, 0, 0, 0, 0, 0, 0, 0, 0, 0] 0 16)) 0 16)) (hsLaw (gwLaw (subLaw (blockLaw (ksLaw (subLaw zs 0 16) 176) (subLaw [0, 0, 0, 0, 0, 0, 0, 0, 0, 0, 0, 0, 0, 0, 0, 0] 0 16)) 0 16)) (hsLaw (gwLaw (subLaw (blockLaw (ksLaw (subLaw zs 0 16) 176) (subLaw [0, 0, 0, 0, 0, 0, 0, 0, 0, 0, 0, 0, 0, 0, 0, 0] 0 16)) 0 16)) [0, 0] ms m) ts n) (ptLaw [8 * (↑m : Int) %
 18446744073709551616, 8 * (↑n : Int) % 18446744073709551616]) 16)), .p (WpLaw (gwLaw (subLaw (ctLaw (subLaw zs 0 16) (subLaw ns 0 12) (OfNat.ofNat 1)) 0 16))), .p (WpLaw (xwLaw (hsLaw (gwLaw (subLaw (blockLaw (ksLaw (subLaw zs 0 16) 176) (subLaw [0, 0, 0, 0, 0, 0, 0, 0, 0, 0, 0, 0, 0, 0, 0, 0] 0 16)) 0 16)) (hsLaw (gwLaw (subLaw (blockLaw (ksLaw (subLaw zs 0 16) 176) (subLaw [0, 0, 0, 0, 0, 0, 0,
 0, 0, 0, 0, 0, 0, 0, 0, 0] 0 16)) 0 16)) (hsLaw (gwLaw (subLaw (blockLaw (ksLaw (subLaw zs 0 16) 176) (subLaw [0, 0, 0, 0, 0, 0, 0, 0, 0, 0, 0, 0, 0, 0, 0, 0] 0 16)) 0 16)) [0, 0] ms m) ts n) (ptLaw [8 * (↑m : Int) % 18446744073709551616, 8 * (↑n : Int) % 18446744073709551616]) 16) (gwLaw (subLaw (ctLaw (subLaw zs 0 16) (subLaw ns 0 12) (OfNat.ofNat 1)) 0 16))))]) : OkR (R55 zs ns gk gn cpk cpn ms
 ts gm gt n m) := OkR.dem (fl := bitsF 115 26145559319512187383476048123134) (by kernel_rfl) (by kernel_rfl) (by kernel_rfl) h
theorem R55_val {zs ns : List Int} {gk gn : Nat} {cpk cpn : Option Nat} {ms ts : List Int} {gm gt n m : Nat} : (R55 zs ns gk gn cpk cpn ms ts gm gt n m).val = .slice 1 4 15 0 16 none := by kernel_rfl
theorem R55_tab {zs ns : List Int} {gk gn : Nat} {cpk cpn : Option Nat} {ms ts : List Int} {gm gt n m : Nat} : (R55 zs ns gk gn cpk cpn ms ts gm gt n m).tab = [some ⟨.ints .u8 zs, gk, false, 5⟩, some ⟨.ints .u8 ns, gn, false, 5⟩, some ⟨.ints .u8 ms, gm, false, 5⟩, some ⟨.ints .u8 ts, gt, false, 5⟩, some ⟨.ints .u8 (ptLaw (xwLaw (hsLaw (gwLaw (subLaw (blockLaw (ksLaw (subLaw zs 0 16) 176) (subLaw
 [0, 0, 0, 0, 0, 0, 0, 0, 0, 0, 0, 0, 0, 0, 0, 0] 0 16)) 0 16)) (hsLaw (gwLaw (subLaw (blockLaw (ksLaw (subLaw zs 0 16) 176) (subLaw [0, 0, 0, 0, 0, 0, 0, 0, 0, 0, 0, 0, 0, 0, 0, 0] 0 16)) 0 16)) (hsLaw (gwLaw (subLaw (blockLaw (ksLaw (subLaw zs 0 16) 176) (subLaw [0, 0, 0, 0, 0, 0, 0, 0, 0, 0, 0, 0, 0, 0, 0, 0] 0 16)) 0 16)) [0, 0] ms m) ts n) (ptLaw [8 * (↑m : Int) % 18446744073709551616, 8 * (↑n
 : Int) % 18446744073709551616]) 16) (gwLaw (subLaw (ctLaw (subLaw zs 0 16) (subLaw ns 0 12) (OfNat.ofNat 1)) 0 16)))), 15, true, 5⟩] := by kernel_rfl
end Go.Abs

set_option linter.unusedVariables false
set_option linter.unusedSimpArgs false
set_option maxRecDepth 8000
namespace Go.Abs
open Go.Proofs.Try
/-! ### tag -/
def zLaw16 : List Int := List.replicate 16 0
def hkLaw (K : List Int) : List Int := gwLaw (blockLaw (ksLaw K 176) zLaw16)
def lenLaw (m n : Nat) : List Int := [8 * (m : Int) % 18446744073709551616, 8 * (n : Int) % 18446744073709551616]
def tagLaw (K N M : List Int) (m : Nat) (X : List Int) (n : Nat) : List Int := ptLaw (xwLaw (hsLaw (hkLaw K) (hsLaw (hkLaw K) (hsLaw (hkLaw K) [0, 0] M m) X n) (ptLaw (lenLaw m n)) 16) (gwLaw (ctLaw K N 1)))
theorem WpLaw.mk {a b : Int} (ha : 0 ≤ a ∧ a < 18446744073709551616) (hb : 0 ≤ b ∧ b < 18446744073709551616) : WpLaw [a, b] := by
  refine ⟨a.toNat * 2 ^ 64 + b.toNat, by omega, ?_⟩
  unfold wN
  rw [Nat.shiftRight_eq_div_pow]
  congr 1
  · omega
  · congr 1; omega
theorem len_wp (m n : Nat) : WpLaw (lenLaw m n) := .mk (by omega) (by omega)
theorem z16_bytes : Bytes zLaw16 := Bytes.zer 16
theorem hk_wp {K : List Int} (h : Bytes K) : WpLaw (hkLaw K) := .gw (enc_bytes (ksLaw_bytes h 176) z16_bytes 10) rfl
theorem tag_bytes (K N M : List Int) (m : Nat) (X : List Int) (n : Nat) : Bytes (tagLaw K N M m X n) := pt_bytes _
theorem tag_len (K N M : List Int) (m : Nat) (X : List Int) (n : Nat) : (tagLaw K N M m X n).length = 16 := rfl
noncomputable def sm55c (args : List AVal) (T : Tab) (zs : List Int) (ns : List Int) (gk : Nat) (gn : Nat) (cpk : Option Nat) (cpn : Option Nat) (ms : List Int) (ts : List Int) (gm : Nat) (gt : Nat) (n : Nat) (m : Nat) : Res := ⟨[.tab T [some ⟨.ints .u8 zs, gk, false, 5⟩, some ⟨.ints .u8 ns, gn, false, 5⟩, some ⟨.ints .u8 ms, gm, false, 5⟩, some ⟨.ints .u8 ts, gt, false, 5⟩], .val (.tuple args) (.tuple [.agg [.slice 1 0 gk 0 16 cpk, .slice 1 1 gn 0 12 cpn], .slice 1 2 gm 0 m none, .slice 1 3 gt 0 n none]), .leN 16 zs.length, .leN 12 ns.length, .p (Bytes zs), .p (Bytes ns), .leN m ms.length, .leN m 140737488352000, .p (Bytes ms), .leN n ts.length, .leN n 140737488352000, .p (Bytes ts)], .slice 1 4 15 0 16 none, [some ⟨.ints .u8 zs, gk, false, 5⟩, some ⟨.ints .u8 ns, gn, false, 5⟩, some ⟨.ints .u8 ms, gm, false, 5⟩, some ⟨.ints .u8 ts, gt, false, 5⟩, some ⟨.ints .u8 (tagLaw (subLaw zs 0 16) (subLaw ns 0 12) ms m ts n), 15, true, 5⟩]⟩
theorem sm55c_ok {args : List AVal} {T : Tab} {zs : List Int} {ns : List Int} {gk : Nat} {gn : Nat} {cpk : Option Nat} {cpn : Option Nat} {ms : List Int} {ts : List Int} {gm : Nat} {gt : Nat} {n : Nat} {m : Nat} (h : allP (sm55c args T zs ns gk gn cpk cpn ms ts gm gt n m).cs) : Small prog (fun _ => none) 55 args T (sm55c args T zs ns gk gn cpk cpn ms ts gm gt n m).val (sm55c args T zs ns gk gn cpk cpn ms ts gm gt n m).tab := by
  obtain ⟨hT, hv, h1, h2, h3, h4, h5, h6, h7, h8, h9, h10, _⟩ := h
  simp only [Con.h] at hT hv h1 h2 h3 h4 h5 h6 h7 h8 h9 h10
  injection hv with hv
  subst hT hv
  have b1 := sub_bytes h3 0 16
  have b2 := sub_bytes h4 0 12
  have e1 : subLaw [0, 0, 0, 0, 0, 0, 0, 0, 0, 0, 0, 0, 0, 0, 0, 0] 0 16 = zLaw16 := rfl
  have e2 : subLaw (blockLaw (ksLaw (subLaw zs 0 16) 176) zLaw16) 0 16 = blockLaw (ksLaw (subLaw zs 0 16) 176) zLaw16 := sub_n rfl
  have e3 : subLaw (ctLaw (subLaw zs 0 16) (subLaw ns 0 12) 1) 0 16 = ctLaw (subLaw zs 0 16) (subLaw ns 0 12) 1 := sub_n rfl
  have e4 : [8 * (m : Int) % 18446744073709551616, 8 * (n : Int) % 18446744073709551616] = lenLaw m n := rfl
  have e5 : gwLaw (blockLaw (ksLaw (subLaw zs 0 16) 176) zLaw16) = hkLaw (subLaw zs 0 16) := rfl
  have c1 := enc_bytes (ksLaw_bytes b1 176) z16_bytes 10
  have c2 : Bytes (blockLaw (ksLaw (subLaw zs 0 16) 176) zLaw16) := c1
  have c3 := ct_bytes b1 b2 1
  have w0 := WpLaw.zero
  have wk := hk_wp b1
  have w1 := hs_wp (h := hkLaw (subLaw zs 0 16)) w0 h5 h7
  have w2 := hs_wp (h := hkLaw (subLaw zs 0 16)) w1 h8 h10
  have pb := pt_bytes (lenLaw m n)
  have pl := pt_len (lenLaw m n)
  have w3 := hs_wp (h := hkLaw (subLaw zs 0 16)) w2 (z := ptLaw (lenLaw m n)) (n := 16) (by omega) pb
  have w4 : WpLaw (gwLaw (ctLaw (subLaw zs 0 16) (subLaw ns 0 12) 1)) := .gw c3 rfl
  have w5 := w3.xw w4
  have lw := len_wp m n
  have k1 : (1 : Int) = OfNat.ofNat 1 := rfl
  refine small_ofG (R := R55 zs ns gk gn cpk cpn ms ts gm gt n m) (keep := [0,1,2,3,11]) eGg_ok hmA (f := 55) (fn := f55) (by kernel_rfl) (by kernel_rfl) FnOrc.nil rfl (R55_ok ?_) R55_val (by rw [R55_tab]; simp only [e1, e2, e3, e4, e5]; rfl)
  simp only [allP, Con.h, e1, e2, e3, e4, e5, c2, c3, wk, w3, w4, w5, lw, pb, pl, h1, h2, h3, h4, h5, h6, h7, h8, h9, h10, b1, z16_bytes, eq_self, true_and, and_true]
  first | omega | exact ⟨by omega, by omega, by decide, by decide⟩ | skip
noncomputable def sm55 : Summary := fun args T => sm55c args T (xsAt T 0) (xsAt T 1) (gAt T 0) (gAt T 1) (capOf (vAt (vsOf (vAt args 0)) 0)) (capOf (vAt (vsOf (vAt args 0)) 1)) (xsAt T 2) (xsAt T 3) (gAt T 2) (gAt T 3) (lenOf (vAt args 2)) (lenOf (vAt args 1))
theorem sm55_ok : SmOk prog (fun _ => none) 55 sm55 := fun args T h => sm55c_ok h
noncomputable def S55 : Summary := callR sm55 []
theorem S55_ok : SumOk prog (fun _ => none) 55 S55 := callR_ok sm55_ok []
end Go.Abs

set_option linter.unusedVariables false
set_option linter.unusedSimpArgs false
set_option maxRecDepth 8000
namespace Go.Abs
open Go.Proofs.Try
structure Exa (z0 : List Int) (g0 n0 ga : Nat) (kx : List Int) : Prop where
  pz0 : n0 ≤ z0.length
  pm0 : n0 ≤ 140737488352000
  pb0 : Bytes z0
  pk : WpLaw kx
noncomputable def H1a : Host := ⟨#[9], as63, bd63, [(2, .var 2 0), (4, .var 3 0), (5, .var 4 0), (8, .func (.func 79) [] [.var 5 0])], 16⟩
noncomputable def H2a0 (z0 : List Int) (g0 n0 ga : Nat) (kx : List Int) : Host := ⟨#[14], as79, bd79, [(1, .var 5 0), (2, .var 6 0), (6, .slice 1 0 ga 0 1 (some 1)), (7, .int .i64 1), (8, .int .i64 0), (13, .func (.func 81) [] [.var 7 0, .var 8 0])], 30⟩
theorem amba0 (z0 : List Int) (g0 n0 ga : Nat) (kx : List Int) (l1 l2 : Nat) : ambIn 9 [(l2, H2a0 z0 g0 n0 ga kx), (l1, H1a)] := fun x hx => by
  rcases List.mem_cons.1 hx with rfl | hx
  · exact fmIn_of rfl
  · exact ambIn_one rfl x hx
theorem ambMa0 (z0 : List Int) (g0 n0 ga : Nat) (kx : List Int) (l1 l2 : Nat) : ambIn 10 [(l2, H2a0 z0 g0 n0 ga kx), (l1, H1a)] := fun x hx => by
  rcases List.mem_cons.1 hx with rfl | hx
  · exact fmIn_of rfl
  · exact ambIn_one rfl x hx
theorem chfa0 {z0 : List Int} {g0 n0 ga : Nat} {kx : List Int} (e : Exa z0 g0 n0 ga kx) {y : List Int} (hy : WpLaw y) (l1 l2 : Nat) {j : Nat} (hj : 16 * j + 16 ≤ n0) :
    YWp eGh 30 9 [(l2, H2a0 z0 g0 n0 ga kx), (l1, H1a)] bd79 [(2, .var 6 0), (5, .slice 1 1 g0 (16 * j) 16 (some 16))] (TNa0 z0 g0 n0 ga kx y l1) [(.busy, none), (.ready, none)] fun ex fm T σ => ex = .normal ∧ T = ((TNa0 z0 g0 n0 ga kx (mwLaw (xwLaw y (gwLaw (ckLaw z0 n0 j))) kx) l1) : Tab) ∧ σ = [(.busy, none), (.ready, none)] := by
  have hamb := amba0 z0 g0 n0 ga kx l1 l2
  have hambM := ambMa0 z0 g0 n0 ga kx l1 l2
  have hz := e.pz0
  have hbz := e.pb0
  have hcl := ck_len hz j
  have hcb := ck_bytes hbz n0 j
  have eb : (subLaw z0 (addO (16 * j) 0) 16) = (ckLaw z0 n0 j) := by rw [addO_eq, Nat.add_zero, ck_full hj]
  have hw : WpLaw (gwLaw (subLaw z0 (addO (16 * j) 0) 16)) := by rw [eb]; exact .gw hcb hcl
  rw [bd79_eq]
  refine YWp.block (YWp.seq (YWp.yieldDrawn eGh_ok hmA (l1 := ops79.toList.take 12) (oy := ops79.toList.getD 12 default) (o2 := ops79.toList.getD 13 default) (by kernel_rfl) (ds1 := [some true]) (o1 := Dfa0 z0 g0 n0 ga kx y l1 l2 (16 * j)) (by kernel_rfl) (by kernel_rfl) (by kernel_rfl) (by kernel_rfl) (by kernel_rfl) (by kernel_rfl) (Dfa0_ok ?_) (f := .tmp 15) (x := .tmp 26) (t := 27) (c := theCall (ops79.toList.getD 12 default)) (by kernel_rfl) (by kernel_rfl) (by kernel_rfl) (by kernel_rfl) (by kernel_rfl) (by kernel_rfl) (by decide) (i := 1) (l := l1) (H := H1a) (by rw [Dfa0_fm]; rfl) (v := .ints .u64 (gwLaw (subLaw z0 (addO (16 * j) 0) 16))) (by rw [Dfa0_fm]; rfl) rfl rfl (p := 9) rfl (by decide) (kk := 9) (by decide) (by rw [Dfa0_fm]; exact fmIn_of rfl) hamb ?_))
  · simp only [allP, Con.h, addO_eq, Nat.add_zero, hbz, eq_self, true_and, and_true]
    omega
  rw [Dfa0_tab]
  refine YWp.ofTo (To.of (o := A6fa0 z0 g0 n0 ga kx y l1 (gwLaw (subLaw z0 (addO (16 * j) 0) 16))) eGh_ok hmA (Nat.le_refl 9) OrcOk.nil rfl (A6fa0_ok ⟨hw.len, trivial⟩) A6fa0_ex A6fa0_fm A6fa0_tab) hamb ⟨rfl, rfl, ?_⟩
  refine YWp.ofTo (To.of (o := B6fa0 z0 g0 n0 ga kx y l1 (gwLaw (subLaw z0 (addO (16 * j) 0) 16))) eGh_ok hmA (Nat.le_refl 9) OrcOk.nil rfl (B6fa0_ok ?_) B6fa0_ex B6fa0_fm B6fa0_tab) hamb ⟨by decide, [], Nta0 z0 g0 n0 ga kx (mwLaw (xwLaw y (gwLaw (subLaw z0 (addO (16 * j) 0) 16))) kx) l1 _, rfl, Nta0_ok trivial, ?_⟩
  · have h1 := hy.len
    have h2 := hw.len
    have h3 := e.pk.len
    have h4 := hy.xw hw
    simp only [allP, Con.h, h1, h2, h3, h4, hy, hw, e.pk, and_true, true_and]
  rw [Nta0_fm, Nta0_tab, eb]
  show YWp eGh 30 9 [(l2, H2a0 z0 g0 n0 ga kx), (l1, H1a)] cnd79 _ _ _ _
  rw [cnd79_eq]
  exact YWp.cond (b := false) rfl (fun h => by cases h) (fun _ => YWp.skip hamb ⟨rfl, rfl, rfl⟩)
theorem chpa0 {z0 : List Int} {g0 n0 ga : Nat} {kx : List Int} (e : Exa z0 g0 n0 ga kx) {y : List Int} (hy : WpLaw y) (l1 l2 : Nat) {j r : Nat} (hr : r < 16) (hj : 16 * j + r = n0) :
    YWp eGh 30 9 [(l2, H2a0 z0 g0 n0 ga kx), (l1, H1a)] bd79 [(2, .var 6 0), (5, .slice 1 1 g0 (16 * j) r (some r))] (TNa0 z0 g0 n0 ga kx y l1) [(.busy, none), (.ready, none)] fun ex fm T σ => ex = .normal ∧ T = ((TNa0 z0 g0 n0 ga kx (mwLaw (xwLaw y (gwLaw (ckLaw z0 n0 j))) kx) l1) : Tab) ∧ σ = [(.busy, none), (.ready, none)] := by
  have hamb := amba0 z0 g0 n0 ga kx l1 l2
  have hambM := ambMa0 z0 g0 n0 ga kx l1 l2
  have hz := e.pz0
  have hbz := e.pb0
  have hcl := ck_len hz j
  have hcb := ck_bytes hbz n0 j
  have ex0 : (List.take r (dropO (addO (16 * j) 0) z0) ++ List.replicate (16 - (r : Int)).toNat 0) = (ckLaw z0 n0 j) := by
    rw [addO_eq, Nat.add_zero, dropO_eq, ck_part (by omega), show n0 - 16 * j = r by omega, show (16 - (r : Int)).toNat = 16 - r by omega]
  have eb : (subLaw (List.take r (dropO (addO (16 * j) 0) z0) ++ List.replicate (16 - (r : Int)).toNat 0) 0 16) = (ckLaw z0 n0 j) := by
    rw [ex0, take_sub, List.take_of_length_le (by omega)]
  have hw : WpLaw (gwLaw (subLaw (List.take r (dropO (addO (16 * j) 0) z0) ++ List.replicate (16 - (r : Int)).toNat 0) 0 16)) := by rw [eb]; exact .gw hcb hcl
  rw [bd79_eq]
  refine YWp.block (YWp.seq (YWp.yieldDrawn eGh_ok hmA (l1 := ops79.toList.take 12) (oy := ops79.toList.getD 12 default) (o2 := ops79.toList.getD 13 default) (by kernel_rfl) (ds1 := [some false]) (o1 := Dpa0 z0 g0 n0 ga kx y l1 l2 (16 * j) r) (by kernel_rfl) (by kernel_rfl) (by kernel_rfl) (by kernel_rfl) (by kernel_rfl) (by kernel_rfl) (Dpa0_ok ?_) (f := .tmp 15) (x := .tmp 26) (t := 27) (c := theCall (ops79.toList.getD 12 default)) (by kernel_rfl) (by kernel_rfl) (by kernel_rfl) (by kernel_rfl) (by kernel_rfl) (by kernel_rfl) (by decide) (i := 1) (l := l1) (H := H1a) (by rw [Dpa0_fm]; rfl) (v := .ints .u64 (gwLaw (subLaw (List.take r (dropO (addO (16 * j) 0) z0) ++ List.replicate (16 - (r : Int)).toNat 0) 0 16))) (by rw [Dpa0_fm]; rfl) rfl rfl (p := 9) rfl (by decide) (kk := 10) (by decide) (by rw [Dpa0_fm]; exact fmIn_of rfl) hamb ?_))
  · rw [ex0]
    simp only [allP, Con.h, addO_eq, Nat.add_zero, hcl, hcb, eq_self, true_and, and_true]
    omega
  rw [Dpa0_tab]
  refine YWp.ofTo (To.of (o := A6pa0 z0 g0 n0 ga kx y l1 (List.take r (dropO (addO (16 * j) 0) z0) ++ List.replicate (16 - (r : Int)).toNat 0) (gwLaw (subLaw (List.take r (dropO (addO (16 * j) 0) z0) ++ List.replicate (16 - (r : Int)).toNat 0) 0 16))) eGh_ok hmA (Nat.le_refl 10) OrcOk.nil rfl (A6pa0_ok ⟨hw.len, trivial⟩) A6pa0_ex A6pa0_fm A6pa0_tab) hambM ⟨rfl, rfl, ?_⟩
  refine YWp.ofTo (To.of (o := B6pa0 z0 g0 n0 ga kx y l1 (List.take r (dropO (addO (16 * j) 0) z0) ++ List.replicate (16 - (r : Int)).toNat 0) (gwLaw (subLaw (List.take r (dropO (addO (16 * j) 0) z0) ++ List.replicate (16 - (r : Int)).toNat 0) 0 16))) eGh_ok hmA (Nat.le_refl 10) OrcOk.nil rfl (B6pa0_ok ?_) B6pa0_ex B6pa0_fm B6pa0_tab) hambM ⟨by decide, [], Nqa0 z0 g0 n0 ga kx (mwLaw (xwLaw y (gwLaw (subLaw (List.take r (dropO (addO (16 * j) 0) z0) ++ List.replicate (16 - (r : Int)).toNat 0) 0 16))) kx) l1 (List.take r (dropO (addO (16 * j) 0) z0) ++ List.replicate (16 - (r : Int)).toNat 0) _, rfl, Nqa0_ok trivial, ?_⟩
  · have h1 := hy.len
    have h2 := hw.len
    have h3 := e.pk.len
    have h4 := hy.xw hw
    simp only [allP, Con.h, h1, h2, h3, h4, hy, hw, e.pk, and_true, true_and]
  rw [Nqa0_fm, Nqa0_tab, eb]
  show YWp eGh 30 9 [(l2, H2a0 z0 g0 n0 ga kx), (l1, H1a)] cnd79 _ _ _ _
  refine YWp.sub (f := [(28, .bool false)]) ⟨rfl, trivial⟩ ?_
  exact YWp.ofTo (To.of (k := 9) (o := Cpa0 z0 g0 n0 ga kx (mwLaw (xwLaw y (gwLaw (ckLaw z0 n0 j))) kx) l1 (List.take r (dropO (addO (16 * j) 0) z0) ++ List.replicate (16 - (r : Int)).toNat 0)) eGh_ok hmA (Nat.le_refl 9) OrcOk.nil rfl (Cpa0_ok trivial) Cpa0_ex Cpa0_fm Cpa0_tab) hamb ⟨rfl, rfl, rfl⟩
theorem cha0 {z0 : List Int} {g0 n0 ga : Nat} {kx : List Int} (e : Exa z0 g0 n0 ga kx) {y : List Int} (hy : WpLaw y) (l1 l2 : Nat) {j : Nat} (hj : 16 * j < n0) :
    YWp eGh 30 9 [(l2, H2a0 z0 g0 n0 ga kx), (l1, H1a)] bd79 [(2, .var 6 0), (5, .slice 1 1 g0 (16 * j) (min 16 (n0 - 16 * j)) (some (min 16 (n0 - 16 * j))))] (TNa0 z0 g0 n0 ga kx y l1) [(.busy, none), (.ready, none)] fun ex fm T σ => ex = .normal ∧ T = ((TNa0 z0 g0 n0 ga kx (mwLaw (xwLaw y (gwLaw (ckLaw z0 n0 j))) kx) l1) : Tab) ∧ σ = [(.busy, none), (.ready, none)] := by
  by_cases h : 16 * j + 16 ≤ n0
  · rw [show min 16 (n0 - 16 * j) = 16 by omega]
    exact chfa0 e hy l1 l2 h
  · exact chpa0 e hy l1 l2 (by omega) (by omega)
theorem rda0 {z0 : List Int} {g0 n0 ga : Nat} {kx : List Int} (e : Exa z0 g0 n0 ga kx) {y : List Int} (hy : WpLaw y) (l1 l2 : Nat) {j : Nat} (hj : 16 * j < n0) :
    YWp eGh 31 9 [(l2, H2a0 z0 g0 n0 ga kx), (l1, H1a)] (roundOf 0 f81) [(0, .func (.yield l2) [] []), (1, .var 7 0), (2, .var 8 0), (4, .int .i64 ((16 * j : Nat) : Int))] (TNa0 z0 g0 n0 ga kx y l1) [(.ready, none), (.ready, none)] fun ex fm T σ => ex = .normal ∧ fm = [(0, .func (.yield l2) [] []), (1, .var 7 0), (2, .var 8 0), (4, .int .i64 ((16 * (j + 1) : Nat) : Int))] ∧ T = ((TNa0 z0 g0 n0 ga kx (mwLaw (xwLaw y (gwLaw (ckLaw z0 n0 j))) kx) l1) : Tab) ∧ σ = [(.ready, none), (.ready, none)] := by
  have hamb := amba0 z0 g0 n0 ga kx l1 l2
  have hz := e.pz0
  have hm := e.pm0
  skip
  have er : (if (↑(subO n0 ((16 * j : Nat) : Int).toNat) : Int) < 16 then (↑(subO n0 ((16 * j : Nat) : Int).toNat) : Int) else 16) = ((min 16 (n0 - 16 * j) : Nat) : Int) := by
    rw [Int.toNat_natCast, subO_eq, min16]
  have e1 : ((16 * j : Nat) : Int).toNat = 16 * j := Int.toNat_natCast _
  have e2 : subO (((16 * j : Nat) : Int) + ((min 16 (n0 - 16 * j) : Nat) : Int)).toNat (16 * j) = min 16 (n0 - 16 * j) := by rw [subO_eq]; omega
  rw [split81]
  refine YWp.seq (YWp.ofTo (To.of (o := Hya0 z0 g0 n0 ga kx y l1 l2 ((16 * j : Nat) : Int)) eGh_ok hmA (Nat.le_refl 9) OrcOk.nil rfl (Hya0_ok ?_) Hya0_ex Hya0_fm Hya0_tab) hamb ?_)
  · simp only [allP, Con.h, decide_eq_true_eq, eq_self, true_and, and_true]; omega
  refine YWp.seq (YWp.block (YWp.seq (YWp.ofTo (To.of (o := Msa0 z0 g0 n0 ga kx y l1 l2 ((16 * j : Nat) : Int)) (fm' := [(0, .func (.yield l2) [] []), (1, .var 7 0), (2, .var 8 0), (4, .int .i64 ((16 * j : Nat) : Int))] ++ [(5, .int .i64 ((min 16 (n0 - 16 * j) : Nat) : Int))]) eGh_ok hmA (Nat.le_refl 9) OrcOk.nil rfl (Msa0_ok ?_) Msa0_ex (by rw [Msa0_fm, er]; rfl) Msa0_tab) hamb ?_)))
  · simp only [allP, Con.h, eq_self, true_and, and_true]; omega
  refine YWp.seq (YWp.yieldRegion eGh_ok (l1 := ops81.toList.take 10) (l2 := ops81.toList.drop 11) (oy := ops81.toList.getD 10 default) (by kernel_rfl) (ds1 := []) (o1 := Yaa0 z0 g0 n0 ga kx y l1 l2 ((16 * j : Nat) : Int) ((min 16 (n0 - 16 * j) : Nat) : Int)) (by kernel_rfl) (Yaa0_ok ?_) (f := .tmp 19) (x := .tmp 28) (t := 29) (c := theCall (ops81.toList.getD 10 default)) (by kernel_rfl) (by kernel_rfl) (by kernel_rfl) (by kernel_rfl) (by kernel_rfl) (by decide) (i := 0) (l := l2) (H := H2a0 z0 g0 n0 ga kx) (by rw [Yaa0_fm]; rfl) (v := .slice 1 1 g0 (16 * j) (min 16 (n0 - 16 * j)) (some (min 16 (n0 - 16 * j)))) (by rw [Yaa0_fm, e1, e2]; rfl) rfl rfl (p := 14) rfl (show 14 < 30 by decide) (kk := 9) (Nat.le_refl _) (by rw [Yaa0_fm]; exact fmIn_of rfl) hamb ?_)
  · simp only [allP, Con.h, eq_self, true_and, and_true]; omega
  rw [Yaa0_tab]
  refine YWp.ofTo (To.of (o := Asa0 z0 g0 n0 ga kx y l1 l2 (16 * j) (min 16 (n0 - 16 * j))) eGh_ok hmA (Nat.le_refl 9) OrcOk.nil rfl (Asa0_ok trivial) Asa0_ex Asa0_fm Asa0_tab) hamb ⟨rfl, rfl, ?_⟩
  refine YWp.mono (cha0 e hy l1 l2 hj) fun ex fm T σ hP => ?_
  obtain ⟨rfl, rfl, rfl⟩ := hP
  refine ⟨by decide, [], Nua0 z0 g0 n0 ga kx (mwLaw (xwLaw y (gwLaw (ckLaw z0 n0 j))) kx) l1 _, rfl, Nua0_ok trivial, ?_⟩
  rw [Nua0_fm, Nua0_tab, Yaa0_fm]
  show YWp eGh 31 9 [(l2, H2a0 z0 g0 n0 ga kx), (l1, H1a)] cnd81 _ _ _ _
  rw [cnd81_eq]
  refine YWp.cond (b := false) rfl (fun h => by cases h) (fun _ => YWp.skip hamb ?_)
  show YWp eGh 31 9 [(l2, H2a0 z0 g0 n0 ga kx), (l1, H1a)] r81 _ _ _ _
  refine YWp.sub (f := [(0, .func (.yield l2) [] []), (1, .var 7 0), (2, .var 8 0), (4, .int .i64 ((16 * j : Nat) : Int))]) ⟨rfl, rfl, rfl, rfl, trivial⟩ ?_
  refine YWp.ofTo (To.of (o := Rba0 z0 g0 n0 ga kx _ l1 l2 ((16 * j : Nat) : Int)) eGh_ok hmA (Nat.le_refl 9) OrcOk.nil rfl (Rba0_ok ?_) Rba0_ex Rba0_fm Rba0_tab) hamb ⟨rfl, ?_, rfl, rfl⟩
  · simp only [allP, Con.h, and_true]; omega
  · rw [show ((16 * j : Nat) : Int) + 16 = ((16 * (j + 1) : Nat) : Int) by omega]
theorem ina0 {z0 : List Int} {g0 n0 ga : Nat} {kx : List Int} (e : Exa z0 g0 n0 ga kx) {y : List Int} (hy : WpLaw y) (l1 l2 : Nat) :
    YWp eGh 31 9 [(l2, H2a0 z0 g0 n0 ga kx), (l1, H1a)] (bodyOf f81) (argF ([] ++ (.func (.yield l2) [] [] :: [.var 7 0, .var 8 0])) 0) (TNa0 z0 g0 n0 ga kx y l1) [(.ready, none), (.ready, none)] fun ex fm' T' σ' =>
      (ex = .normal ∨ ex = .ret) ∧ (∃ cs us, aRes eGh fm' T' f81.results.toList = some (cs, us) ∧ allP cs) ∧ ∃ st σ2, σ' = st :: σ2 ∧ st.1 ≠ .busy ∧
        match st.2 with
        | none => AExit.normal = .normal ∧ [(1, .var 5 0), (2, .var 6 0), (6, .slice 1 0 ga 0 1 (some 1)), (7, .int .i64 1), (8, .int .i64 0), (13, .func (.func 81) [] [.var 7 0, .var 8 0])] = (H2a0 z0 g0 n0 ga kx).fm ∧ T' = (TNa0 z0 g0 n0 ga kx (hsLaw kx y z0 n0) l1) ∧ σ2 = [(.ready, none)]
        | some (.exit id) => AExit.exit id = .normal ∧ [(1, .var 5 0), (2, .var 6 0), (6, .slice 1 0 ga 0 1 (some 1)), (7, .int .i64 1), (8, .int .i64 0), (13, .func (.func 81) [] [.var 7 0, .var 8 0])] = (H2a0 z0 g0 n0 ga kx).fm ∧ T' = (TNa0 z0 g0 n0 ga kx (hsLaw kx y z0 n0) l1) ∧ σ2 = [(.ready, none)]
        | some .ret => AExit.ret = .normal ∧ [(1, .var 5 0), (2, .var 6 0), (6, .slice 1 0 ga 0 1 (some 1)), (7, .int .i64 1), (8, .int .i64 0), (13, .func (.func 81) [] [.var 7 0, .var 8 0])] = (H2a0 z0 g0 n0 ga kx).fm ∧ T' = (TNa0 z0 g0 n0 ga kx (hsLaw kx y z0 n0) l1) ∧ σ2 = [(.ready, none)]
        | _ => False := by
  have hamb := amba0 z0 g0 n0 ga kx l1 l2
  rw [splitb81, res81]
  refine YWp.seq (YWp.ofTo (To.of (o := Zsa0 z0 g0 n0 ga kx y l1 l2) eGh_ok hmA (Nat.le_refl 9) OrcOk.nil rfl (Zsa0_ok trivial) Zsa0_ex Zsa0_fm Zsa0_tab) hamb ?_)
  refine YWp.block (YWp.loop (fun fm T σ μ => ∃ j, 16 * j < n0 + 16 ∧ μ = n0 + 16 - j ∧ fm = [(0, .func (.yield l2) [] []), (1, .var 7 0), (2, .var 8 0), (4, .int .i64 ((16 * j : Nat) : Int))] ∧ T = (TNa0 z0 g0 n0 ga kx (hyLaw kx y z0 n0 j) l1) ∧ σ = [(.ready, none), (.ready, none)]) (n0 + 16) ⟨0, by omega, rfl, rfl, rfl, rfl⟩ ?_)
  rintro fm T σ μ ⟨j, hj, rfl, rfl, rfl, rfl⟩
  by_cases h : 16 * j < n0
  · refine YWp.mono (rda0 e (hy_wp hy e.pz0 e.pb0 j) l1 l2 h) fun ex fm T σ hP => ?_
    obtain ⟨rfl, rfl, rfl, rfl⟩ := hP
    exact ⟨n0 + 16 - (j + 1), by omega, j + 1, by omega, rfl, rfl, rfl, rfl⟩
  · rw [split81]
    refine YWp.seq (YWp.ofTo (To.of (o := Hna0 z0 g0 n0 ga kx (hyLaw kx y z0 n0 j) l1 l2 ((16 * j : Nat) : Int)) eGh_ok hmA (Nat.le_refl 9) OrcOk.nil rfl (Hna0_ok ?_) Hna0_ex Hna0_fm Hna0_tab) hamb ?_)
    · simp only [allP, Con.h, decide_eq_false_iff_not, eq_self, true_and, and_true]; omega
    obtain rfl : j = (n0 + 15) / 16 := by omega
    exact ⟨.inl rfl, ⟨[], [], rfl, trivial⟩, (.ready, none), _, rfl, by decide, rfl, rfl, rfl, rfl⟩
theorem roa0 {z0 : List Int} {g0 n0 ga : Nat} {kx : List Int} (e : Exa z0 g0 n0 ga kx) {y : List Int} (hy : WpLaw y) (l1 : Nat) :
    YWp eGh 30 6 [(l1, H1a)] (roundOf 0 f79) [(1, .var 5 0), (2, .var 6 0), (6, .slice 1 0 ga 0 1 (some 1)), (7, .int .i64 1), (8, .int .i64 0)] (TPa z0 g0 n0 ga kx y l1) [(.ready, none)] fun ex fm T σ => ex = .normal ∧ fm = [(1, .var 5 0), (2, .var 6 0), (6, .slice 1 0 ga 0 1 (some 1)), (7, .int .i64 1), (8, .int .i64 1)] ∧ T = ((TPa z0 g0 n0 ga kx (hsLaw kx y z0 n0) l1) : Tab) ∧ σ = [(.ready, none)] := by
  have hamb : ambIn 6 [(l1, H1a)] := ambIn_one rfl
  rw [split79]
  refine YWp.seq (YWp.ofTo (To.base (by decide) (To.of (o := Hda0 z0 g0 n0 ga kx y l1) eGh_ok hmA (Nat.le_refl 7) OrcOk.nil rfl (Hda0_ok trivial) Hda0_ex Hda0_fm Hda0_tab)) hamb ?_)
  refine YWp.seq ?_
  rw [c79_eq]
  refine YWp.cond (b := true) rfl (fun _ => YWp.skip hamb ?_) (fun h => by cases h)
  refine YWp.sub (f := [(1, .var 5 0), (2, .var 6 0), (6, .slice 1 0 ga 0 1 (some 1)), (7, .int .i64 1), (8, .int .i64 0)]) ⟨rfl, rfl, rfl, rfl, rfl, trivial⟩ ?_
  refine YWp.seq (YWp.block (YWp.seq (YWp.ofTo (To.base (by decide) (To.of (o := Paa0 z0 g0 n0 ga kx y l1) eGh_ok hmA (Nat.le_refl 7) OrcOk.nil rfl (Paa0_ok ⟨rfl, rfl, trivial⟩) Paa0_ex Paa0_fm Paa0_tab)) hamb ?_)))
  refine YWp.sub (f := ((4, .slice 1 1 g0 0 n0 none) :: [(1, .var 5 0), (2, .var 6 0), (6, .slice 1 0 ga 0 1 (some 1)), (7, .int .i64 1), (8, .int .i64 0)])) ⟨rfl, rfl, rfl, rfl, rfl, rfl, trivial⟩ ?_
  refine YWp.seq (YWp.ofTo (To.base (by decide) (To.of (k := 7) (o := Pba0 z0 g0 n0 ga kx y l1) eGh_ok hmA (Nat.le_refl 7) OrcOk.nil rfl (Pba0_ok ⟨rfl, trivial⟩) Pba0_ex Pba0_fm Pba0_tab)) hamb ?_)
  refine YWp.block ?_
  rw [rf79_eq]
  refine YWp.mono (YWp.rangeFunc (post := fun ex fm T' σ' => ex = .normal ∧ fm = (H2a0 z0 g0 n0 ga kx).fm ∧ T' = (TNa0 z0 g0 n0 ga kx (hsLaw kx y z0 n0) l1) ∧ σ' = [(.ready, none)]) eGh_ok (gf := 81) (gfn := f81) (c := bodyOf f81) (first := []) (caps := [.var 7 0, .var 8 0]) rfl (by kernel_rfl) (by kernel_rfl) (by kernel_rfl) (kk := 9) (by decide) (fmIn_of rfl) (by kernel_rfl) (fun l2 => ina0 e hy l1 l2)) fun ex fm T σ hP => ?_
  obtain ⟨rfl, rfl, rfl, rfl⟩ := hP
  show YWp eGh 30 6 [(l1, H1a)] r79 _ _ _ _
  exact YWp.ofTo (To.base (by decide) (To.of (k := 7) (o := Rra0 z0 g0 n0 ga kx (hsLaw kx y z0 n0) l1) eGh_ok hmA (Nat.le_refl 7) OrcOk.nil rfl (Rra0_ok trivial) Rra0_ex Rra0_fm Rra0_tab)) hamb ⟨rfl, rfl, rfl, rfl⟩
theorem outa {z0 : List Int} {g0 n0 ga : Nat} {kx : List Int} (e : Exa z0 g0 n0 ga kx) (l1 : Nat) : YWp eGh 30 6 [(l1, H1a)] (bodyOf f79) (argF ([] ++ (.func (.yield l1) [] [] :: [.var 5 0])) 0) (TBa z0 g0 n0 ga kx [0, 0]) [(.ready, none)] fun ex fm' T' σ' =>
      (ex = .normal ∨ ex = .ret) ∧ (∃ cs us, aRes eGh fm' T' f79.results.toList = some (cs, us) ∧ allP cs) ∧ ∃ st σ2, σ' = st :: σ2 ∧ st.1 ≠ .busy ∧
        match st.2 with
        | none => (AExit.normal = .normal ∨ AExit.normal = .exit 0) ∧ [(2, .var 2 0), (4, .var 3 0), (5, .var 4 0), (8, .func (.func 79) [] [.var 5 0])] = H1a.fm ∧ T' = (TBa z0 g0 n0 ga kx (hsLaw kx [0, 0] z0 n0))
        | some (.exit id) => (AExit.exit id = .normal ∨ AExit.exit id = .exit 0) ∧ [(2, .var 2 0), (4, .var 3 0), (5, .var 4 0), (8, .func (.func 79) [] [.var 5 0])] = H1a.fm ∧ T' = (TBa z0 g0 n0 ga kx (hsLaw kx [0, 0] z0 n0))
        | some .ret => (AExit.ret = .normal ∨ AExit.ret = .exit 0) ∧ [(2, .var 2 0), (4, .var 3 0), (5, .var 4 0), (8, .func (.func 79) [] [.var 5 0])] = H1a.fm ∧ T' = (TBa z0 g0 n0 ga kx (hsLaw kx [0, 0] z0 n0))
        | _ => False := by
  have hamb : ambIn 6 [(l1, H1a)] := ambIn_one rfl
  have w0 := WpLaw.zero
  have w1 := hs_wp (h := kx) w0 e.pz0 e.pb0
  rw [splitb79, res79]
  refine YWp.seq (YWp.ofTo (To.of (k := 6) (o := Saa z0 g0 n0 ga kx l1) eGh_ok hmA (Nat.le_refl 6) OrcOk.nil rfl (Saa_ok trivial) Saa_ex Saa_fm Saa_tab) hamb ?_)
  refine YWp.seq (YWp.ofTo (To.base (by decide) (To.of (k := 7) (o := Sba z0 g0 n0 ga kx l1) eGh_ok hmA (Nat.le_refl 7) OrcOk.nil rfl (Sba_ok ⟨rfl, trivial⟩) Sba_ex Sba_fm Sba_tab)) hamb ?_)
  refine YWp.block (YWp.loop (fun fm T σ μ => σ = [(.ready, none)] ∧ ((μ = 1 ∧ fm = [(1, .var 5 0), (2, .var 6 0), (6, .slice 1 0 ga 0 1 (some 1)), (7, .int .i64 1), (8, .int .i64 0)] ∧ T = (TPa z0 g0 n0 ga kx [0, 0] l1)) ∨ (μ = 0 ∧ fm = [(1, .var 5 0), (2, .var 6 0), (6, .slice 1 0 ga 0 1 (some 1)), (7, .int .i64 1), (8, .int .i64 1)] ∧ T = (TPa z0 g0 n0 ga kx (hsLaw kx [0, 0] z0 n0) l1)))) 1 ⟨rfl, .inl ⟨rfl, rfl, rfl⟩⟩ ?_)
  rintro fm T σ μ ⟨rfl, hI⟩
  rcases hI with ⟨rfl, rfl, rfl⟩ | ⟨rfl, rfl, rfl⟩
  · refine YWp.mono (roa0 e w0 l1) fun ex fm T σ hP => ?_
    obtain ⟨rfl, rfl, rfl, rfl⟩ := hP
    exact ⟨0, by decide, rfl, .inr (⟨rfl, rfl, rfl⟩)⟩
  · rw [split79]
    refine YWp.seq (YWp.ofTo (To.of (k := 6) (o := Hda1 z0 g0 n0 ga kx (hsLaw kx [0, 0] z0 n0) l1) eGh_ok hmA (Nat.le_refl 6) OrcOk.nil rfl (Hda1_ok trivial) Hda1_ex Hda1_fm Hda1_tab) hamb ?_)
    refine YWp.seq ?_
    rw [c79_eq]
    refine YWp.cond (b := false) rfl (fun h => by cases h) (fun _ => YWp.exit hamb ?_)
    exact ⟨.inl rfl, ⟨[], [], rfl, trivial⟩, (.ready, none), _, rfl, by decide, .inl rfl, rfl, rfl⟩
theorem blk63a {z0 : List Int} {g0 n0 ga : Nat} {kx : List Int} (e : Exa z0 g0 n0 ga kx) : To eGh 16 6 (.block 0 rf63) [(2, .var 2 0), (4, .var 3 0), (5, .var 4 0), (8, .func (.func 79) [] [.var 5 0])] (TBa z0 g0 n0 ga kx [0, 0]) .normal [(2, .var 2 0), (4, .var 3 0), (5, .var 4 0), (8, .func (.func 79) [] [.var 5 0])] (TBa z0 g0 n0 ga kx (hsLaw kx [0, 0] z0 n0)) := by
  refine AWp.block (AWp.ofY ?_)
  rw [rf63_eq]
  refine YWp.mono (YWp.rangeFunc (post := fun ex fm T' σ' => (ex = .normal ∨ ex = .exit 0) ∧ fm = H1a.fm ∧ T' = (TBa z0 g0 n0 ga kx (hsLaw kx [0, 0] z0 n0))) eGh_ok (gf := 79) (gfn := f79) (c := bodyOf f79) (first := []) (caps := [.var 5 0]) rfl (by kernel_rfl) (by kernel_rfl) (by kernel_rfl) (kk := 6) (Nat.le_refl _) (fmIn_of rfl) (by kernel_rfl) (fun l => outa e l)) fun ex fm T σ hP => ?_
  obtain ⟨h1, rfl, rfl⟩ := hP
  rcases h1 with rfl | rfl
  · exact ⟨rfl, rfl, rfl⟩
  · exact ⟨rfl, rfl, rfl⟩
noncomputable def g63ac (vs : List AVal) (T : Tab) (z0 : List Int) (g0 : Nat) (n0 : Nat) (ga : Nat) (kx : List Int) : Out := ⟨[.tab T [some ⟨.agg [.slice 1 1 g0 0 n0 none], ga, false, 25⟩, some ⟨.ints .u8 z0, g0, false, 5⟩, some ⟨.ints .u64 kx, 0, true, 65⟩, some ⟨.ints .u64 [0, 0], 0, true, 65⟩, some ⟨.ints .u64 [0, 0], 0, true, 65⟩, some ⟨.agg [.slice 1 0 ga 0 1 (some 1)], 0, true, 81⟩], .val (.tuple vs) (.tuple [.var 2 0, .var 3 0, .var 4 0, .func (.func 79) [] [.var 5 0]]), .leN n0 z0.length, .leN n0 140737488352000, .p (Bytes z0), .p (WpLaw kx)], .normal, [(2, .var 2 0), (4, .var 3 0), (5, .var 4 0), (8, .func (.func 79) [] [.var 5 0])], [some ⟨.agg [.slice 1 1 g0 0 n0 none], ga, false, 25⟩, some ⟨.ints .u8 z0, g0, false, 5⟩, some ⟨.ints .u64 kx, 0, true, 65⟩, some ⟨.ints .u64 [0, 0], 0, true, 65⟩, some ⟨.ints .u64 (hsLaw kx [0, 0] z0 n0), 0, true, 65⟩, some ⟨.agg [.slice 1 0 ga 0 1 (some 1)], 0, true, 81⟩], []⟩
theorem g63ac_ok {vs : List AVal} {T : Tab} {z0 : List Int} {g0 : Nat} {n0 : Nat} {ga : Nat} {kx : List Int} (h : Ok (g63ac vs T z0 g0 n0 ga kx)) : To eGh 16 6 (.block 0 rf63) (zipF [2,4,5,8] vs) T (g63ac vs T z0 g0 n0 ga kx).ex (g63ac vs T z0 g0 n0 ga kx).fm (g63ac vs T z0 g0 n0 ga kx).tab := by
  obtain ⟨hT, hv, h1, h2, h3, h4, _⟩ := h.h
  simp only [Con.h] at hT hv h1 h2 h3 h4
  injection hv with hv
  subst hT hv
  exact blk63a ⟨h1, h2, h3, h4⟩
noncomputable def g63a : List AVal → Tab → Out := fun vs T => g63ac vs T (xsAt T 1) (gAt T 1) (lenOf (cAt T 0 0)) (gAt T 0) (xsAt T 2)
theorem g63a_ok : BlkOk eGh f63 0 rf63 (blkS 6 [2,4,5,8] g63a) := blkS_ok fun vs T h => g63ac_ok h
noncomputable def orc63a : OrcL := [(0, blkS 6 [2,4,5,8] g63a)]
theorem orc63a_ok : FnOrc eGh f63 orc63a := FnOrc.cons g63a_ok (by kernel_rfl) FnOrc.nil
noncomputable def R63a (z0 : List Int) (g0 n0 ga : Nat) (kx : List Int) : Res := resG 2 [0, 1] (runF eGh f63 orc63a 400 [.ints .u64 kx, .slice 1 0 ga 0 1 (some 1)] [some ⟨.agg [.slice 1 1 g0 0 n0 none], ga, false, 25⟩, some ⟨.ints .u8 z0, g0, false, 5⟩] [])
theorem R63a_ok {z0 : List Int} {g0 n0 ga : Nat} {kx : List Int} (h : allP [.eqN ga ga, .eqN g0 g0, .leN n0 z0.length, .leN n0 140737488352000, .p (Bytes z0), .p (WpLaw kx), .eqN (hsLaw kx [0, 0] z0 n0).length 2, .eqN (hsLaw kx [0, 0] z0 n0).length 2, .eqN (hsLaw kx [0, 0] z0 n0).length 2]) : OkR (R63a z0 g0 n0 ga kx) := OkR.dem (fl := bitsF 16 29952) (by kernel_rfl) (by kernel_rfl) (by kernel_rfl)
 h
theorem R63a_val {z0 : List Int} {g0 n0 ga : Nat} {kx : List Int} : (R63a z0 g0 n0 ga kx).val = .ints .u64 (hsLaw kx [0, 0] z0 n0) := by kernel_rfl
theorem R63a_tab {z0 : List Int} {g0 n0 ga : Nat} {kx : List Int} : (R63a z0 g0 n0 ga kx).tab = [some ⟨.agg [.slice 1 1 g0 0 n0 none], ga, false, 25⟩, some ⟨.ints .u8 z0, g0, false, 5⟩] := by kernel_rfl
noncomputable def sm63ac (args : List AVal) (T : Tab) (z0 : List Int) (g0 : Nat) (n0 : Nat) (ga : Nat) (kx : List Int) : Res := ⟨[.tab T [some ⟨.agg [.slice 1 1 g0 0 n0 none], ga, false, 25⟩, some ⟨.ints .u8 z0, g0, false, 5⟩], .val (.tuple args) (.tuple [.ints .u64 kx, .slice 1 0 ga 0 1 (some 1)]), .leN n0 z0.length, .leN n0 140737488352000, .p (Bytes z0), .p (WpLaw kx)], .ints .u64 (hsLaw kx [0, 0] z0 n0), [some ⟨.agg [.slice 1 1 g0 0 n0 none], ga, false, 25⟩, some ⟨.ints .u8 z0, g0, false, 5⟩]⟩
theorem sm63ac_ok {args : List AVal} {T : Tab} {z0 : List Int} {g0 : Nat} {n0 : Nat} {ga : Nat} {kx : List Int} (h : allP (sm63ac args T z0 g0 n0 ga kx).cs) : Small prog (fun _ => none) 63 args T (sm63ac args T z0 g0 n0 ga kx).val (sm63ac args T z0 g0 n0 ga kx).tab := by
  obtain ⟨hT, hv, h1, h2, h3, h4, _⟩ := h
  simp only [Con.h] at hT hv h1 h2 h3 h4
  injection hv with hv
  subst hT hv
  have w0 := WpLaw.zero
  have w1 := hs_wp (h := kx) w0 h1 h3
  refine small_ofG (R := R63a z0 g0 n0 ga kx) (keep := [0, 1]) eGh_ok hmA (f := 63) (fn := f63) (by kernel_rfl) (by kernel_rfl) orc63a_ok rfl (R63a_ok ?_) R63a_val R63a_tab
  have hl := w1.len
  have hk := h4.len
  simp only [allP, Con.h, hl, hk, h1, h2, h3, h4, eq_self, true_and, and_true]
noncomputable def sm63a : Summary := fun args T => sm63ac args T (xsAt T 1) (gAt T 1) (lenOf (cAt T 0 0)) (gAt T 0) (xsOf (vAt args 0))
theorem sm63a_ok : SmOk prog (fun _ => none) 63 sm63a := fun args T h => sm63ac_ok h
end Go.Abs
