/- What functions of the given program come to, by the abstract machine: texts of a proof. -/
import Derived.Test.YtmfacmccilipfaaP0
import Derived.Test.YtmfacmccilipfaaAbs2
set_option linter.unusedVariables false
set_option linter.unusedSimpArgs false
set_option maxRecDepth 100000
set_option maxHeartbeats 4000000
namespace Go.Abs
open Go.Proofs Go.Proofs.Try
/-! ### the document: the reader: runs -/
noncomputable def eQ1 : Env := eN0 [(77, S34r), (84, S41), (85, S46r)]
theorem eQ1_ok : EnvOk eQ1 := envOf_ok tysN_ok (SumsOk.cons (fn := f77) S34r_ok (by kernel_rfl) (by kernel_rfl) (by kernel_rfl) (SumsOk.cons (fn := f84) S41_ok (by kernel_rfl) (by kernel_rfl) (by kernel_rfl) (SumsOk.cons (fn := f85) S46r_ok (by kernel_rfl) (by kernel_rfl) (by kernel_rfl) trivial)))
noncomputable def eQ1x : Env := eN0 [(77, S34r), (84, S41x), (85, S46r)]
theorem eQ1x_ok : EnvOk eQ1x := envOf_ok tysN_ok (SumsOk.cons (fn := f77) S34r_ok (by kernel_rfl) (by kernel_rfl) (by kernel_rfl) (SumsOk.cons (fn := f84) S41x_ok (by kernel_rfl) (by kernel_rfl) (by kernel_rfl) (SumsOk.cons (fn := f85) S46r_ok (by kernel_rfl) (by kernel_rfl) (by kernel_rfl) trivial)))
noncomputable def R26e (B : List Int) (g gR off nB : Nat) (e size : Int) : Res := runF eQ1 f63 [] 400 [.var 0 gR, .int .i64 size] [some ⟨.agg [.slice 1 1 g 0 nB none, .int .i64 (off : Nat), .int .i64 e], gR, true, 118⟩, some ⟨.ints .u8 B, g, false, 5⟩] [some true]
theorem R26e_ok {B : List Int} {g gR off nB : Nat} {e size : Int} (h : allP [.eqN gR gR, .eqN gR gR, .eqN gR gR, .p ((e != 0) = true)]) : OkR (R26e B g gR off nB e size) := OkR.dem (fl := [false, false, false, true, false]) (by kernel_rfl) (by kernel_rfl) (by kernel_rfl) h
theorem R26e_val {B : List Int} {g gR off nB : Nat} {e size : Int} : (R26e B g gR off nB e size).val = .int .i64 0 := by kernel_rfl
theorem R26e_tab {B : List Int} {g gR off nB : Nat} {e size : Int} : (R26e B g gR off nB e size).tab = [some ⟨.agg [.slice 1 1 g 0 nB none, .int .i64 (↑off : Int), .int .i64 e], gR, true, 118⟩, some ⟨.ints .u8 B, g, false, 5⟩] := by kernel_rfl
noncomputable def R26x (B : List Int) (g gR off nB : Nat) (size : Int) : Res := runF eQ1x f63 [] 400 [.var 0 gR, .int .i64 size] [some ⟨.agg [.slice 1 1 g 0 nB none, .int .i64 (off : Nat), .int .i64 0], gR, true, 118⟩, some ⟨.ints .u8 B, g, false, 5⟩] [none, none]
theorem R26x_ok {B : List Int} {g gR off nB : Nat} {size : Int} (h : allP [.eqN gR gR, .eqN gR gR, .eqN gR gR, .p ((size == 1) = false), .p ((size == 2) = false), .p ((size == 4) = false), .p ((size == 8) = false), .eqN gR gR, .eqN gR gR, .eqN gR gR]) : OkR (R26x B g gR off nB size) := OkR.dem (fl := bitsF 14 14344) (by kernel_rfl) (by kernel_rfl) (by kernel_rfl) h
theorem R26x_val {B : List Int} {g gR off nB : Nat} {size : Int} : (R26x B g gR off nB size).val = .int .i64 0 := by kernel_rfl
theorem R26x_tab {B : List Int} {g gR off nB : Nat} {size : Int} : (R26x B g gR off nB size).tab = [some ⟨.agg [.slice 1 1 g 0 nB none, .int .i64 (↑off : Int), .int .i64 1], gR, true, 118⟩, some ⟨.ints .u8 B, g, false, 5⟩] := by kernel_rfl
noncomputable def R26s1 (B : List Int) (g gR off nB : Nat) : Res := runF eQ1 f63 [] 400 [.var 0 gR, .int .i64 1] [some ⟨.agg [.slice 1 1 g 0 nB none, .int .i64 (off : Nat), .int .i64 0], gR, true, 118⟩, some ⟨.ints .u8 B, g, false, 5⟩] [none, none, some true]
theorem R26s1_ok {B : List Int} {g gR off nB : Nat} (h : allP [.eqN gR gR, .eqN gR gR, .eqN gR gR, .eqN gR gR, .eqN g g, .leN off nB, .leN nB 140737488355000, .p (decide ((↑(nB - off) : Int) < 1) = true), .eqN gR gR, .eqN gR gR, .eqN gR gR]) : OkR (R26s1 B g gR off nB) := OkR.dem (fl := bitsF 17 114696) (by kernel_rfl) (by kernel_rfl) (by kernel_rfl) h
theorem R26s1_val {B : List Int} {g gR off nB : Nat} : (R26s1 B g gR off nB).val = .int .i64 0 := by kernel_rfl
theorem R26s1_tab {B : List Int} {g gR off nB : Nat} : (R26s1 B g gR off nB).tab = [some ⟨.agg [.slice 1 1 g 0 nB none, .int .i64 (↑off : Int), .int .i64 20], gR, true, 118⟩, some ⟨.ints .u8 B, g, false, 5⟩] := by kernel_rfl
noncomputable def R26g1 (B : List Int) (g gR off nB : Nat) : Res := runF eQ1 f63 [] 400 [.var 0 gR, .int .i64 1] [some ⟨.agg [.slice 1 1 g 0 nB none, .int .i64 (off : Nat), .int .i64 0], gR, true, 118⟩, some ⟨.ints .u8 B, g, false, 5⟩] [none, none, some false, none]
theorem R26g1_ok {B : List Int} {g gR off nB : Nat} (h : allP [.eqN gR gR, .eqN gR gR, .eqN gR gR, .eqN gR gR, .eqN g g, .leN off nB, .leN nB 140737488355000, .p (decide ((↑(nB - off) : Int) < 1) = false), .eqN gR gR, .eqN g g, .p (sizedLaw (OfNat.ofNat 1)), .leN (off + 1) B.length, .eqN nB B.length, .leN B.length 140737488355000, .p (ByLaw B), .p (LowLaw B off (OfNat.ofNat 1)), .eqN gR gR, .eqN gR
 gR, .eqN gR gR, .rng (-9223372036854775808) ((↑off : Int) + 1) 9223372036854775807, .eqN gR gR, .eqN gR gR, .eqN gR gR]) : OkR (R26g1 B g gR off nB) := OkR.dem (fl := bitsF 33 7549747208) (by kernel_rfl) (by kernel_rfl) (by kernel_rfl) h
theorem R26g1_val {B : List Int} {g gR off nB : Nat} : (R26g1 B g gR off nB).val = .int .i64 (numAtLaw 1 B off) := by kernel_rfl
theorem R26g1_tab {B : List Int} {g gR off nB : Nat} : (R26g1 B g gR off nB).tab = [some ⟨.agg [.slice 1 1 g 0 nB none, .int .i64 ((↑off : Int) + 1), .int .i64 0], gR, true, 118⟩, some ⟨.ints .u8 B, g, false, 5⟩] := by kernel_rfl
noncomputable def R26s2 (B : List Int) (g gR off nB : Nat) : Res := runF eQ1 f63 [] 400 [.var 0 gR, .int .i64 2] [some ⟨.agg [.slice 1 1 g 0 nB none, .int .i64 (off : Nat), .int .i64 0], gR, true, 118⟩, some ⟨.ints .u8 B, g, false, 5⟩] [none, none, some true]
theorem R26s2_ok {B : List Int} {g gR off nB : Nat} (h : allP [.eqN gR gR, .eqN gR gR, .eqN gR gR, .eqN gR gR, .eqN g g, .leN off nB, .leN nB 140737488355000, .p (decide ((↑(nB - off) : Int) < 2) = true), .eqN gR gR, .eqN gR gR, .eqN gR gR]) : OkR (R26s2 B g gR off nB) := OkR.dem (fl := bitsF 17 114696) (by kernel_rfl) (by kernel_rfl) (by kernel_rfl) h
theorem R26s2_val {B : List Int} {g gR off nB : Nat} : (R26s2 B g gR off nB).val = .int .i64 0 := by kernel_rfl
theorem R26s2_tab {B : List Int} {g gR off nB : Nat} : (R26s2 B g gR off nB).tab = [some ⟨.agg [.slice 1 1 g 0 nB none, .int .i64 (↑off : Int), .int .i64 20], gR, true, 118⟩, some ⟨.ints .u8 B, g, false, 5⟩] := by kernel_rfl
noncomputable def R26g2 (B : List Int) (g gR off nB : Nat) : Res := runF eQ1 f63 [] 400 [.var 0 gR, .int .i64 2] [some ⟨.agg [.slice 1 1 g 0 nB none, .int .i64 (off : Nat), .int .i64 0], gR, true, 118⟩, some ⟨.ints .u8 B, g, false, 5⟩] [none, none, some false, none]
theorem R26g2_ok {B : List Int} {g gR off nB : Nat} (h : allP [.eqN gR gR, .eqN gR gR, .eqN gR gR, .eqN gR gR, .eqN g g, .leN off nB, .leN nB 140737488355000, .p (decide ((↑(nB - off) : Int) < 2) = false), .eqN gR gR, .eqN g g, .p (sizedLaw (OfNat.ofNat 2)), .leN (off + 2) B.length, .eqN nB B.length, .leN B.length 140737488355000, .p (ByLaw B), .p (LowLaw B off (OfNat.ofNat 2)), .eqN gR gR, .eqN gR
 gR, .eqN gR gR, .rng (-9223372036854775808) ((↑off : Int) + 2) 9223372036854775807, .eqN gR gR, .eqN gR gR, .eqN gR gR]) : OkR (R26g2 B g gR off nB) := OkR.dem (fl := bitsF 33 7549747208) (by kernel_rfl) (by kernel_rfl) (by kernel_rfl) h
theorem R26g2_val {B : List Int} {g gR off nB : Nat} : (R26g2 B g gR off nB).val = .int .i64 (numAtLaw 2 B off) := by kernel_rfl
theorem R26g2_tab {B : List Int} {g gR off nB : Nat} : (R26g2 B g gR off nB).tab = [some ⟨.agg [.slice 1 1 g 0 nB none, .int .i64 ((↑off : Int) + 2), .int .i64 0], gR, true, 118⟩, some ⟨.ints .u8 B, g, false, 5⟩] := by kernel_rfl
noncomputable def R26s4 (B : List Int) (g gR off nB : Nat) : Res := runF eQ1 f63 [] 400 [.var 0 gR, .int .i64 4] [some ⟨.agg [.slice 1 1 g 0 nB none, .int .i64 (off : Nat), .int .i64 0], gR, true, 118⟩, some ⟨.ints .u8 B, g, false, 5⟩] [none, none, some true]
theorem R26s4_ok {B : List Int} {g gR off nB : Nat} (h : allP [.eqN gR gR, .eqN gR gR, .eqN gR gR, .eqN gR gR, .eqN g g, .leN off nB, .leN nB 140737488355000, .p (decide ((↑(nB - off) : Int) < 4) = true), .eqN gR gR, .eqN gR gR, .eqN gR gR]) : OkR (R26s4 B g gR off nB) := OkR.dem (fl := bitsF 17 114696) (by kernel_rfl) (by kernel_rfl) (by kernel_rfl) h
theorem R26s4_val {B : List Int} {g gR off nB : Nat} : (R26s4 B g gR off nB).val = .int .i64 0 := by kernel_rfl
theorem R26s4_tab {B : List Int} {g gR off nB : Nat} : (R26s4 B g gR off nB).tab = [some ⟨.agg [.slice 1 1 g 0 nB none, .int .i64 (↑off : Int), .int .i64 20], gR, true, 118⟩, some ⟨.ints .u8 B, g, false, 5⟩] := by kernel_rfl
noncomputable def R26g4 (B : List Int) (g gR off nB : Nat) : Res := runF eQ1 f63 [] 400 [.var 0 gR, .int .i64 4] [some ⟨.agg [.slice 1 1 g 0 nB none, .int .i64 (off : Nat), .int .i64 0], gR, true, 118⟩, some ⟨.ints .u8 B, g, false, 5⟩] [none, none, some false, none]
theorem R26g4_ok {B : List Int} {g gR off nB : Nat} (h : allP [.eqN gR gR, .eqN gR gR, .eqN gR gR, .eqN gR gR, .eqN g g, .leN off nB, .leN nB 140737488355000, .p (decide ((↑(nB - off) : Int) < 4) = false), .eqN gR gR, .eqN g g, .p (sizedLaw (OfNat.ofNat 4)), .leN (off + 4) B.length, .eqN nB B.length, .leN B.length 140737488355000, .p (ByLaw B), .p (LowLaw B off (OfNat.ofNat 4)), .eqN gR gR, .eqN gR
 gR, .eqN gR gR, .rng (-9223372036854775808) ((↑off : Int) + 4) 9223372036854775807, .eqN gR gR, .eqN gR gR, .eqN gR gR]) : OkR (R26g4 B g gR off nB) := OkR.dem (fl := bitsF 33 7549747208) (by kernel_rfl) (by kernel_rfl) (by kernel_rfl) h
theorem R26g4_val {B : List Int} {g gR off nB : Nat} : (R26g4 B g gR off nB).val = .int .i64 (numAtLaw 4 B off) := by kernel_rfl
theorem R26g4_tab {B : List Int} {g gR off nB : Nat} : (R26g4 B g gR off nB).tab = [some ⟨.agg [.slice 1 1 g 0 nB none, .int .i64 ((↑off : Int) + 4), .int .i64 0], gR, true, 118⟩, some ⟨.ints .u8 B, g, false, 5⟩] := by kernel_rfl
noncomputable def R26s8 (B : List Int) (g gR off nB : Nat) : Res := runF eQ1 f63 [] 400 [.var 0 gR, .int .i64 8] [some ⟨.agg [.slice 1 1 g 0 nB none, .int .i64 (off : Nat), .int .i64 0], gR, true, 118⟩, some ⟨.ints .u8 B, g, false, 5⟩] [none, none, some true]
theorem R26s8_ok {B : List Int} {g gR off nB : Nat} (h : allP [.eqN gR gR, .eqN gR gR, .eqN gR gR, .eqN gR gR, .eqN g g, .leN off nB, .leN nB 140737488355000, .p (decide ((↑(nB - off) : Int) < 8) = true), .eqN gR gR, .eqN gR gR, .eqN gR gR]) : OkR (R26s8 B g gR off nB) := OkR.dem (fl := bitsF 17 114696) (by kernel_rfl) (by kernel_rfl) (by kernel_rfl) h
theorem R26s8_val {B : List Int} {g gR off nB : Nat} : (R26s8 B g gR off nB).val = .int .i64 0 := by kernel_rfl
theorem R26s8_tab {B : List Int} {g gR off nB : Nat} : (R26s8 B g gR off nB).tab = [some ⟨.agg [.slice 1 1 g 0 nB none, .int .i64 (↑off : Int), .int .i64 20], gR, true, 118⟩, some ⟨.ints .u8 B, g, false, 5⟩] := by kernel_rfl
noncomputable def R26g8 (B : List Int) (g gR off nB : Nat) : Res := runF eQ1 f63 [] 400 [.var 0 gR, .int .i64 8] [some ⟨.agg [.slice 1 1 g 0 nB none, .int .i64 (off : Nat), .int .i64 0], gR, true, 118⟩, some ⟨.ints .u8 B, g, false, 5⟩] [none, none, some false, none, some false]
theorem R26g8_ok {B : List Int} {g gR off nB : Nat} (h : allP [.eqN gR gR, .eqN gR gR, .eqN gR gR, .eqN gR gR, .eqN g g, .leN off nB, .leN nB 140737488355000, .p (decide ((↑(nB - off) : Int) < 8) = false), .eqN gR gR, .eqN gR gR, .eqN gR gR, .eqN gR gR, .eqN gR gR, .eqN gR gR, .eqN g g, .leI 0 (↑off : Int), .leI ((↑off : Int) + 1) (↑nB : Int), .eqN g g, .leN (off + 1) B.length, .p (decide (64 ≤
 B.getD off 0) = false), .eqN gR gR, .eqN g g, .p (sizedLaw (OfNat.ofNat 8)), .leN (off + 8) B.length, .eqN nB B.length, .leN B.length 140737488355000, .p (ByLaw B), .p (LowLaw B off (OfNat.ofNat 8)), .eqN gR gR, .eqN gR gR, .eqN gR gR, .rng (-9223372036854775808) ((↑off : Int) + 8) 9223372036854775807, .eqN gR gR, .eqN gR gR, .eqN gR gR]) : OkR (R26g8 B g gR off nB) := OkR.dem (fl := bitsF 47
 123695058681864) (by kernel_rfl) (by kernel_rfl) (by kernel_rfl) h
theorem R26g8_val {B : List Int} {g gR off nB : Nat} : (R26g8 B g gR off nB).val = .int .i64 (numAtLaw 8 B off) := by kernel_rfl
theorem R26g8_tab {B : List Int} {g gR off nB : Nat} : (R26g8 B g gR off nB).tab = [some ⟨.agg [.slice 1 1 g 0 nB none, .int .i64 ((↑off : Int) + 8), .int .i64 0], gR, true, 118⟩, some ⟨.ints .u8 B, g, false, 5⟩] := by kernel_rfl
noncomputable def R26r (B : List Int) (g gR off nB : Nat) : Res := runF eQ1 f63 [] 400 [.var 0 gR, .int .i64 8] [some ⟨.agg [.slice 1 1 g 0 nB none, .int .i64 (off : Nat), .int .i64 0], gR, true, 118⟩, some ⟨.ints .u8 B, g, false, 5⟩] [none, none, some false, none, some true]
theorem R26r_ok {B : List Int} {g gR off nB : Nat} (h : allP [.eqN gR gR, .eqN gR gR, .eqN gR gR, .eqN gR gR, .eqN g g, .leN off nB, .leN nB 140737488355000, .p (decide ((↑(nB - off) : Int) < 8) = false), .eqN gR gR, .eqN gR gR, .eqN gR gR, .eqN gR gR, .eqN gR gR, .eqN gR gR, .eqN g g, .leI 0 (↑off : Int), .leI ((↑off : Int) + 1) (↑nB : Int), .eqN g g, .leN (off + 1) B.length, .p (decide (64 ≤
 B.getD off 0) = true), .eqN gR gR, .eqN gR gR, .eqN gR gR]) : OkR (R26r B g gR off nB) := OkR.dem (fl := bitsF 32 3758653448) (by kernel_rfl) (by kernel_rfl) (by kernel_rfl) h
theorem R26r_val {B : List Int} {g gR off nB : Nat} : (R26r B g gR off nB).val = .int .i64 0 := by kernel_rfl
theorem R26r_tab {B : List Int} {g gR off nB : Nat} : (R26r B g gR off nB).tab = [some ⟨.agg [.slice 1 1 g 0 nB none, .int .i64 (↑off : Int), .int .i64 11], gR, true, 118⟩, some ⟨.ints .u8 B, g, false, 5⟩] := by kernel_rfl
noncomputable def R28e (B : List Int) (g gR off nB : Nat) (e : Int) : Res := runF eQ1 f86 [] 400 [.var 0 gR] [some ⟨.agg [.slice 1 1 g 0 nB none, .int .i64 (off : Nat), .int .i64 e], gR, true, 118⟩, some ⟨.ints .u8 B, g, false, 5⟩] [some true]
theorem R28e_ok {B : List Int} {g gR off nB : Nat} {e : Int} (h : allP [.eqN gR gR, .eqN gR gR, .eqN gR gR, .p ((e != 0) = true)]) : OkR (R28e B g gR off nB e) := OkR.dem (fl := [false, false, false, true, false]) (by kernel_rfl) (by kernel_rfl) (by kernel_rfl) h
theorem R28e_val {B : List Int} {g gR off nB : Nat} {e : Int} : (R28e B g gR off nB e).val = .int .i64 0 := by kernel_rfl
theorem R28e_tab {B : List Int} {g gR off nB : Nat} {e : Int} : (R28e B g gR off nB e).tab = [some ⟨.agg [.slice 1 1 g 0 nB none, .int .i64 (↑off : Int), .int .i64 e], gR, true, 118⟩, some ⟨.ints .u8 B, g, false, 5⟩] := by kernel_rfl
noncomputable def R28z (B : List Int) (g gR off nB : Nat) : Res := runF eQ1 f86 [] 400 [.var 0 gR] [some ⟨.agg [.slice 1 1 g 0 nB none, .int .i64 (off : Nat), .int .i64 0], gR, true, 118⟩, some ⟨.ints .u8 B, g, false, 5⟩] [none, some true]
theorem R28z_ok {B : List Int} {g gR off nB : Nat} (h : allP [.eqN gR gR, .eqN gR gR, .eqN gR gR, .eqN gR gR, .eqN g g, .leN off nB, .leN nB 140737488355000, .p (((↑(nB - off) : Int) == 0) = true), .eqN gR gR, .eqN gR gR, .eqN gR gR]) : OkR (R28z B g gR off nB) := OkR.dem (fl := bitsF 17 114696) (by kernel_rfl) (by kernel_rfl) (by kernel_rfl) h
theorem R28z_val {B : List Int} {g gR off nB : Nat} : (R28z B g gR off nB).val = .int .i64 0 := by kernel_rfl
theorem R28z_tab {B : List Int} {g gR off nB : Nat} : (R28z B g gR off nB).tab = [some ⟨.agg [.slice 1 1 g 0 nB none, .int .i64 (↑off : Int), .int .i64 20], gR, true, 118⟩, some ⟨.ints .u8 B, g, false, 5⟩] := by kernel_rfl
noncomputable def R28f (B : List Int) (g gR off nB : Nat) : Res := runF eQ1 f86 [] 400 [.var 0 gR] [some ⟨.agg [.slice 1 1 g 0 nB none, .int .i64 (off : Nat), .int .i64 0], gR, true, 118⟩, some ⟨.ints .u8 B, g, false, 5⟩] [none, some false, some true]
theorem R28f_ok {B : List Int} {g gR off nB : Nat} (h : allP [.eqN gR gR, .eqN gR gR, .eqN gR gR, .eqN gR gR, .eqN g g, .leN off nB, .leN nB 140737488355000, .p (((↑(nB - off) : Int) == 0) = false), .eqN gR gR, .eqN gR gR, .eqN gR gR, .eqN gR gR, .eqN gR gR, .eqN gR gR, .eqN g g, .leI 0 (↑off : Int), .leI ((↑off : Int) + 1) (↑nB : Int), .eqN g g, .leN (off + 1) B.length, .rng (-9223372036854775808)
 (B.getD off 0 / 64) 9223372036854775807, .p ((B.getD off 0 / 64 == 3) = true), .eqN gR gR, .eqN gR gR, .eqN gR gR]) : OkR (R28f B g gR off nB) := OkR.dem (fl := bitsF 34 15066497032) (by kernel_rfl) (by kernel_rfl) (by kernel_rfl) h
theorem R28f_val {B : List Int} {g gR off nB : Nat} : (R28f B g gR off nB).val = .int .i64 0 := by kernel_rfl
theorem R28f_tab {B : List Int} {g gR off nB : Nat} : (R28f B g gR off nB).tab = [some ⟨.agg [.slice 1 1 g 0 nB none, .int .i64 (↑off : Int), .int .i64 21], gR, true, 118⟩, some ⟨.ints .u8 B, g, false, 5⟩] := by kernel_rfl
noncomputable def R28s (B : List Int) (g gR off nB : Nat) : Res := runF eQ1 f86 [] 400 [.var 0 gR] [some ⟨.agg [.slice 1 1 g 0 nB none, .int .i64 (off : Nat), .int .i64 0], gR, true, 118⟩, some ⟨.ints .u8 B, g, false, 5⟩] [none, some false, some false, some true]
theorem R28s_ok {B : List Int} {g gR off nB : Nat} (h : allP [.eqN gR gR, .eqN gR gR, .eqN gR gR, .eqN gR gR, .eqN g g, .leN off nB, .leN nB 140737488355000, .p (((↑(nB - off) : Int) == 0) = false), .eqN gR gR, .eqN gR gR, .eqN gR gR, .eqN gR gR, .eqN gR gR, .eqN gR gR, .eqN g g, .leI 0 (↑off : Int), .leI ((↑off : Int) + 1) (↑nB : Int), .eqN g g, .leN (off + 1) B.length, .rng (-9223372036854775808)
 (B.getD off 0 / 64) 9223372036854775807, .p ((B.getD off 0 / 64 == 3) = false), .rng 0 (B.getD off 0 / 64) 18446744073709551615, .rng 0 (B.getD off 0 / 64) 64, .rng (-9223372036854775808) (1 * 2 ^ (B.getD off 0 / 64).toNat) 9223372036854775807, .eqN gR gR, .eqN g g, .leN off nB, .leN nB 140737488355000, .p (decide ((↑(nB - off) : Int) < 1 * 2 ^ (B.getD off 0 / 64).toNat) = true), .eqN gR gR, .eqN
 gR gR, .eqN gR gR]) : OkR (R28s B g gR off nB) := OkR.dem (fl := bitsF 44 15393196900360) (by kernel_rfl) (by kernel_rfl) (by kernel_rfl) h
theorem R28s_val {B : List Int} {g gR off nB : Nat} : (R28s B g gR off nB).val = .int .i64 0 := by kernel_rfl
theorem R28s_tab {B : List Int} {g gR off nB : Nat} : (R28s B g gR off nB).tab = [some ⟨.agg [.slice 1 1 g 0 nB none, .int .i64 (↑off : Int), .int .i64 20], gR, true, 118⟩, some ⟨.ints .u8 B, g, false, 5⟩] := by kernel_rfl
noncomputable def R28g (B : List Int) (g gR off nB : Nat) : Res := runF eQ1 f86 [] 400 [.var 0 gR] [some ⟨.agg [.slice 1 1 g 0 nB none, .int .i64 (off : Nat), .int .i64 0], gR, true, 118⟩, some ⟨.ints .u8 B, g, false, 5⟩] [none, some false, some false, some false, some false, some false]
theorem R28g_ok {B : List Int} {g gR off nB : Nat} (h : allP [.eqN gR gR, .eqN gR gR, .eqN gR gR, .eqN gR gR, .eqN g g, .leN off nB, .leN nB 140737488355000, .p (((↑(nB - off) : Int) == 0) = false), .eqN gR gR, .eqN gR gR, .eqN gR gR, .eqN gR gR, .eqN gR gR, .eqN gR gR, .eqN g g, .leI 0 (↑off : Int), .leI ((↑off : Int) + 1) (↑nB : Int), .eqN g g, .leN (off + 1) B.length, .rng (-9223372036854775808)
 (B.getD off 0 / 64) 9223372036854775807, .p ((B.getD off 0 / 64 == 3) = false), .rng 0 (B.getD off 0 / 64) 18446744073709551615, .rng 0 (B.getD off 0 / 64) 64, .rng (-9223372036854775808) (1 * 2 ^ (B.getD off 0 / 64).toNat) 9223372036854775807, .eqN gR gR, .eqN g g, .leN off nB, .leN nB 140737488355000, .p (decide ((↑(nB - off) : Int) < 1 * 2 ^ (B.getD off 0 / 64).toNat) = false), .eqN gR gR, .eqN
 g g, .p (sizedLaw (1 * 2 ^ (B.getD off 0 / 64).toNat)), .leN (off + 1 * 2 ^ (B.getD off 0 / 64).toNat) B.length, .eqN nB B.length, .leN B.length 140737488355000, .p (ByLaw B), .p (LowLaw B off (1 * 2 ^ (B.getD off 0 / 64).toNat)), .rng (-9223372036854775808) (8 * ((1 : Int) * 2 ^ (B.getD off 0 / 64).toNat)) 9223372036854775807, .rng (-9223372036854775808) (8 * ((1 : Int) * 2 ^ (B.getD off 0 /
 64).toNat) - 2) 9223372036854775807, .rng 0 (8 * ((1 : Int) * 2 ^ (B.getD off 0 / 64).toNat) - 2) 18446744073709551615, .rng 0 (8 * ((1 : Int) * 2 ^ (B.getD off 0 / 64).toNat) - 2) 64, .rng (-9223372036854775808) (1 * 2 ^ (8 * ((1 : Int) * 2 ^ (B.getD off 0 / 64).toNat) - 2).toNat) 9223372036854775807, .rng (-9223372036854775808) (1 * 2 ^ (8 * ((1 : Int) * 2 ^ (B.getD off 0 / 64).toNat) - 2).toNat
 - 1) 9223372036854775807, .nn .i64 (numAtLaw (1 * 2 ^ (B.getD off 0 / 64).toNat) B off), .nn .i64 (1 * 2 ^ (8 * ((1 : Int) * 2 ^ (B.getD off 0 / 64).toNat) - 2).toNat - 1), .p (((1 : Int) * 2 ^ (B.getD off 0 / 64).toNat == 2) = false), .p (((1 : Int) * 2 ^ (B.getD off 0 / 64).toNat == 4) = false), .eqN gR gR, .eqN gR gR, .eqN gR gR, .rng (-9223372036854775808) ((↑off : Int) + 1 * 2 ^ (B.getD off 0
 / 64).toNat) 9223372036854775807, .eqN gR gR, .eqN gR gR, .eqN gR gR]) : OkR (R28g B g gR off nB) := OkR.dem (fl := bitsF 69 518814677073115250696) (by kernel_rfl) (by kernel_rfl) (by kernel_rfl) h
theorem R28g_val {B : List Int} {g gR off nB : Nat} : (R28g B g gR off nB).val = .int .i64 (iand (numAtLaw (1 * 2 ^ (B.getD off 0 / 64).toNat) B off) (1 * 2 ^ (8 * ((1 : Int) * 2 ^ (B.getD off 0 / 64).toNat) - 2).toNat - 1)) := by kernel_rfl
theorem R28g_tab {B : List Int} {g gR off nB : Nat} : (R28g B g gR off nB).tab = [some ⟨.agg [.slice 1 1 g 0 nB none, .int .i64 ((↑off : Int) + 1 * 2 ^ (B.getD off 0 / 64).toNat), .int .i64 0], gR, true, 118⟩, some ⟨.ints .u8 B, g, false, 5⟩] := by kernel_rfl
noncomputable def R28b1 (B : List Int) (g gR off nB : Nat) : Res := runF eQ1 f86 [] 400 [.var 0 gR] [some ⟨.agg [.slice 1 1 g 0 nB none, .int .i64 (off : Nat), .int .i64 0], gR, true, 118⟩, some ⟨.ints .u8 B, g, false, 5⟩] [none, some false, some false, some false, some true, some true]
theorem R28b1_ok {B : List Int} {g gR off nB : Nat} (h : allP [.eqN gR gR, .eqN gR gR, .eqN gR gR, .eqN gR gR, .eqN g g, .leN off nB, .leN nB 140737488355000, .p (((↑(nB - off) : Int) == 0) = false), .eqN gR gR, .eqN gR gR, .eqN gR gR, .eqN gR gR, .eqN gR gR, .eqN gR gR, .eqN g g, .leI 0 (↑off : Int), .leI ((↑off : Int) + 1) (↑nB : Int), .eqN g g, .leN (off + 1) B.length, .rng
 (-9223372036854775808) (B.getD off 0 / 64) 9223372036854775807, .p ((B.getD off 0 / 64 == 3) = false), .rng 0 (B.getD off 0 / 64) 18446744073709551615, .rng 0 (B.getD off 0 / 64) 64, .rng (-9223372036854775808) (1 * 2 ^ (B.getD off 0 / 64).toNat) 9223372036854775807, .eqN gR gR, .eqN g g, .leN off nB, .leN nB 140737488355000, .p (decide ((↑(nB - off) : Int) < 1 * 2 ^ (B.getD off 0 / 64).toNat) =
 false), .eqN gR gR, .eqN g g, .p (sizedLaw (1 * 2 ^ (B.getD off 0 / 64).toNat)), .leN (off + 1 * 2 ^ (B.getD off 0 / 64).toNat) B.length, .eqN nB B.length, .leN B.length 140737488355000, .p (ByLaw B), .p (LowLaw B off (1 * 2 ^ (B.getD off 0 / 64).toNat)), .rng (-9223372036854775808) (8 * ((1 : Int) * 2 ^ (B.getD off 0 / 64).toNat)) 9223372036854775807, .rng (-9223372036854775808) (8 * ((1 : Int) *
 2 ^ (B.getD off 0 / 64).toNat) - 2) 9223372036854775807, .rng 0 (8 * ((1 : Int) * 2 ^ (B.getD off 0 / 64).toNat) - 2) 18446744073709551615, .rng 0 (8 * ((1 : Int) * 2 ^ (B.getD off 0 / 64).toNat) - 2) 64, .rng (-9223372036854775808) (1 * 2 ^ (8 * ((1 : Int) * 2 ^ (B.getD off 0 / 64).toNat) - 2).toNat) 9223372036854775807, .rng (-9223372036854775808) (1 * 2 ^ (8 * ((1 : Int) * 2 ^ (B.getD off 0 /
 64).toNat) - 2).toNat - 1) 9223372036854775807, .nn .i64 (numAtLaw (1 * 2 ^ (B.getD off 0 / 64).toNat) B off), .nn .i64 (1 * 2 ^ (8 * ((1 : Int) * 2 ^ (B.getD off 0 / 64).toNat) - 2).toNat - 1), .p (((1 : Int) * 2 ^ (B.getD off 0 / 64).toNat == 2) = true), .p (decide (iand (numAtLaw (1 * 2 ^ (B.getD off 0 / 64).toNat) B off) (1 * 2 ^ (8 * ((1 : Int) * 2 ^ (B.getD off 0 / 64).toNat) - 2).toNat - 1)
 < 64) = true), .eqN gR gR, .eqN gR gR, .eqN gR gR]) : OkR (R28b1 B g gR off nB) := OkR.dem (fl := bitsF 64 16140901064529969160) (by kernel_rfl) (by kernel_rfl) (by kernel_rfl) h
theorem R28b1_val {B : List Int} {g gR off nB : Nat} : (R28b1 B g gR off nB).val = .int .i64 0 := by kernel_rfl
theorem R28b1_tab {B : List Int} {g gR off nB : Nat} : (R28b1 B g gR off nB).tab = [some ⟨.agg [.slice 1 1 g 0 nB none, .int .i64 (↑off : Int), .int .i64 21], gR, true, 118⟩, some ⟨.ints .u8 B, g, false, 5⟩] := by kernel_rfl
noncomputable def R28g1 (B : List Int) (g gR off nB : Nat) : Res := runF eQ1 f86 [] 400 [.var 0 gR] [some ⟨.agg [.slice 1 1 g 0 nB none, .int .i64 (off : Nat), .int .i64 0], gR, true, 118⟩, some ⟨.ints .u8 B, g, false, 5⟩] [none, some false, some false, some false, some true, some false, some false]
theorem R28g1_ok {B : List Int} {g gR off nB : Nat} (h : allP [.eqN gR gR, .eqN gR gR, .eqN gR gR, .eqN gR gR, .eqN g g, .leN off nB, .leN nB 140737488355000, .p (((↑(nB - off) : Int) == 0) = false), .eqN gR gR, .eqN gR gR, .eqN gR gR, .eqN gR gR, .eqN gR gR, .eqN gR gR, .eqN g g, .leI 0 (↑off : Int), .leI ((↑off : Int) + 1) (↑nB : Int), .eqN g g, .leN (off + 1) B.length, .rng
 (-9223372036854775808) (B.getD off 0 / 64) 9223372036854775807, .p ((B.getD off 0 / 64 == 3) = false), .rng 0 (B.getD off 0 / 64) 18446744073709551615, .rng 0 (B.getD off 0 / 64) 64, .rng (-9223372036854775808) (1 * 2 ^ (B.getD off 0 / 64).toNat) 9223372036854775807, .eqN gR gR, .eqN g g, .leN off nB, .leN nB 140737488355000, .p (decide ((↑(nB - off) : Int) < 1 * 2 ^ (B.getD off 0 / 64).toNat) =
 false), .eqN gR gR, .eqN g g, .p (sizedLaw (1 * 2 ^ (B.getD off 0 / 64).toNat)), .leN (off + 1 * 2 ^ (B.getD off 0 / 64).toNat) B.length, .eqN nB B.length, .leN B.length 140737488355000, .p (ByLaw B), .p (LowLaw B off (1 * 2 ^ (B.getD off 0 / 64).toNat)), .rng (-9223372036854775808) (8 * ((1 : Int) * 2 ^ (B.getD off 0 / 64).toNat)) 9223372036854775807, .rng (-9223372036854775808) (8 * ((1 : Int) *
 2 ^ (B.getD off 0 / 64).toNat) - 2) 9223372036854775807, .rng 0 (8 * ((1 : Int) * 2 ^ (B.getD off 0 / 64).toNat) - 2) 18446744073709551615, .rng 0 (8 * ((1 : Int) * 2 ^ (B.getD off 0 / 64).toNat) - 2) 64, .rng (-9223372036854775808) (1 * 2 ^ (8 * ((1 : Int) * 2 ^ (B.getD off 0 / 64).toNat) - 2).toNat) 9223372036854775807, .rng (-9223372036854775808) (1 * 2 ^ (8 * ((1 : Int) * 2 ^ (B.getD off 0 /
 64).toNat) - 2).toNat - 1) 9223372036854775807, .nn .i64 (numAtLaw (1 * 2 ^ (B.getD off 0 / 64).toNat) B off), .nn .i64 (1 * 2 ^ (8 * ((1 : Int) * 2 ^ (B.getD off 0 / 64).toNat) - 2).toNat - 1), .p (((1 : Int) * 2 ^ (B.getD off 0 / 64).toNat == 2) = true), .p (decide (iand (numAtLaw (1 * 2 ^ (B.getD off 0 / 64).toNat) B off) (1 * 2 ^ (8 * ((1 : Int) * 2 ^ (B.getD off 0 / 64).toNat) - 2).toNat - 1)
 < 64) = false), .p (((1 : Int) * 2 ^ (B.getD off 0 / 64).toNat == 4) = false), .eqN gR gR, .eqN gR gR, .eqN gR gR, .rng (-9223372036854775808) ((↑off : Int) + 1 * 2 ^ (B.getD off 0 / 64).toNat) 9223372036854775807, .eqN gR gR, .eqN gR gR, .eqN gR gR]) : OkR (R28g1 B g gR off nB) := OkR.dem (fl := bitsF 70 1037629354146196389896) (by kernel_rfl) (by kernel_rfl) (by kernel_rfl) h
theorem R28g1_val {B : List Int} {g gR off nB : Nat} : (R28g1 B g gR off nB).val = .int .i64 (iand (numAtLaw (1 * 2 ^ (B.getD off 0 / 64).toNat) B off) (1 * 2 ^ (8 * ((1 : Int) * 2 ^ (B.getD off 0 / 64).toNat) - 2).toNat - 1)) := by kernel_rfl
theorem R28g1_tab {B : List Int} {g gR off nB : Nat} : (R28g1 B g gR off nB).tab = [some ⟨.agg [.slice 1 1 g 0 nB none, .int .i64 ((↑off : Int) + 1 * 2 ^ (B.getD off 0 / 64).toNat), .int .i64 0], gR, true, 118⟩, some ⟨.ints .u8 B, g, false, 5⟩] := by kernel_rfl
noncomputable def R28b2 (B : List Int) (g gR off nB : Nat) : Res := runF eQ1 f86 [] 400 [.var 0 gR] [some ⟨.agg [.slice 1 1 g 0 nB none, .int .i64 (off : Nat), .int .i64 0], gR, true, 118⟩, some ⟨.ints .u8 B, g, false, 5⟩] [none, some false, some false, some false, some false, some true, some true]
theorem R28b2_ok {B : List Int} {g gR off nB : Nat} (h : allP [.eqN gR gR, .eqN gR gR, .eqN gR gR, .eqN gR gR, .eqN g g, .leN off nB, .leN nB 140737488355000, .p (((↑(nB - off) : Int) == 0) = false), .eqN gR gR, .eqN gR gR, .eqN gR gR, .eqN gR gR, .eqN gR gR, .eqN gR gR, .eqN g g, .leI 0 (↑off : Int), .leI ((↑off : Int) + 1) (↑nB : Int), .eqN g g, .leN (off + 1) B.length, .rng
 (-9223372036854775808) (B.getD off 0 / 64) 9223372036854775807, .p ((B.getD off 0 / 64 == 3) = false), .rng 0 (B.getD off 0 / 64) 18446744073709551615, .rng 0 (B.getD off 0 / 64) 64, .rng (-9223372036854775808) (1 * 2 ^ (B.getD off 0 / 64).toNat) 9223372036854775807, .eqN gR gR, .eqN g g, .leN off nB, .leN nB 140737488355000, .p (decide ((↑(nB - off) : Int) < 1 * 2 ^ (B.getD off 0 / 64).toNat) =
 false), .eqN gR gR, .eqN g g, .p (sizedLaw (1 * 2 ^ (B.getD off 0 / 64).toNat)), .leN (off + 1 * 2 ^ (B.getD off 0 / 64).toNat) B.length, .eqN nB B.length, .leN B.length 140737488355000, .p (ByLaw B), .p (LowLaw B off (1 * 2 ^ (B.getD off 0 / 64).toNat)), .rng (-9223372036854775808) (8 * ((1 : Int) * 2 ^ (B.getD off 0 / 64).toNat)) 9223372036854775807, .rng (-9223372036854775808) (8 * ((1 : Int) *
 2 ^ (B.getD off 0 / 64).toNat) - 2) 9223372036854775807, .rng 0 (8 * ((1 : Int) * 2 ^ (B.getD off 0 / 64).toNat) - 2) 18446744073709551615, .rng 0 (8 * ((1 : Int) * 2 ^ (B.getD off 0 / 64).toNat) - 2) 64, .rng (-9223372036854775808) (1 * 2 ^ (8 * ((1 : Int) * 2 ^ (B.getD off 0 / 64).toNat) - 2).toNat) 9223372036854775807, .rng (-9223372036854775808) (1 * 2 ^ (8 * ((1 : Int) * 2 ^ (B.getD off 0 /
 64).toNat) - 2).toNat - 1) 9223372036854775807, .nn .i64 (numAtLaw (1 * 2 ^ (B.getD off 0 / 64).toNat) B off), .nn .i64 (1 * 2 ^ (8 * ((1 : Int) * 2 ^ (B.getD off 0 / 64).toNat) - 2).toNat - 1), .p (((1 : Int) * 2 ^ (B.getD off 0 / 64).toNat == 2) = false), .p (((1 : Int) * 2 ^ (B.getD off 0 / 64).toNat == 4) = true), .p (decide (iand (numAtLaw (1 * 2 ^ (B.getD off 0 / 64).toNat) B off) (1 * 2 ^ (8
 * ((1 : Int) * 2 ^ (B.getD off 0 / 64).toNat) - 2).toNat - 1) < 16384) = true), .eqN gR gR, .eqN gR gR, .eqN gR gR]) : OkR (R28b2 B g gR off nB) := OkR.dem (fl := bitsF 65 32281802129025826824) (by kernel_rfl) (by kernel_rfl) (by kernel_rfl) h
theorem R28b2_val {B : List Int} {g gR off nB : Nat} : (R28b2 B g gR off nB).val = .int .i64 0 := by kernel_rfl
theorem R28b2_tab {B : List Int} {g gR off nB : Nat} : (R28b2 B g gR off nB).tab = [some ⟨.agg [.slice 1 1 g 0 nB none, .int .i64 (↑off : Int), .int .i64 21], gR, true, 118⟩, some ⟨.ints .u8 B, g, false, 5⟩] := by kernel_rfl
noncomputable def R28g2 (B : List Int) (g gR off nB : Nat) : Res := runF eQ1 f86 [] 400 [.var 0 gR] [some ⟨.agg [.slice 1 1 g 0 nB none, .int .i64 (off : Nat), .int .i64 0], gR, true, 118⟩, some ⟨.ints .u8 B, g, false, 5⟩] [none, some false, some false, some false, some false, some true, some false]
theorem R28g2_ok {B : List Int} {g gR off nB : Nat} (h : allP [.eqN gR gR, .eqN gR gR, .eqN gR gR, .eqN gR gR, .eqN g g, .leN off nB, .leN nB 140737488355000, .p (((↑(nB - off) : Int) == 0) = false), .eqN gR gR, .eqN gR gR, .eqN gR gR, .eqN gR gR, .eqN gR gR, .eqN gR gR, .eqN g g, .leI 0 (↑off : Int), .leI ((↑off : Int) + 1) (↑nB : Int), .eqN g g, .leN (off + 1) B.length, .rng
 (-9223372036854775808) (B.getD off 0 / 64) 9223372036854775807, .p ((B.getD off 0 / 64 == 3) = false), .rng 0 (B.getD off 0 / 64) 18446744073709551615, .rng 0 (B.getD off 0 / 64) 64, .rng (-9223372036854775808) (1 * 2 ^ (B.getD off 0 / 64).toNat) 9223372036854775807, .eqN gR gR, .eqN g g, .leN off nB, .leN nB 140737488355000, .p (decide ((↑(nB - off) : Int) < 1 * 2 ^ (B.getD off 0 / 64).toNat) =
 false), .eqN gR gR, .eqN g g, .p (sizedLaw (1 * 2 ^ (B.getD off 0 / 64).toNat)), .leN (off + 1 * 2 ^ (B.getD off 0 / 64).toNat) B.length, .eqN nB B.length, .leN B.length 140737488355000, .p (ByLaw B), .p (LowLaw B off (1 * 2 ^ (B.getD off 0 / 64).toNat)), .rng (-9223372036854775808) (8 * ((1 : Int) * 2 ^ (B.getD off 0 / 64).toNat)) 9223372036854775807, .rng (-9223372036854775808) (8 * ((1 : Int) *
 2 ^ (B.getD off 0 / 64).toNat) - 2) 9223372036854775807, .rng 0 (8 * ((1 : Int) * 2 ^ (B.getD off 0 / 64).toNat) - 2) 18446744073709551615, .rng 0 (8 * ((1 : Int) * 2 ^ (B.getD off 0 / 64).toNat) - 2) 64, .rng (-9223372036854775808) (1 * 2 ^ (8 * ((1 : Int) * 2 ^ (B.getD off 0 / 64).toNat) - 2).toNat) 9223372036854775807, .rng (-9223372036854775808) (1 * 2 ^ (8 * ((1 : Int) * 2 ^ (B.getD off 0 /
 64).toNat) - 2).toNat - 1) 9223372036854775807, .nn .i64 (numAtLaw (1 * 2 ^ (B.getD off 0 / 64).toNat) B off), .nn .i64 (1 * 2 ^ (8 * ((1 : Int) * 2 ^ (B.getD off 0 / 64).toNat) - 2).toNat - 1), .p (((1 : Int) * 2 ^ (B.getD off 0 / 64).toNat == 2) = false), .p (((1 : Int) * 2 ^ (B.getD off 0 / 64).toNat == 4) = true), .p (decide (iand (numAtLaw (1 * 2 ^ (B.getD off 0 / 64).toNat) B off) (1 * 2 ^ (8
 * ((1 : Int) * 2 ^ (B.getD off 0 / 64).toNat) - 2).toNat - 1) < 16384) = false), .eqN gR gR, .eqN gR gR, .eqN gR gR, .rng (-9223372036854775808) ((↑off : Int) + 1 * 2 ^ (B.getD off 0 / 64).toNat) 9223372036854775807, .eqN gR gR, .eqN gR gR, .eqN gR gR]) : OkR (R28g2 B g gR off nB) := OkR.dem (fl := bitsF 70 1037629354146196389896) (by kernel_rfl) (by kernel_rfl) (by kernel_rfl) h
theorem R28g2_val {B : List Int} {g gR off nB : Nat} : (R28g2 B g gR off nB).val = .int .i64 (iand (numAtLaw (1 * 2 ^ (B.getD off 0 / 64).toNat) B off) (1 * 2 ^ (8 * ((1 : Int) * 2 ^ (B.getD off 0 / 64).toNat) - 2).toNat - 1)) := by kernel_rfl
theorem R28g2_tab {B : List Int} {g gR off nB : Nat} : (R28g2 B g gR off nB).tab = [some ⟨.agg [.slice 1 1 g 0 nB none, .int .i64 ((↑off : Int) + 1 * 2 ^ (B.getD off 0 / 64).toNat), .int .i64 0], gR, true, 118⟩, some ⟨.ints .u8 B, g, false, 5⟩] := by kernel_rfl
noncomputable def R32e (B : List Int) (g gR off nB : Nat) (e m : Int) : Res := runF eQ1 f87 [] 400 [.var 0 gR, .int .i64 m] [some ⟨.agg [.slice 1 1 g 0 nB none, .int .i64 (off : Nat), .int .i64 e], gR, true, 118⟩, some ⟨.ints .u8 B, g, false, 5⟩] [some true]
theorem R32e_ok {B : List Int} {g gR off nB : Nat} {e m : Int} (h : allP [.eqN gR gR, .eqN gR gR, .eqN gR gR, .p ((e != 0) = true)]) : OkR (R32e B g gR off nB e m) := OkR.dem (fl := [false, false, false, true, false]) (by kernel_rfl) (by kernel_rfl) (by kernel_rfl) h
theorem R32e_val {B : List Int} {g gR off nB : Nat} {e m : Int} : (R32e B g gR off nB e m).val = .nilSlice := by kernel_rfl
theorem R32e_tab {B : List Int} {g gR off nB : Nat} {e m : Int} : (R32e B g gR off nB e m).tab = [some ⟨.agg [.slice 1 1 g 0 nB none, .int .i64 (↑off : Int), .int .i64 e], gR, true, 118⟩, some ⟨.ints .u8 B, g, false, 5⟩] := by kernel_rfl
noncomputable def R32a (B : List Int) (g gR off nB : Nat) (m : Int) : Res := runF eQ1 f87 [] 400 [.var 0 gR, .int .i64 m] [some ⟨.agg [.slice 1 1 g 0 nB none, .int .i64 (off : Nat), .int .i64 0], gR, true, 118⟩, some ⟨.ints .u8 B, g, false, 5⟩] [none, some true]
theorem R32a_ok {B : List Int} {g gR off nB : Nat} {m : Int} (h : allP [.eqN gR gR, .eqN gR gR, .eqN gR gR, .p (decide (m < 0) = true), .eqN gR gR, .eqN gR gR, .eqN gR gR]) : OkR (R32a B g gR off nB m) := OkR.dem (fl := [false, false, false, true, false, false, false, false, true, true, true]) (by kernel_rfl) (by kernel_rfl) (by kernel_rfl) h
theorem R32a_val {B : List Int} {g gR off nB : Nat} {m : Int} : (R32a B g gR off nB m).val = .nilSlice := by kernel_rfl
theorem R32a_tab {B : List Int} {g gR off nB : Nat} {m : Int} : (R32a B g gR off nB m).tab = [some ⟨.agg [.slice 1 1 g 0 nB none, .int .i64 (↑off : Int), .int .i64 1], gR, true, 118⟩, some ⟨.ints .u8 B, g, false, 5⟩] := by kernel_rfl
noncomputable def R32s (B : List Int) (g gR off nB : Nat) (m : Int) : Res := runF eQ1 f87 [] 400 [.var 0 gR, .int .i64 m] [some ⟨.agg [.slice 1 1 g 0 nB none, .int .i64 (off : Nat), .int .i64 0], gR, true, 118⟩, some ⟨.ints .u8 B, g, false, 5⟩] [none, some false, some true]
theorem R32s_ok {B : List Int} {g gR off nB : Nat} {m : Int} (h : allP [.eqN gR gR, .eqN gR gR, .eqN gR gR, .p (decide (m < 0) = false), .eqN gR gR, .eqN g g, .leN off nB, .leN nB 140737488355000, .p (decide ((↑(nB - off) : Int) < m) = true), .eqN gR gR, .eqN gR gR, .eqN gR gR]) : OkR (R32s B g gR off nB m) := OkR.dem (fl := bitsF 18 229384) (by kernel_rfl) (by kernel_rfl) (by kernel_rfl) h
theorem R32s_val {B : List Int} {g gR off nB : Nat} {m : Int} : (R32s B g gR off nB m).val = .nilSlice := by kernel_rfl
theorem R32s_tab {B : List Int} {g gR off nB : Nat} {m : Int} : (R32s B g gR off nB m).tab = [some ⟨.agg [.slice 1 1 g 0 nB none, .int .i64 (↑off : Int), .int .i64 20], gR, true, 118⟩, some ⟨.ints .u8 B, g, false, 5⟩] := by kernel_rfl
noncomputable def R32g (B : List Int) (g gR off nB : Nat) (m : Nat) : Res := resG 2 [0,1,2] (runF eQ1 f87 [] 400 [.var 0 gR, .int .i64 (m : Nat)] [some ⟨.agg [.slice 1 1 g 0 nB none, .int .i64 (off : Nat), .int .i64 0], gR, true, 118⟩, some ⟨.ints .u8 B, g, false, 5⟩] [none, some false, some false])
theorem R32g_ok {B : List Int} {g gR off nB : Nat} {m : Nat} (h : allP [.eqN gR gR, .eqN gR gR, .eqN gR gR, .p (false = false), .eqN gR gR, .eqN g g, .leN off nB, .leN nB 140737488355000, .p (decide ((↑(nB - off) : Int) < (↑m : Int)) = false), .eqN gR gR, .eqN gR gR, .eqN gR gR, .rng (-9223372036854775808) ((↑off : Int) + (↑m : Int)) 9223372036854775807, .eqN gR gR, .eqN gR gR, .eqN gR gR, .eqN gR
 gR, .eqN gR gR, .eqN gR gR, .eqN gR gR, .eqN gR gR, .eqN gR gR, .rng (-9223372036854775808) ((↑off : Int) + (↑m : Int) - (↑m : Int)) 9223372036854775807, .eqN gR gR, .eqN gR gR, .eqN gR gR, .leI 0 ((↑off : Int) + (↑m : Int) - (↑m : Int)), .leI 0 ((↑off : Int) + (↑m : Int)), .eqN g g, .leN ((↑off : Int) + (↑m : Int) - (↑m : Int)).toNat (off + m), .orN (off + m) nB (0 + (off + m)) B.length, .leN
 (subO (off + m) ((↑off : Int) + (↑m : Int) - (↑m : Int)).toNat) 140737488355328, .eqN g g, .leN (((↑off : Int) + (↑m : Int) - (↑m : Int)).toNat + subO (off + m) ((↑off : Int) + (↑m : Int) - (↑m : Int)).toNat) B.length]) : OkR (R32g B g gR off nB m) := OkR.dem (fl := bitsF 51 616010540417032) (by kernel_rfl) (by kernel_rfl) (by kernel_rfl) h
theorem R32g_val {B : List Int} {g gR off nB : Nat} {m : Nat} : (R32g B g gR off nB m).val = .slice 1 2 1 0 (subO (off + m) ((↑off : Int) + (↑m : Int) - (↑m : Int)).toNat) none := by kernel_rfl
theorem R32g_tab {B : List Int} {g gR off nB : Nat} {m : Nat} : (R32g B g gR off nB m).tab = [some ⟨.agg [.slice 1 1 g 0 nB none, .int .i64 ((↑off : Int) + (↑m : Int)), .int .i64 0], gR, true, 118⟩, some ⟨.ints .u8 B, g, false, 5⟩, some ⟨.ints .u8 ([] ++ List.take (subO (off + m) ((↑off : Int) + (↑m : Int) - (↑m : Int)).toNat) (dropO ((↑off : Int) + (↑m : Int) - (↑m : Int)).toNat B)), 1, true, 5⟩]
 := by kernel_rfl
noncomputable def R37e (B : List Int) (g gR off nB : Nat) (e : Int) : Res := runF eQ1 f47 [] 400 [.var 0 gR] [some ⟨.agg [.slice 1 1 g 0 nB none, .int .i64 (off : Nat), .int .i64 e], gR, true, 118⟩, some ⟨.ints .u8 B, g, false, 5⟩] [some false]
theorem R37e_ok {B : List Int} {g gR off nB : Nat} {e : Int} (h : allP [.eqN gR gR, .eqN gR gR, .eqN gR gR, .p ((e == 0) = false), .eqN gR gR, .eqN gR gR, .eqN gR gR]) : OkR (R37e B g gR off nB e) := OkR.dem (fl := [false, false, false, true, false, false, false, false, true]) (by kernel_rfl) (by kernel_rfl) (by kernel_rfl) h
theorem R37e_val {B : List Int} {g gR off nB : Nat} {e : Int} : (R37e B g gR off nB e).val = .int .i64 e := by kernel_rfl
theorem R37e_tab {B : List Int} {g gR off nB : Nat} {e : Int} : (R37e B g gR off nB e).tab = [some ⟨.agg [.slice 1 1 g 0 nB none, .int .i64 (↑off : Int), .int .i64 e], gR, true, 118⟩, some ⟨.ints .u8 B, g, false, 5⟩] := by kernel_rfl
noncomputable def R37m (B : List Int) (g gR off nB : Nat) : Res := runF eQ1 f47 [] 400 [.var 0 gR] [some ⟨.agg [.slice 1 1 g 0 nB none, .int .i64 (off : Nat), .int .i64 0], gR, true, 118⟩, some ⟨.ints .u8 B, g, false, 5⟩] [none, some true]
theorem R37m_ok {B : List Int} {g gR off nB : Nat} (h : allP [.eqN gR gR, .eqN gR gR, .eqN gR gR, .eqN gR gR, .eqN g g, .leN off nB, .leN nB 140737488355000, .p (decide (0 < (↑(nB - off) : Int)) = true)]) : OkR (R37m B g gR off nB) := OkR.dem (fl := [false, false, false, true, false, false, false, false, false, false, false]) (by kernel_rfl) (by kernel_rfl) (by kernel_rfl) h
theorem R37m_val {B : List Int} {g gR off nB : Nat} : (R37m B g gR off nB).val = .int .i64 21 := by kernel_rfl
theorem R37m_tab {B : List Int} {g gR off nB : Nat} : (R37m B g gR off nB).tab = [some ⟨.agg [.slice 1 1 g 0 nB none, .int .i64 (↑off : Int), .int .i64 0], gR, true, 118⟩, some ⟨.ints .u8 B, g, false, 5⟩] := by kernel_rfl
noncomputable def R37z (B : List Int) (g gR off nB : Nat) : Res := runF eQ1 f47 [] 400 [.var 0 gR] [some ⟨.agg [.slice 1 1 g 0 nB none, .int .i64 (off : Nat), .int .i64 0], gR, true, 118⟩, some ⟨.ints .u8 B, g, false, 5⟩] [none, some false]
theorem R37z_ok {B : List Int} {g gR off nB : Nat} (h : allP [.eqN gR gR, .eqN gR gR, .eqN gR gR, .eqN gR gR, .eqN g g, .leN off nB, .leN nB 140737488355000, .p (decide (0 < (↑(nB - off) : Int)) = false), .eqN gR gR, .eqN gR gR, .eqN gR gR]) : OkR (R37z B g gR off nB) := OkR.dem (fl := bitsF 15 16392) (by kernel_rfl) (by kernel_rfl) (by kernel_rfl) h
theorem R37z_val {B : List Int} {g gR off nB : Nat} : (R37z B g gR off nB).val = .int .i64 0 := by kernel_rfl
theorem R37z_tab {B : List Int} {g gR off nB : Nat} : (R37z B g gR off nB).tab = [some ⟨.agg [.slice 1 1 g 0 nB none, .int .i64 (↑off : Int), .int .i64 0], gR, true, 118⟩, some ⟨.ints .u8 B, g, false, 5⟩] := by kernel_rfl
end Go.Abs

set_option linter.unusedVariables false
set_option linter.unusedSimpArgs false
set_option maxRecDepth 100000
set_option maxHeartbeats 4000000
namespace Go.Abs
open Go.Proofs Go.Proofs.Try
/-! ### the document: the reader: what it answers -/
noncomputable def sm26c (args : List AVal) (T : Tab) (B : List Int) (g : Nat) (gR : Nat) (off : Nat) (nB : Nat) (e : Int) (size : Int) : Res := ⟨[.tab T [some ⟨.agg [.slice 1 1 g 0 nB none, .int .i64 (off : Nat), .int .i64 e], gR, true, 118⟩, some ⟨.ints .u8 B, g, false, 5⟩], .val (.tuple args) (.tuple [.var 0 gR, .int .i64 size]), .eqN nB B.length, .leN off B.length, .p (ByLaw B), .leN B.length 140737488355000], .int .i64 (rnVLaw B off e size), [some ⟨.agg [.slice 1 1 g 0 nB none, .int .i64 (rnOLaw B off e size : Nat), .int .i64 (rnELaw B off e size)], gR, true, 118⟩, some ⟨.ints .u8 B, g, false, 5⟩]⟩
theorem sm26c_ok {args : List AVal} {T : Tab} {B : List Int} {g : Nat} {gR : Nat} {off : Nat} {nB : Nat} {e : Int} {size : Int} (h : allP (sm26c args T B g gR off nB e size).cs) : Small prog (fun _ => none) 63 args T (sm26c args T B g gR off nB e size).val (sm26c args T B g gR off nB e size).tab := by
  obtain ⟨hT, hv, h1, h2, h3, h4, _⟩ := h
  simp only [Con.h] at hT hv h1 h2 h3 h4
  injection hv with hv
  subst hT hv
  show Small prog (fun _ => none) 63 [.var 0 gR, .int .i64 size] [some ⟨.agg [.slice 1 1 g 0 nB none, .int .i64 (off : Nat), .int .i64 e], gR, true, 118⟩, some ⟨.ints .u8 B, g, false, 5⟩] (.int .i64 (rnVLaw B off e size)) [some ⟨.agg [.slice 1 1 g 0 nB none, .int .i64 (rnOLaw B off e size : Nat), .int .i64 (rnELaw B off e size)], gR, true, 118⟩, some ⟨.ints .u8 B, g, false, 5⟩]
  have hb : ByLaw B := h3
  subst h1
  by_cases he : e = 0
  rotate_left
  · have hr := rn_e (B := B) (off := off) size he
    have hne : (e != 0) = true := bne_iff_ne.2 he
    simp only [rnVLaw, rnOLaw, rnELaw, hr]
    refine small_of (R := R26e B g gR off B.length e size) eQ1_ok hmN (f := 63) (fn := f63) (by kernel_rfl) (by kernel_rfl) FnOrc.nil rfl (R26e_ok ?_) R26e_val R26e_tab
    simp only [allP, Con.h, hne, not_false_eq_true, eq_self, true_and, and_true]
  subst he
  by_cases hs : sizedLaw size
  rotate_left
  · have hr := rn_x (B := B) (off := off) hs
    obtain ⟨u1, u2, u3, u4⟩ := unsz hs
    simp only [rnVLaw, rnOLaw, rnELaw, hr]
    refine small_of (R := R26x B g gR off B.length size) eQ1x_ok hmN (f := 63) (fn := f63) (by kernel_rfl) (by kernel_rfl) FnOrc.nil rfl (R26x_ok ?_) R26x_val R26x_tab
    simp only [allP, Con.h, u1, u2, u3, u4, not_false_eq_true, eq_self, true_and, and_true]
  by_cases hl : ((B.length - off : Nat) : Int) < size
  · have hr := rn_s hs hl
    simp only [rnVLaw, rnOLaw, rnELaw, hr]
    rcases hs with rfl | rfl | rfl | rfl
    · refine small_of (R := R26s1 B g gR off B.length) eQ1_ok hmN (f := 63) (fn := f63) (by kernel_rfl) (by kernel_rfl) FnOrc.nil rfl (R26s1_ok ?_) R26s1_val R26s1_tab
      simp only [allP, Con.h, decide_eq_true_eq, decide_eq_false_iff_not, not_false_eq_true, eq_self, true_and, and_true]
      omega
    · refine small_of (R := R26s2 B g gR off B.length) eQ1_ok hmN (f := 63) (fn := f63) (by kernel_rfl) (by kernel_rfl) FnOrc.nil rfl (R26s2_ok ?_) R26s2_val R26s2_tab
      simp only [allP, Con.h, decide_eq_true_eq, decide_eq_false_iff_not, not_false_eq_true, eq_self, true_and, and_true]
      omega
    · refine small_of (R := R26s4 B g gR off B.length) eQ1_ok hmN (f := 63) (fn := f63) (by kernel_rfl) (by kernel_rfl) FnOrc.nil rfl (R26s4_ok ?_) R26s4_val R26s4_tab
      simp only [allP, Con.h, decide_eq_true_eq, decide_eq_false_iff_not, not_false_eq_true, eq_self, true_and, and_true]
      omega
    · refine small_of (R := R26s8 B g gR off B.length) eQ1_ok hmN (f := 63) (fn := f63) (by kernel_rfl) (by kernel_rfl) FnOrc.nil rfl (R26s8_ok ?_) R26s8_val R26s8_tab
      simp only [allP, Con.h, decide_eq_true_eq, decide_eq_false_iff_not, not_false_eq_true, eq_self, true_and, and_true]
      omega
  by_cases hr8 : size = 8 ∧ 64 ≤ B.getD off 0
  · obtain ⟨rfl, h8⟩ := hr8
    have hr := rn_r hl h8
    simp only [rnVLaw, rnOLaw, rnELaw, hr]
    refine small_of (R := R26r B g gR off B.length) eQ1_ok hmN (f := 63) (fn := f63) (by kernel_rfl) (by kernel_rfl) FnOrc.nil rfl (R26r_ok ?_) R26r_val R26r_tab
    simp only [allP, Con.h, h8, decide_eq_true_eq, decide_eq_false_iff_not, not_false_eq_true, eq_self, true_and, and_true]
    omega
  have hlow : LowLaw B off size := fun h => by omega
  have hr := rn_g hs hl hlow
  simp only [rnVLaw, rnOLaw, rnELaw, hr]
  rcases hs with rfl | rfl | rfl | rfl
  · have hz : sizedLaw (OfNat.ofNat 1) := by unfold sizedLaw; decide
    have hlow' : LowLaw B off (OfNat.ofNat 1) := hlow
    refine small_of (R := R26g1 B g gR off B.length) eQ1_ok hmN (f := 63) (fn := f63) (by kernel_rfl) (by kernel_rfl) FnOrc.nil rfl (R26g1_ok ?_) R26g1_val R26g1_tab
    simp only [allP, Con.h, hb, hz, hlow', decide_eq_true_eq, decide_eq_false_iff_not, not_false_eq_true, eq_self, true_and, and_true]
    omega
  · have hz : sizedLaw (OfNat.ofNat 2) := by unfold sizedLaw; decide
    have hlow' : LowLaw B off (OfNat.ofNat 2) := hlow
    refine small_of (R := R26g2 B g gR off B.length) eQ1_ok hmN (f := 63) (fn := f63) (by kernel_rfl) (by kernel_rfl) FnOrc.nil rfl (R26g2_ok ?_) R26g2_val R26g2_tab
    simp only [allP, Con.h, hb, hz, hlow', decide_eq_true_eq, decide_eq_false_iff_not, not_false_eq_true, eq_self, true_and, and_true]
    omega
  · have hz : sizedLaw (OfNat.ofNat 4) := by unfold sizedLaw; decide
    have hlow' : LowLaw B off (OfNat.ofNat 4) := hlow
    refine small_of (R := R26g4 B g gR off B.length) eQ1_ok hmN (f := 63) (fn := f63) (by kernel_rfl) (by kernel_rfl) FnOrc.nil rfl (R26g4_ok ?_) R26g4_val R26g4_tab
    simp only [allP, Con.h, hb, hz, hlow', decide_eq_true_eq, decide_eq_false_iff_not, not_false_eq_true, eq_self, true_and, and_true]
    omega
  · have hz : sizedLaw (OfNat.ofNat 8) := by unfold sizedLaw; decide
    have hlow' : LowLaw B off (OfNat.ofNat 8) := hlow
    have h8 : ¬ 64 ≤ B.getD off 0 := by have := hlow rfl; omega
    refine small_of (R := R26g8 B g gR off B.length) eQ1_ok hmN (f := 63) (fn := f63) (by kernel_rfl) (by kernel_rfl) FnOrc.nil rfl (R26g8_ok ?_) R26g8_val R26g8_tab
    simp only [allP, Con.h, hb, hz, hlow', h8, decide_eq_true_eq, decide_eq_false_iff_not, not_false_eq_true, eq_self, true_and, and_true]
    omega
noncomputable def sm26 : Summary := fun args T => sm26c args T (xsAt T 1) (gAt T 1) (gAt T 0) ((iOf (cAt T 0 1)).toNat) (lenOf (cAt T 0 0)) (iOf (cAt T 0 2)) (iOf (vAt args 1))
theorem sm26_ok : SmOk prog (fun _ => none) 63 sm26 := fun args T h => sm26c_ok h
noncomputable def S26r : Summary := callR sm26 [true]
theorem S26r_ok : SumOk prog (fun _ => none) 63 S26r := callR_ok sm26_ok [true]
noncomputable def sm28c (args : List AVal) (T : Tab) (B : List Int) (g : Nat) (gR : Nat) (off : Nat) (nB : Nat) (e : Int) : Res := ⟨[.tab T [some ⟨.agg [.slice 1 1 g 0 nB none, .int .i64 (off : Nat), .int .i64 e], gR, true, 118⟩, some ⟨.ints .u8 B, g, false, 5⟩], .val (.tuple args) (.tuple [.var 0 gR]), .eqN nB B.length, .leN off B.length, .p (ByLaw B), .leN B.length 140737488355000], .int .i64 (rlVLaw B off e), [some ⟨.agg [.slice 1 1 g 0 nB none, .int .i64 (rlOLaw B off e : Nat), .int .i64 (rlELaw B off e)], gR, true, 118⟩, some ⟨.ints .u8 B, g, false, 5⟩]⟩
theorem sm28c_ok {args : List AVal} {T : Tab} {B : List Int} {g : Nat} {gR : Nat} {off : Nat} {nB : Nat} {e : Int} (h : allP (sm28c args T B g gR off nB e).cs) : Small prog (fun _ => none) 86 args T (sm28c args T B g gR off nB e).val (sm28c args T B g gR off nB e).tab := by
  obtain ⟨hT, hv, h1, h2, h3, h4, _⟩ := h
  simp only [Con.h] at hT hv h1 h2 h3 h4
  injection hv with hv
  subst hT hv
  show Small prog (fun _ => none) 86 [.var 0 gR] [some ⟨.agg [.slice 1 1 g 0 nB none, .int .i64 (off : Nat), .int .i64 e], gR, true, 118⟩, some ⟨.ints .u8 B, g, false, 5⟩] (.int .i64 (rlVLaw B off e)) [some ⟨.agg [.slice 1 1 g 0 nB none, .int .i64 (rlOLaw B off e : Nat), .int .i64 (rlELaw B off e)], gR, true, 118⟩, some ⟨.ints .u8 B, g, false, 5⟩]
  have hb : ByLaw B := h3
  subst h1
  by_cases he : e = 0
  rotate_left
  · have hr := rl_e (B := B) (off := off) he
    have hne : (e != 0) = true := bne_iff_ne.2 he
    simp only [rlVLaw, rlOLaw, rlELaw, hr]
    refine small_of (R := R28e B g gR off B.length e) eQ1_ok hmN (f := 86) (fn := f86) (by kernel_rfl) (by kernel_rfl) FnOrc.nil rfl (R28e_ok ?_) R28e_val R28e_tab
    simp only [allP, Con.h, hne, not_false_eq_true, eq_self, true_and, and_true]
  subst he
  have hB := hb off
  by_cases hn : B.length - off = 0
  · have hr := rl_z hn
    have hq : (((B.length - off : Nat) : Int) == 0) = true := by rw [beq_iff_eq]; omega
    simp only [rlVLaw, rlOLaw, rlELaw, hr]
    refine small_of (R := R28z B g gR off B.length) eQ1_ok hmN (f := 86) (fn := f86) (by kernel_rfl) (by kernel_rfl) FnOrc.nil rfl (R28z_ok ?_) R28z_val R28z_tab
    simp only [allP, Con.h, hq, h2, h4, Nat.le_refl, not_false_eq_true, eq_self, true_and, and_true]
  have hq : (((B.length - off : Nat) : Int) == 0) = false := by rw [beq_eq_false_iff_ne]; omega
  by_cases ht : B.getD off 0 / 64 = 3
  · have hr := rl_f hn ht
    simp only [rlVLaw, rlOLaw, rlELaw, hr]
    refine small_of (R := R28f B g gR off B.length) eQ1_ok hmN (f := 86) (fn := f86) (by kernel_rfl) (by kernel_rfl) FnOrc.nil rfl (R28f_ok ?_) R28f_val R28f_tab
    simp only [allP, Con.h, ht, nonneg, hq, Int.reduceMul, Int.reducePow, Int.reduceSub, Int.reduceAdd, Int.reduceToNat, Nat.reducePow, Nat.reduceMul, Nat.reduceSub, Int.reduceLT, Int.reduceLE, Nat.reduceLT, Nat.reduceLeDiff, Int.one_mul, Nat.one_mul, decide_true, decide_false, decide_eq_true_eq, decide_eq_false_iff_not, beq_iff_eq, beq_eq_false_iff_ne, ne_eq, not_false_eq_true, eq_self, true_and, and_true]
    omega
  have htt : B.getD off 0 / 64 = 0 ∨ B.getD off 0 / 64 = 1 ∨ B.getD off 0 / 64 = 2 := by omega
  clear ht
  rcases htt with ht | ht | ht
  · have hz : sizedLaw 1 := by unfold sizedLaw; decide
    have hlow : LowLaw B off 1 := fun h => absurd h (by decide)
    have hrg := beN_rng hb off 1
    have hrg1 : 0 ≤ numAtLaw 1 B off := hrg.1
    have hrg2 : numAtLaw 1 B off < 256 := hrg.2
    have hip := iand_pos (numAtLaw 1 B off) 63
    by_cases hl : B.length - off < 1
    · have hr := (rl_0 hn ht).trans (rlT_s hl)
      simp only [rlVLaw, rlOLaw, rlELaw, hr]
      refine small_of (R := R28s B g gR off B.length) eQ1_ok hmN (f := 86) (fn := f86) (by kernel_rfl) (by kernel_rfl) FnOrc.nil rfl (R28s_ok ?_) R28s_val R28s_tab
      simp only [allP, Con.h, ht, nonneg, hq, Int.reduceMul, Int.reducePow, Int.reduceSub, Int.reduceAdd, Int.reduceToNat, Nat.reducePow, Nat.reduceMul, Nat.reduceSub, Int.reduceLT, Int.reduceLE, Nat.reduceLT, Nat.reduceLeDiff, Int.one_mul, Nat.one_mul, decide_true, decide_false, decide_eq_true_eq, decide_eq_false_iff_not, beq_iff_eq, beq_eq_false_iff_ne, ne_eq, not_false_eq_true, eq_self, true_and, and_true]
      omega
    have hv : ¬ iand (numAtLaw 1 B off) 63 < 0 := by omega
    have hr := (rl_0 hn ht).trans (rlT_g hl hv)
    simp only [rlVLaw, rlOLaw, rlELaw, hr]
    refine small_of (R := R28g B g gR off B.length) eQ1_ok hmN (f := 86) (fn := f86) (by kernel_rfl) (by kernel_rfl) FnOrc.nil rfl (R28g_ok ?_) (by rw [R28g_val]; simp only [ht]; rfl) (by rw [R28g_tab]; simp only [ht]; rfl)
    simp only [allP, Con.h, ht, nonneg, hq, hz, hb, hlow, hv, Int.reduceMul, Int.reducePow, Int.reduceSub, Int.reduceAdd, Int.reduceToNat, Nat.reducePow, Nat.reduceMul, Nat.reduceSub, Int.reduceLT, Int.reduceLE, Nat.reduceLT, Nat.reduceLeDiff, Int.one_mul, Nat.one_mul, decide_true, decide_false, decide_eq_true_eq, decide_eq_false_iff_not, beq_iff_eq, beq_eq_false_iff_ne, ne_eq, not_false_eq_true, eq_self, true_and, and_true]
    omega
  · have hz : sizedLaw 2 := by unfold sizedLaw; decide
    have hlow : LowLaw B off 2 := fun h => absurd h (by decide)
    have hrg := beN_rng hb off 2
    have hrg1 : 0 ≤ numAtLaw 2 B off := hrg.1
    have hrg2 : numAtLaw 2 B off < 65536 := hrg.2
    have hip := iand_pos (numAtLaw 2 B off) 16383
    by_cases hl : B.length - off < 2
    · have hr := (rl_1 hn ht).trans (rlT_s hl)
      simp only [rlVLaw, rlOLaw, rlELaw, hr]
      refine small_of (R := R28s B g gR off B.length) eQ1_ok hmN (f := 86) (fn := f86) (by kernel_rfl) (by kernel_rfl) FnOrc.nil rfl (R28s_ok ?_) R28s_val R28s_tab
      simp only [allP, Con.h, ht, nonneg, hq, Int.reduceMul, Int.reducePow, Int.reduceSub, Int.reduceAdd, Int.reduceToNat, Nat.reducePow, Nat.reduceMul, Nat.reduceSub, Int.reduceLT, Int.reduceLE, Nat.reduceLT, Nat.reduceLeDiff, Int.one_mul, Nat.one_mul, decide_true, decide_false, decide_eq_true_eq, decide_eq_false_iff_not, beq_iff_eq, beq_eq_false_iff_ne, ne_eq, not_false_eq_true, eq_self, true_and, and_true]
      omega
    by_cases hv : iand (numAtLaw 2 B off) 16383 < 64
    · have hr := (rl_1 hn ht).trans (rlT_b hl hv)
      simp only [rlVLaw, rlOLaw, rlELaw, hr]
      refine small_of (R := R28b1 B g gR off B.length) eQ1_ok hmN (f := 86) (fn := f86) (by kernel_rfl) (by kernel_rfl) FnOrc.nil rfl (R28b1_ok ?_) R28b1_val R28b1_tab
      simp only [allP, Con.h, ht, nonneg, hq, hz, hb, hlow, hv, Int.reduceMul, Int.reducePow, Int.reduceSub, Int.reduceAdd, Int.reduceToNat, Nat.reducePow, Nat.reduceMul, Nat.reduceSub, Int.reduceLT, Int.reduceLE, Nat.reduceLT, Nat.reduceLeDiff, Int.one_mul, Nat.one_mul, decide_true, decide_false, decide_eq_true_eq, decide_eq_false_iff_not, beq_iff_eq, beq_eq_false_iff_ne, ne_eq, not_false_eq_true, eq_self, true_and, and_true]
      omega
    have hr := (rl_1 hn ht).trans (rlT_g hl hv)
    simp only [rlVLaw, rlOLaw, rlELaw, hr]
    refine small_of (R := R28g1 B g gR off B.length) eQ1_ok hmN (f := 86) (fn := f86) (by kernel_rfl) (by kernel_rfl) FnOrc.nil rfl (R28g1_ok ?_) (by rw [R28g1_val]; simp only [ht]; rfl) (by rw [R28g1_tab]; simp only [ht]; rfl)
    simp only [allP, Con.h, ht, nonneg, hq, hz, hb, hlow, hv, Int.reduceMul, Int.reducePow, Int.reduceSub, Int.reduceAdd, Int.reduceToNat, Nat.reducePow, Nat.reduceMul, Nat.reduceSub, Int.reduceLT, Int.reduceLE, Nat.reduceLT, Nat.reduceLeDiff, Int.one_mul, Nat.one_mul, decide_true, decide_false, decide_eq_true_eq, decide_eq_false_iff_not, beq_iff_eq, beq_eq_false_iff_ne, ne_eq, not_false_eq_true, eq_self, true_and, and_true]
    omega
  · have hz : sizedLaw 4 := by unfold sizedLaw; decide
    have hlow : LowLaw B off 4 := fun h => absurd h (by decide)
    have hrg := beN_rng hb off 4
    have hrg1 : 0 ≤ numAtLaw 4 B off := hrg.1
    have hrg2 : numAtLaw 4 B off < 4294967296 := hrg.2
    have hip := iand_pos (numAtLaw 4 B off) 1073741823
    by_cases hl : B.length - off < 4
    · have hr := (rl_2 hn ht).trans (rlT_s hl)
      simp only [rlVLaw, rlOLaw, rlELaw, hr]
      refine small_of (R := R28s B g gR off B.length) eQ1_ok hmN (f := 86) (fn := f86) (by kernel_rfl) (by kernel_rfl) FnOrc.nil rfl (R28s_ok ?_) R28s_val R28s_tab
      simp only [allP, Con.h, ht, nonneg, hq, Int.reduceMul, Int.reducePow, Int.reduceSub, Int.reduceAdd, Int.reduceToNat, Nat.reducePow, Nat.reduceMul, Nat.reduceSub, Int.reduceLT, Int.reduceLE, Nat.reduceLT, Nat.reduceLeDiff, Int.one_mul, Nat.one_mul, decide_true, decide_false, decide_eq_true_eq, decide_eq_false_iff_not, beq_iff_eq, beq_eq_false_iff_ne, ne_eq, not_false_eq_true, eq_self, true_and, and_true]
      omega
    by_cases hv : iand (numAtLaw 4 B off) 1073741823 < 16384
    · have hr := (rl_2 hn ht).trans (rlT_b hl hv)
      simp only [rlVLaw, rlOLaw, rlELaw, hr]
      refine small_of (R := R28b2 B g gR off B.length) eQ1_ok hmN (f := 86) (fn := f86) (by kernel_rfl) (by kernel_rfl) FnOrc.nil rfl (R28b2_ok ?_) R28b2_val R28b2_tab
      simp only [allP, Con.h, ht, nonneg, hq, hz, hb, hlow, hv, Int.reduceMul, Int.reducePow, Int.reduceSub, Int.reduceAdd, Int.reduceToNat, Nat.reducePow, Nat.reduceMul, Nat.reduceSub, Int.reduceLT, Int.reduceLE, Nat.reduceLT, Nat.reduceLeDiff, Int.one_mul, Nat.one_mul, decide_true, decide_false, decide_eq_true_eq, decide_eq_false_iff_not, beq_iff_eq, beq_eq_false_iff_ne, ne_eq, not_false_eq_true, eq_self, true_and, and_true]
      omega
    have hr := (rl_2 hn ht).trans (rlT_g hl hv)
    simp only [rlVLaw, rlOLaw, rlELaw, hr]
    refine small_of (R := R28g2 B g gR off B.length) eQ1_ok hmN (f := 86) (fn := f86) (by kernel_rfl) (by kernel_rfl) FnOrc.nil rfl (R28g2_ok ?_) (by rw [R28g2_val]; simp only [ht]; rfl) (by rw [R28g2_tab]; simp only [ht]; rfl)
    simp only [allP, Con.h, ht, nonneg, hq, hz, hb, hlow, hv, Int.reduceMul, Int.reducePow, Int.reduceSub, Int.reduceAdd, Int.reduceToNat, Nat.reducePow, Nat.reduceMul, Nat.reduceSub, Int.reduceLT, Int.reduceLE, Nat.reduceLT, Nat.reduceLeDiff, Int.one_mul, Nat.one_mul, decide_true, decide_false, decide_eq_true_eq, decide_eq_false_iff_not, beq_iff_eq, beq_eq_false_iff_ne, ne_eq, not_false_eq_true, eq_self, true_and, and_true]
    omega
noncomputable def sm28 : Summary := fun args T => sm28c args T (xsAt T 1) (gAt T 1) (gAt T 0) ((iOf (cAt T 0 1)).toNat) (lenOf (cAt T 0 0)) (iOf (cAt T 0 2))
theorem sm28_ok : SmOk prog (fun _ => none) 86 sm28 := fun args T h => sm28c_ok h
noncomputable def S28r : Summary := callR sm28 [true]
theorem S28r_ok : SumOk prog (fun _ => none) 86 S28r := callR_ok sm28_ok [true]
noncomputable def sm32c (args : List AVal) (T : Tab) (B : List Int) (g : Nat) (gR : Nat) (off : Nat) (nB : Nat) (e : Int) (m : Int) : Res := ⟨[.tab T [some ⟨.agg [.slice 1 1 g 0 nB none, .int .i64 (off : Nat), .int .i64 e], gR, true, 118⟩, some ⟨.ints .u8 B, g, false, 5⟩], .val (.tuple args) (.tuple [.var 0 gR, .int .i64 m]), .eqN nB B.length, .leN off B.length, .p (ByLaw B), .leN B.length 140737488355000], .slice 1 2 1 0 (rtVLaw B off e m).length none, [some ⟨.agg [.slice 1 1 g 0 nB none, .int .i64 (rtOLaw B off e m : Nat), .int .i64 (rtELaw B off e m)], gR, true, 118⟩, some ⟨.ints .u8 B, g, false, 5⟩, some ⟨.ints .u8 (rtVLaw B off e m), 1, true, 5⟩]⟩
theorem sm32c_ok {args : List AVal} {T : Tab} {B : List Int} {g : Nat} {gR : Nat} {off : Nat} {nB : Nat} {e : Int} {m : Int} (h : allP (sm32c args T B g gR off nB e m).cs) : Small prog (fun _ => none) 87 args T (sm32c args T B g gR off nB e m).val (sm32c args T B g gR off nB e m).tab := by
  obtain ⟨hT, hv, h1, h2, h3, h4, _⟩ := h
  simp only [Con.h] at hT hv h1 h2 h3 h4
  injection hv with hv
  subst hT hv
  show Small prog (fun _ => none) 87 [.var 0 gR, .int .i64 m] [some ⟨.agg [.slice 1 1 g 0 nB none, .int .i64 (off : Nat), .int .i64 e], gR, true, 118⟩, some ⟨.ints .u8 B, g, false, 5⟩] (.slice 1 2 1 0 (rtVLaw B off e m).length none) [some ⟨.agg [.slice 1 1 g 0 nB none, .int .i64 (rtOLaw B off e m : Nat), .int .i64 (rtELaw B off e m)], gR, true, 118⟩, some ⟨.ints .u8 B, g, false, 5⟩, some ⟨.ints .u8 (rtVLaw B off e m), 1, true, 5⟩]
  have hb : ByLaw B := h3
  subst h1
  by_cases he : e = 0
  rotate_left
  · have hr := rt_e (B := B) (off := off) m he
    have hne : (e != 0) = true := bne_iff_ne.2 he
    simp only [rtVLaw, rtOLaw, rtELaw, hr]
    have hc : Small prog (fun _ => none) 87 [.var 0 gR, .int .i64 m] [some ⟨.agg [.slice 1 1 g 0 B.length none, .int .i64 (off : Nat), .int .i64 e], gR, true, 118⟩, some ⟨.ints .u8 B, g, false, 5⟩] .nilSlice [some ⟨.agg [.slice 1 1 g 0 B.length none, .int .i64 (off : Nat), .int .i64 e], gR, true, 118⟩, some ⟨.ints .u8 B, g, false, 5⟩] := by
      refine small_of (R := R32e B g gR off B.length e m) eQ1_ok hmN (f := 87) (fn := f87) (by kernel_rfl) (by kernel_rfl) FnOrc.nil rfl (R32e_ok ?_) R32e_val R32e_tab
      simp only [allP, Con.h, hne, not_false_eq_true, eq_self, true_and, and_true]
    exact small_nilG .u8 5 1 hc (Nat.le_refl 2)
  subst he
  by_cases hm : m < 0
  · have hr := rt_a (B := B) (off := off) hm
    simp only [rtVLaw, rtOLaw, rtELaw, hr]
    have hc : Small prog (fun _ => none) 87 [.var 0 gR, .int .i64 m] [some ⟨.agg [.slice 1 1 g 0 B.length none, .int .i64 (off : Nat), .int .i64 0], gR, true, 118⟩, some ⟨.ints .u8 B, g, false, 5⟩] .nilSlice [some ⟨.agg [.slice 1 1 g 0 B.length none, .int .i64 (off : Nat), .int .i64 1], gR, true, 118⟩, some ⟨.ints .u8 B, g, false, 5⟩] := by
      refine small_of (R := R32a B g gR off B.length m) eQ1_ok hmN (f := 87) (fn := f87) (by kernel_rfl) (by kernel_rfl) FnOrc.nil rfl (R32a_ok ?_) R32a_val R32a_tab
      simp only [allP, Con.h, hm, decide_eq_true_eq, decide_eq_false_iff_not, not_false_eq_true, eq_self, true_and, and_true]
    exact small_nilG .u8 5 1 hc (Nat.le_refl 2)
  by_cases hl : ((B.length - off : Nat) : Int) < m
  · have hr := rt_s hm hl
    simp only [rtVLaw, rtOLaw, rtELaw, hr]
    have hc : Small prog (fun _ => none) 87 [.var 0 gR, .int .i64 m] [some ⟨.agg [.slice 1 1 g 0 B.length none, .int .i64 (off : Nat), .int .i64 0], gR, true, 118⟩, some ⟨.ints .u8 B, g, false, 5⟩] .nilSlice [some ⟨.agg [.slice 1 1 g 0 B.length none, .int .i64 (off : Nat), .int .i64 20], gR, true, 118⟩, some ⟨.ints .u8 B, g, false, 5⟩] := by
      refine small_of (R := R32s B g gR off B.length m) eQ1_ok hmN (f := 87) (fn := f87) (by kernel_rfl) (by kernel_rfl) FnOrc.nil rfl (R32s_ok ?_) R32s_val R32s_tab
      simp only [allP, Con.h, hm, hl, h2, h4, decide_eq_true_eq, decide_eq_false_iff_not, not_false_eq_true, eq_self, true_and, and_true]
    exact small_nilG .u8 5 1 hc (Nat.le_refl 2)
  obtain ⟨k, rfl⟩ : ∃ k : Nat, m = (k : Nat) := ⟨m.toNat, by omega⟩
  have hr := rt_g hl
  have hk : (subLaw B off k).length = k := subLaw_len (by omega)
  have e1 : ((off : Int) + (k : Int) - (k : Int)).toNat = off := by omega
  have e2 : off + k - off = k := by omega
  have e3 : (off : Int) + (k : Int) = ((off + k : Nat) : Int) := by omega
  simp only [rtVLaw, rtOLaw, rtELaw, hr]
  refine small_ofG (R := R32g B g gR off B.length k) (keep := [0,1,2]) eQ1_ok hmN (f := 87) (fn := f87) (by kernel_rfl) (by kernel_rfl) FnOrc.nil rfl (R32g_ok ?_) (by rw [R32g_val, e1, subO_eq, e2, hk]) (by rw [R32g_tab, e1, subO_eq, e2, dropO_eq, e3]; rfl)
  rw [e1]
  simp only [allP, Con.h, subO_eq, e2, hl, h2, h4, decide_eq_true_eq, decide_eq_false_iff_not, not_false_eq_true, eq_self, true_and, and_true]
  omega
noncomputable def sm32 : Summary := fun args T => sm32c args T (xsAt T 1) (gAt T 1) (gAt T 0) ((iOf (cAt T 0 1)).toNat) (lenOf (cAt T 0 0)) (iOf (cAt T 0 2)) (iOf (vAt args 1))
theorem sm32_ok : SmOk prog (fun _ => none) 87 sm32 := fun args T h => sm32c_ok h
noncomputable def S32r : Summary := callR sm32 [true]
theorem S32r_ok : SumOk prog (fun _ => none) 87 S32r := callR_ok sm32_ok [true]
noncomputable def sm37c (args : List AVal) (T : Tab) (B : List Int) (g : Nat) (gR : Nat) (off : Nat) (nB : Nat) (e : Int) : Res := ⟨[.tab T [some ⟨.agg [.slice 1 1 g 0 nB none, .int .i64 (off : Nat), .int .i64 e], gR, true, 118⟩, some ⟨.ints .u8 B, g, false, 5⟩], .val (.tuple args) (.tuple [.var 0 gR]), .eqN nB B.length, .leN off B.length, .p (ByLaw B), .leN B.length 140737488355000], .int .i64 (reLaw B off e), [some ⟨.agg [.slice 1 1 g 0 nB none, .int .i64 (off : Nat), .int .i64 e], gR, true, 118⟩, some ⟨.ints .u8 B, g, false, 5⟩]⟩
theorem sm37c_ok {args : List AVal} {T : Tab} {B : List Int} {g : Nat} {gR : Nat} {off : Nat} {nB : Nat} {e : Int} (h : allP (sm37c args T B g gR off nB e).cs) : Small prog (fun _ => none) 47 args T (sm37c args T B g gR off nB e).val (sm37c args T B g gR off nB e).tab := by
  obtain ⟨hT, hv, h1, h2, h3, h4, _⟩ := h
  simp only [Con.h] at hT hv h1 h2 h3 h4
  injection hv with hv
  subst hT hv
  show Small prog (fun _ => none) 47 [.var 0 gR] [some ⟨.agg [.slice 1 1 g 0 nB none, .int .i64 (off : Nat), .int .i64 e], gR, true, 118⟩, some ⟨.ints .u8 B, g, false, 5⟩] (.int .i64 (reLaw B off e)) [some ⟨.agg [.slice 1 1 g 0 nB none, .int .i64 (off : Nat), .int .i64 e], gR, true, 118⟩, some ⟨.ints .u8 B, g, false, 5⟩]
  subst h1
  by_cases he : e = 0
  rotate_left
  · have hne : (e == 0) = false := beq_eq_false_iff_ne.2 he
    rw [show reLaw B off e = e from if_pos he]
    refine small_of (R := R37e B g gR off B.length e) eQ1_ok hmN (f := 47) (fn := f47) (by kernel_rfl) (by kernel_rfl) FnOrc.nil rfl (R37e_ok ?_) R37e_val R37e_tab
    simp only [allP, Con.h, hne, not_false_eq_true, eq_self, true_and, and_true]
  subst he
  by_cases hl : 0 < B.length - off
  · rw [show reLaw B off 0 = 21 by unfold reLaw; rw [if_neg (by decide), if_pos hl]]
    refine small_of (R := R37m B g gR off B.length) eQ1_ok hmN (f := 47) (fn := f47) (by kernel_rfl) (by kernel_rfl) FnOrc.nil rfl (R37m_ok ?_) R37m_val R37m_tab
    simp only [allP, Con.h, decide_eq_true_eq, decide_eq_false_iff_not, not_false_eq_true, eq_self, true_and, and_true]
    omega
  · rw [show reLaw B off 0 = 0 by unfold reLaw; rw [if_neg (by decide), if_neg hl]]
    refine small_of (R := R37z B g gR off B.length) eQ1_ok hmN (f := 47) (fn := f47) (by kernel_rfl) (by kernel_rfl) FnOrc.nil rfl (R37z_ok ?_) R37z_val R37z_tab
    simp only [allP, Con.h, decide_eq_true_eq, decide_eq_false_iff_not, not_false_eq_true, eq_self, true_and, and_true]
    omega
noncomputable def sm37 : Summary := fun args T => sm37c args T (xsAt T 1) (gAt T 1) (gAt T 0) ((iOf (cAt T 0 1)).toNat) (lenOf (cAt T 0 0)) (iOf (cAt T 0 2))
theorem sm37_ok : SmOk prog (fun _ => none) 47 sm37 := fun args T h => sm37c_ok h
noncomputable def S37r : Summary := callR sm37 [true]
theorem S37r_ok : SumOk prog (fun _ => none) 47 S37r := callR_ok sm37_ok [true]
end Go.Abs

set_option linter.unusedVariables false
set_option linter.unusedSimpArgs false
set_option maxRecDepth 100000
set_option maxHeartbeats 4000000
namespace Go.Abs
open Go.Proofs Go.Proofs.Try
/-! ### the document: the reader: Vector -/
noncomputable def eQ2 : Env := eN0 [(86, S28r), (87, S32r)]
theorem eQ2_ok : EnvOk eQ2 := envOf_ok tysN_ok (SumsOk.cons (fn := f86) S28r_ok (by kernel_rfl) (by kernel_rfl) (by kernel_rfl) (SumsOk.cons (fn := f87) S32r_ok (by kernel_rfl) (by kernel_rfl) (by kernel_rfl) trivial))
noncomputable def R30a (B : List Int) (g gR off nB : Nat) (e : Int) : Res := resG 2 [0,1] (runF eQ2 f64 [] 400 [.var 0 gR] [some ⟨.agg [.slice 1 1 g 0 nB none, .int .i64 (off : Nat), .int .i64 e], gR, true, 118⟩, some ⟨.ints .u8 B, g, false, 5⟩] [some false, some true])
theorem R30a_ok {B : List Int} {g gR off nB : Nat} {e : Int} (h : allP [.eqN gR gR, .eqN gR gR, .eqN gR gR, .eqN g g, .eqN nB B.length, .leN off B.length, .p (ByLaw B), .leN B.length 140737488355000, .eqN gR gR, .eqN gR gR, .eqN gR gR, .p ((rlELaw B off e == 0) = false), .eqN g g, .eqN nB B.length, .leN (rlOLaw B off e) B.length, .p (ByLaw B), .leN B.length 140737488355000, .eqN gR gR, .eqN gR gR,
 .eqN gR gR, .p ((rtELaw B (rlOLaw B off e) (rlELaw B off e) (rlVLaw B off e) != 0) = true), .eqN gR gR, .eqN gR gR, .eqN gR gR]) : OkR (R30a B g gR off nB e) := OkR.dem (fl := bitsF 34 15099510792) (by kernel_rfl) (by kernel_rfl) (by kernel_rfl) h
theorem R30a_val {B : List Int} {g gR off nB : Nat} {e : Int} : (R30a B g gR off nB e).val = .nilSlice := by kernel_rfl
theorem R30a_tab {B : List Int} {g gR off nB : Nat} {e : Int} : (R30a B g gR off nB e).tab = [some ⟨.agg [.slice 1 1 g 0 nB none, .int .i64 (↑off : Int), .int .i64 (rtELaw B (rlOLaw B off e) (rlELaw B off e) (rlVLaw B off e))], gR, true, 118⟩, some ⟨.ints .u8 B, g, false, 5⟩] := by kernel_rfl
noncomputable def R30b (B : List Int) (g gR off nB : Nat) : Res := resG 2 [0,1] (runF eQ2 f64 [] 400 [.var 0 gR] [some ⟨.agg [.slice 1 1 g 0 nB none, .int .i64 (off : Nat), .int .i64 0], gR, true, 118⟩, some ⟨.ints .u8 B, g, false, 5⟩] [some true, some true, some true])
theorem R30b_ok {B : List Int} {g gR off nB : Nat} (h : allP [.eqN gR gR, .eqN gR gR, .eqN gR gR, .eqN g g, .eqN nB B.length, .leN off B.length, .p (ByLaw B), .leN B.length 140737488355000, .eqN gR gR, .eqN gR gR, .eqN gR gR, .p ((rlELaw B off (OfNat.ofNat 0) == 0) = true), .p (decide (65536 < rlVLaw B off (OfNat.ofNat 0)) = true), .eqN gR gR, .eqN gR gR, .eqN gR gR, .eqN g g, .eqN nB B.length,
 .leN (rlOLaw B off (OfNat.ofNat 0)) B.length, .p (ByLaw B), .leN B.length 140737488355000, .eqN gR gR, .eqN gR gR, .eqN gR gR, .p (true = true), .eqN gR gR, .eqN gR gR, .eqN gR gR]) : OkR (R30b B g gR off nB) := OkR.dem (fl := bitsF 41 1932742639624) (by kernel_rfl) (by kernel_rfl) (by kernel_rfl) h
theorem R30b_val {B : List Int} {g gR off nB : Nat} : (R30b B g gR off nB).val = .nilSlice := by kernel_rfl
theorem R30b_tab {B : List Int} {g gR off nB : Nat} : (R30b B g gR off nB).tab = [some ⟨.agg [.slice 1 1 g 0 nB none, .int .i64 (↑off : Int), .int .i64 (rtELaw B (rlOLaw B off (OfNat.ofNat 0)) (OfNat.ofNat 21) (rlVLaw B off (OfNat.ofNat 0)))], gR, true, 118⟩, some ⟨.ints .u8 B, g, false, 5⟩] := by kernel_rfl
noncomputable def R30c (B : List Int) (g gR off nB : Nat) : Res := resG 2 [0,1] (runF eQ2 f64 [] 400 [.var 0 gR] [some ⟨.agg [.slice 1 1 g 0 nB none, .int .i64 (off : Nat), .int .i64 0], gR, true, 118⟩, some ⟨.ints .u8 B, g, false, 5⟩] [some true, some false, some true])
theorem R30c_ok {B : List Int} {g gR off nB : Nat} (h : allP [.eqN gR gR, .eqN gR gR, .eqN gR gR, .eqN g g, .eqN nB B.length, .leN off B.length, .p (ByLaw B), .leN B.length 140737488355000, .eqN gR gR, .eqN gR gR, .eqN gR gR, .p ((rlELaw B off (OfNat.ofNat 0) == 0) = true), .p (decide (65536 < rlVLaw B off (OfNat.ofNat 0)) = false), .eqN g g, .eqN nB B.length, .leN (rlOLaw B off (OfNat.ofNat 0))
 B.length, .p (ByLaw B), .leN B.length 140737488355000, .eqN gR gR, .eqN gR gR, .eqN gR gR, .p ((rtELaw B (rlOLaw B off (OfNat.ofNat 0)) (rlELaw B off (OfNat.ofNat 0)) (rlVLaw B off (OfNat.ofNat 0)) != 0) = true), .eqN gR gR, .eqN gR gR, .eqN gR gR]) : OkR (R30c B g gR off nB) := OkR.dem (fl := bitsF 35 30199005192) (by kernel_rfl) (by kernel_rfl) (by kernel_rfl) h
theorem R30c_val {B : List Int} {g gR off nB : Nat} : (R30c B g gR off nB).val = .nilSlice := by kernel_rfl
theorem R30c_tab {B : List Int} {g gR off nB : Nat} : (R30c B g gR off nB).tab = [some ⟨.agg [.slice 1 1 g 0 nB none, .int .i64 (↑off : Int), .int .i64 (rtELaw B (rlOLaw B off (OfNat.ofNat 0)) (rlELaw B off (OfNat.ofNat 0)) (rlVLaw B off (OfNat.ofNat 0)))], gR, true, 118⟩, some ⟨.ints .u8 B, g, false, 5⟩] := by kernel_rfl
noncomputable def R30d (B : List Int) (g gR off nB : Nat) : Res := resG 2 [0,1,2] (runF eQ2 f64 [] 400 [.var 0 gR] [some ⟨.agg [.slice 1 1 g 0 nB none, .int .i64 (off : Nat), .int .i64 0], gR, true, 118⟩, some ⟨.ints .u8 B, g, false, 5⟩] [some true, some false, some false])
theorem R30d_ok {B : List Int} {g gR off nB : Nat} (h : allP [.eqN gR gR, .eqN gR gR, .eqN gR gR, .eqN g g, .eqN nB B.length, .leN off B.length, .p (ByLaw B), .leN B.length 140737488355000, .eqN gR gR, .eqN gR gR, .eqN gR gR, .p ((rlELaw B off (OfNat.ofNat 0) == 0) = true), .p (decide (65536 < rlVLaw B off (OfNat.ofNat 0)) = false), .eqN g g, .eqN nB B.length, .leN (rlOLaw B off (OfNat.ofNat 0))
 B.length, .p (ByLaw B), .leN B.length 140737488355000, .eqN gR gR, .eqN gR gR, .eqN gR gR, .p ((rtELaw B (rlOLaw B off (OfNat.ofNat 0)) (rlELaw B off (OfNat.ofNat 0)) (rlVLaw B off (OfNat.ofNat 0)) != 0) = false)]) : OkR (R30d B g gR off nB) := OkR.dem (fl := bitsF 29 134234120) (by kernel_rfl) (by kernel_rfl) (by kernel_rfl) h
theorem R30d_val {B : List Int} {g gR off nB : Nat} : (R30d B g gR off nB).val = .slice 1 2 1 0 (rtVLaw B (rlOLaw B off (OfNat.ofNat 0)) (rlELaw B off (OfNat.ofNat 0)) (rlVLaw B off (OfNat.ofNat 0))).length none := by kernel_rfl
theorem R30d_tab {B : List Int} {g gR off nB : Nat} : (R30d B g gR off nB).tab = [some ⟨.agg [.slice 1 1 g 0 nB none, .int .i64 (↑(rtOLaw B (rlOLaw B off (OfNat.ofNat 0)) (rlELaw B off (OfNat.ofNat 0)) (rlVLaw B off (OfNat.ofNat 0))) : Int), .int .i64 (rtELaw B (rlOLaw B off (OfNat.ofNat 0)) (rlELaw B off (OfNat.ofNat 0)) (rlVLaw B off (OfNat.ofNat 0)))], gR, true, 118⟩, some ⟨.ints .u8 B, g,
 false, 5⟩, some ⟨.ints .u8 (rtVLaw B (rlOLaw B off (OfNat.ofNat 0)) (rlELaw B off (OfNat.ofNat 0)) (rlVLaw B off (OfNat.ofNat 0))), 1, true, 5⟩] := by kernel_rfl
end Go.Abs

set_option linter.unusedVariables false
set_option linter.unusedSimpArgs false
set_option maxRecDepth 100000
set_option maxHeartbeats 4000000
namespace Go.Abs
open Go.Proofs Go.Proofs.Try
/-! ### the document: the reader: Vector answers -/
theorem rtV_err {B : List Int} {off : Nat} {e m : Int} (h : rtELaw B off e m ≠ 0) : rtVLaw B off e m = [] := by
  unfold rtELaw at h
  unfold rtVLaw
  unfold rtP at h ⊢
  split
  · rfl
  split
  · rfl
  split
  · rfl
  · rename_i a b c
    rw [if_neg a, if_neg b, if_neg c] at h
    exact absurd rfl h
noncomputable def sm30c (args : List AVal) (T : Tab) (B : List Int) (g : Nat) (gR : Nat) (off : Nat) (nB : Nat) (e : Int) : Res := ⟨[.tab T [some ⟨.agg [.slice 1 1 g 0 nB none, .int .i64 (off : Nat), .int .i64 e], gR, true, 118⟩, some ⟨.ints .u8 B, g, false, 5⟩], .val (.tuple args) (.tuple [.var 0 gR]), .eqN nB B.length, .leN off B.length, .p (ByLaw B), .leN B.length 140737488355000], .slice 1 2 1 0 (rvVLaw B off e).length none, [some ⟨.agg [.slice 1 1 g 0 nB none, .int .i64 (rvOLaw B off e : Nat), .int .i64 (rvELaw B off e)], gR, true, 118⟩, some ⟨.ints .u8 B, g, false, 5⟩, some ⟨.ints .u8 (rvVLaw B off e), 1, true, 5⟩]⟩
theorem sm30c_ok {args : List AVal} {T : Tab} {B : List Int} {g : Nat} {gR : Nat} {off : Nat} {nB : Nat} {e : Int} (h : allP (sm30c args T B g gR off nB e).cs) : Small prog (fun _ => none) 64 args T (sm30c args T B g gR off nB e).val (sm30c args T B g gR off nB e).tab := by
  obtain ⟨hT, hv, h1, h2, h3, h4, _⟩ := h
  simp only [Con.h] at hT hv h1 h2 h3 h4
  injection hv with hv
  subst hT hv
  show Small prog (fun _ => none) 64 [.var 0 gR] [some ⟨.agg [.slice 1 1 g 0 nB none, .int .i64 (off : Nat), .int .i64 e], gR, true, 118⟩, some ⟨.ints .u8 B, g, false, 5⟩] (.slice 1 2 1 0 (rvVLaw B off e).length none) [some ⟨.agg [.slice 1 1 g 0 nB none, .int .i64 (rvOLaw B off e : Nat), .int .i64 (rvELaw B off e)], gR, true, 118⟩, some ⟨.ints .u8 B, g, false, 5⟩, some ⟨.ints .u8 (rvVLaw B off e), 1, true, 5⟩]
  have hb : ByLaw B := h3
  subst h1
  by_cases he : e = 0
  rotate_left
  · have hr := rv_e (B := B) (off := off) he
    have hl := rl_e (B := B) (off := off) he
    have q0 : rlELaw B off e = e := by unfold rlELaw; rw [hl]
    have q3 : rlOLaw B off e = off := by unfold rlOLaw; rw [hl]
    have q4 := rtE_e (B := B) (off := off) (rlVLaw B off e) he
    have q1 : (e == 0) = false := beq_eq_false_iff_ne.2 he
    have q2 : (e != 0) = true := bne_iff_ne.2 he
    simp only [rvVLaw, rvOLaw, rvELaw, hr]
    have hc : Small prog (fun _ => none) 64 [.var 0 gR] [some ⟨.agg [.slice 1 1 g 0 B.length none, .int .i64 (off : Nat), .int .i64 e], gR, true, 118⟩, some ⟨.ints .u8 B, g, false, 5⟩] .nilSlice [some ⟨.agg [.slice 1 1 g 0 B.length none, .int .i64 (off : Nat), .int .i64 e], gR, true, 118⟩, some ⟨.ints .u8 B, g, false, 5⟩] := by
      refine small_ofG (R := R30a B g gR off B.length e) (keep := [0,1]) eQ2_ok hmN (f := 64) (fn := f64) (by kernel_rfl) (by kernel_rfl) FnOrc.nil rfl (R30a_ok ?_) R30a_val (by rw [R30a_tab, q0, q3, q4])
      simp only [allP, Con.h, hb, q0, q1, q3, q4, q2, h2, h4, not_false_eq_true, eq_self, true_and, and_true]
    exact small_nilG .u8 5 1 hc (Nat.le_refl 2)
  subst he
  have ho := rl_off h2 0
  by_cases h0 : rlELaw B off 0 = 0
  rotate_left
  · have e1 : rvE1 B off = rlELaw B off 0 := if_neg (fun k => h0 k.1)
    have hE := rtE_e (B := B) (off := rlOLaw B off 0) (rlVLaw B off 0) h0
    have hN : rtELaw B (rlOLaw B off 0) (rlELaw B off 0) (rlVLaw B off 0) ≠ 0 := by rw [hE]; exact h0
    have hr := rv_w e1 hN
    have hn := rtV_err hN
    have q1 : (rlELaw B off 0 == 0) = false := beq_eq_false_iff_ne.2 h0
    have q2 : (rlELaw B off 0 != 0) = true := bne_iff_ne.2 h0
    simp only [rvVLaw, rvOLaw, rvELaw, hr]
    rw [hn]
    have hc : Small prog (fun _ => none) 64 [.var 0 gR] [some ⟨.agg [.slice 1 1 g 0 B.length none, .int .i64 (off : Nat), .int .i64 0], gR, true, 118⟩, some ⟨.ints .u8 B, g, false, 5⟩] .nilSlice [some ⟨.agg [.slice 1 1 g 0 B.length none, .int .i64 (off : Nat), .int .i64 (rtELaw B (rlOLaw B off 0) (rlELaw B off 0) (rlVLaw B off 0))], gR, true, 118⟩, some ⟨.ints .u8 B, g, false, 5⟩] := by
      refine small_ofG (R := R30a B g gR off B.length 0) (keep := [0,1]) eQ2_ok hmN (f := 64) (fn := f64) (by kernel_rfl) (by kernel_rfl) FnOrc.nil rfl (R30a_ok ?_) R30a_val R30a_tab
      simp only [allP, Con.h, hb, q1, hE, q2, ho.2, h2, h4, not_false_eq_true, eq_self, true_and, and_true]
    exact small_nilG .u8 5 1 hc (Nat.le_refl 2)
  have q1 : (rlELaw B off 0 == 0) = true := beq_iff_eq.2 h0
  by_cases hv : 65536 < rlVLaw B off 0
  · have e1 : rvE1 B off = 21 := if_pos ⟨h0, hv⟩
    have hE := rtE_e (B := B) (off := rlOLaw B off 0) (e := 21) (rlVLaw B off 0) (by decide)
    have hN : rtELaw B (rlOLaw B off 0) 21 (rlVLaw B off 0) ≠ 0 := by rw [hE]; decide
    have hr := rv_w e1 hN
    have hn := rtV_err hN
    simp only [rvVLaw, rvOLaw, rvELaw, hr]
    rw [hn]
    have hc : Small prog (fun _ => none) 64 [.var 0 gR] [some ⟨.agg [.slice 1 1 g 0 B.length none, .int .i64 (off : Nat), .int .i64 0], gR, true, 118⟩, some ⟨.ints .u8 B, g, false, 5⟩] .nilSlice [some ⟨.agg [.slice 1 1 g 0 B.length none, .int .i64 (off : Nat), .int .i64 (rtELaw B (rlOLaw B off 0) 21 (rlVLaw B off 0))], gR, true, 118⟩, some ⟨.ints .u8 B, g, false, 5⟩] := by
      refine small_ofG (R := R30b B g gR off B.length) (keep := [0,1]) eQ2_ok hmN (f := 64) (fn := f64) (by kernel_rfl) (by kernel_rfl) FnOrc.nil rfl (R30b_ok ?_) R30b_val R30b_tab
      simp only [allP, Con.h, hb, q1, hv, ho.2, h2, h4, decide_eq_true_eq, not_false_eq_true, eq_self, true_and, and_true]
    exact small_nilG .u8 5 1 hc (Nat.le_refl 2)
  have e1 : rvE1 B off = rlELaw B off 0 := if_neg (fun k => hv k.2)
  by_cases hE : rtELaw B (rlOLaw B off 0) (rlELaw B off 0) (rlVLaw B off 0) = 0
  · have hr := rv_g e1 hE
    have q2 : (rtELaw B (rlOLaw B off 0) (rlELaw B off 0) (rlVLaw B off 0) != 0) = false := bne_eq_false_iff_eq.2 hE
    simp only [rvVLaw, rvOLaw, rvELaw, hr]
    refine small_ofG (R := R30d B g gR off B.length) (keep := [0,1,2]) eQ2_ok hmN (f := 64) (fn := f64) (by kernel_rfl) (by kernel_rfl) FnOrc.nil rfl (R30d_ok ?_) R30d_val R30d_tab
    simp only [allP, Con.h, hb, q1, q2, hv, ho.2, h2, h4, decide_eq_true_eq, decide_eq_false_iff_not, not_false_eq_true, eq_self, true_and, and_true]
  · have hr := rv_w e1 hE
    have hn := rtV_err hE
    have q2 : (rtELaw B (rlOLaw B off 0) (rlELaw B off 0) (rlVLaw B off 0) != 0) = true := bne_iff_ne.2 hE
    simp only [rvVLaw, rvOLaw, rvELaw, hr]
    rw [hn]
    have hc : Small prog (fun _ => none) 64 [.var 0 gR] [some ⟨.agg [.slice 1 1 g 0 B.length none, .int .i64 (off : Nat), .int .i64 0], gR, true, 118⟩, some ⟨.ints .u8 B, g, false, 5⟩] .nilSlice [some ⟨.agg [.slice 1 1 g 0 B.length none, .int .i64 (off : Nat), .int .i64 (rtELaw B (rlOLaw B off 0) (rlELaw B off 0) (rlVLaw B off 0))], gR, true, 118⟩, some ⟨.ints .u8 B, g, false, 5⟩] := by
      refine small_ofG (R := R30c B g gR off B.length) (keep := [0,1]) eQ2_ok hmN (f := 64) (fn := f64) (by kernel_rfl) (by kernel_rfl) FnOrc.nil rfl (R30c_ok ?_) R30c_val R30c_tab
      simp only [allP, Con.h, hb, q1, q2, hv, ho.2, h2, h4, decide_eq_true_eq, decide_eq_false_iff_not, not_false_eq_true, eq_self, true_and, and_true]
    exact small_nilG .u8 5 1 hc (Nat.le_refl 2)
noncomputable def sm30 : Summary := fun args T => sm30c args T (xsAt T 1) (gAt T 1) (gAt T 0) ((iOf (cAt T 0 1)).toNat) (lenOf (cAt T 0 0)) (iOf (cAt T 0 2))
theorem sm30_ok : SmOk prog (fun _ => none) 64 sm30 := fun args T h => sm30c_ok h
noncomputable def S30r : Summary := callR sm30 [true]
theorem S30r_ok : SumOk prog (fun _ => none) 64 S30r := callR_ok sm30_ok [true]
end Go.Abs

set_option linter.unusedVariables false
set_option linter.unusedSimpArgs false
set_option maxRecDepth 100000
set_option maxHeartbeats 4000000
namespace Go.Abs
open Go.Proofs Go.Proofs.Try
end Go.Abs

set_option linter.unusedVariables false
set_option linter.unusedSimpArgs false
set_option maxRecDepth 100000
set_option maxHeartbeats 4000000
namespace Go.Abs
open Go.Proofs Go.Proofs.Try
/-! ### demands -/
noncomputable def nS48 : Summary := sumI modeO (eN0 []) f48 [] 100 [] []
theorem nS48_ok : SumOk prog (fun _ => none) 48 nS48 := sumI_ok eN0_ok hmN (fn := f48) (by kernel_rfl) (by kernel_rfl) [] FnOrc.nil 100 [] []
noncomputable def nP48 : Summary := sumP modeO (eN0 []) [] f48 100 1 [] []
theorem nP48_ok : SumOkP prog (fun _ => none) 48 nP48 := sumP_ok eN0_ok hmN PsOk.nil (fn := f48) (by kernel_rfl) 100 1 [] []
noncomputable def psN0 : List (Nat × Summary) := [(48, nP48)]
theorem psN0_ok : PsOk prog (fun _ => none) psN0 := PsOk.cons (fn := f48) nP48_ok (by kernel_rfl) (by kernel_rfl) (by kernel_rfl) PsOk.nil
noncomputable def eM0 : Env := eN0 [(48, nS48)]
theorem eM0_ok : EnvOk eM0 := envOf_ok tysN_ok (SumsOk.cons (fn := f48) nS48_ok (by kernel_rfl) (by kernel_rfl) (by kernel_rfl) trivial)
noncomputable def nS69 : Summary := sumI modeO eM0 f69 [] 100 [some true] []
theorem nS69_ok : SumOk prog (fun _ => none) 69 nS69 := sumI_ok eM0_ok hmN (fn := f69) (by kernel_rfl) (by kernel_rfl) [] FnOrc.nil 100 [some true] []
noncomputable def nP69 : Summary := sumP modeO (eN0 []) psN0 f69 100 0 [some false] []
theorem nP69_ok : SumOkP prog (fun _ => none) 69 nP69 := sumP_ok eN0_ok hmN psN0_ok (fn := f69) (by kernel_rfl) 100 0 [some false] []
noncomputable def psN1 : List (Nat × Summary) := [(48, nP48), (69, nP69)]
theorem psN1_ok : PsOk prog (fun _ => none) psN1 := PsOk.cons (fn := f48) nP48_ok (by kernel_rfl) (by kernel_rfl) (by kernel_rfl) (PsOk.cons (fn := f69) nP69_ok (by kernel_rfl) (by kernel_rfl) (by kernel_rfl) PsOk.nil)
noncomputable def eM1 : Env := eN0 [(48, nS48), (69, nS69)]
theorem eM1_ok : EnvOk eM1 := envOf_ok tysN_ok (SumsOk.cons (fn := f48) nS48_ok (by kernel_rfl) (by kernel_rfl) (by kernel_rfl) (SumsOk.cons (fn := f69) nS69_ok (by kernel_rfl) (by kernel_rfl) (by kernel_rfl) trivial))
end Go.Abs

set_option linter.unusedVariables false
set_option linter.unusedSimpArgs false
set_option maxRecDepth 100000
set_option maxHeartbeats 4000000
namespace Go.Abs
open Go.Proofs Go.Proofs.Try
/-! ### may a leaf be? -/
def RightN (n1 n2 n3 : Nat) (s : Int) (n4 n5 : Nat) : Prop := n1 = 32 ∧ n2 = 32 ∧ n5 = 64 ∧ 1 ≤ n3 ∧ n3 ≤ 64 ∧ 1 ≤ s ∧ s ≤ 3 ∧ (n4 = 0 ∨ n4 = 32 ∧ s = 3)
instance (n1 n2 n3 : Nat) (s : Int) (n4 n5 : Nat) : Decidable (RightN n1 n2 n3 s n4 n5) := by unfold RightN; exact inferInstance
noncomputable def nR37e (a b c d z : List Int) (g1 g2 g3 g4 g5 n1 n2 n3 n4 n5 : Nat) (s : Int) : Res := runF eM1 f37 [] 400 [.agg [.slice 1 0 g1 0 n1 none, .slice 1 1 g2 0 n2 none, .slice 1 2 g3 0 n3 none, .int .i64 s, .slice 1 3 g4 0 n4 none, .slice 1 4 g5 0 n5 none]] [some ⟨.ints .u8 a, g1, false, 5⟩, some ⟨.ints .u8 b, g2, false, 5⟩, some ⟨.ints .u8 c, g3, false, 5⟩, some ⟨.ints .u8 d, g4, false, 5⟩, some ⟨.ints .u8 z, g5, false, 5⟩] [some true, some true, some true, some true, some true]
theorem nR37e_ok {a b c d z : List Int} {g1 g2 g3 g4 g5 n1 n2 n3 n4 n5 : Nat} {s : Int} (h : allP [.eqN g1 g1, .eqN g1 g1, .p (((↑n1 : Int) == 32) = true), .eqN g2 g2, .eqN g2 g2, .p (((↑n2 : Int) == 32) = true), .eqN g5 g5, .eqN g5 g5, .p (((↑n5 : Int) == 64) = true), .eqN g3 g3, .p (decide (1 ≤ (↑n3 : Int)) = true), .eqN g3 g3, .p (decide ((↑n3 : Int) ≤ 64) = true), .p (decide (1 ≤ s) = true), .p
 (decide (s ≤ 3) = true), .eqN g4 g4, .p (((↑n4 : Int) == 0) = true)]) : OkR (nR37e a b c d z g1 g2 g3 g4 g5 n1 n2 n3 n4 n5 s) := OkR.dem (fl := bitsF 41 513040740807) (by kernel_rfl) (by kernel_rfl) (by kernel_rfl) h
theorem nR37e_val {a b c d z : List Int} {g1 g2 g3 g4 g5 n1 n2 n3 n4 n5 : Nat} {s : Int} : (nR37e a b c d z g1 g2 g3 g4 g5 n1 n2 n3 n4 n5 s).val = .tuple [] := by kernel_rfl
theorem nR37e_tab {a b c d z : List Int} {g1 g2 g3 g4 g5 n1 n2 n3 n4 n5 : Nat} {s : Int} : (nR37e a b c d z g1 g2 g3 g4 g5 n1 n2 n3 n4 n5 s).tab = [some ⟨.ints .u8 a, g1, false, 5⟩, some ⟨.ints .u8 b, g2, false, 5⟩, some ⟨.ints .u8 c, g3, false, 5⟩, some ⟨.ints .u8 d, g4, false, 5⟩, some ⟨.ints .u8 z, g5, false, 5⟩, some ⟨.agg [.slice 1 0 g1 0 n1 none, .slice 1 1 g2 0 n2 none, .slice 1 2 g3 0 n3
 none, .int .i64 s, .slice 1 3 g4 0 n4 none, .slice 1 4 g5 0 n5 none], 0, true, 26⟩] := by kernel_rfl
noncomputable def nR37h (a b c d z : List Int) (g1 g2 g3 g4 g5 n1 n2 n3 n4 n5 : Nat) (s : Int) : Res := runF eM1 f37 [] 400 [.agg [.slice 1 0 g1 0 n1 none, .slice 1 1 g2 0 n2 none, .slice 1 2 g3 0 n3 none, .int .i64 s, .slice 1 3 g4 0 n4 none, .slice 1 4 g5 0 n5 none]] [some ⟨.ints .u8 a, g1, false, 5⟩, some ⟨.ints .u8 b, g2, false, 5⟩, some ⟨.ints .u8 c, g3, false, 5⟩, some ⟨.ints .u8 d, g4, false, 5⟩, some ⟨.ints .u8 z, g5, false, 5⟩] [some true, some true, some true, some true, some false, some true, some true]
theorem nR37h_ok {a b c d z : List Int} {g1 g2 g3 g4 g5 n1 n2 n3 n4 n5 : Nat} {s : Int} (h : allP [.eqN g1 g1, .eqN g1 g1, .p (((↑n1 : Int) == 32) = true), .eqN g2 g2, .eqN g2 g2, .p (((↑n2 : Int) == 32) = true), .eqN g5 g5, .eqN g5 g5, .p (((↑n5 : Int) == 64) = true), .eqN g3 g3, .p (decide (1 ≤ (↑n3 : Int)) = true), .eqN g3 g3, .p (decide ((↑n3 : Int) ≤ 64) = true), .p (decide (1 ≤ s) = true), .p
 (decide (s ≤ 3) = true), .eqN g4 g4, .p (((↑n4 : Int) == 0) = false), .eqN g4 g4, .p (((↑n4 : Int) == 32) = true), .p ((s == 3) = true)]) : OkR (nR37h a b c d z g1 g2 g3 g4 g5 n1 n2 n3 n4 n5 s) := OkR.dem (fl := bitsF 50 508487412773319) (by kernel_rfl) (by kernel_rfl) (by kernel_rfl) h
theorem nR37h_val {a b c d z : List Int} {g1 g2 g3 g4 g5 n1 n2 n3 n4 n5 : Nat} {s : Int} : (nR37h a b c d z g1 g2 g3 g4 g5 n1 n2 n3 n4 n5 s).val = .tuple [] := by kernel_rfl
theorem nR37h_tab {a b c d z : List Int} {g1 g2 g3 g4 g5 n1 n2 n3 n4 n5 : Nat} {s : Int} : (nR37h a b c d z g1 g2 g3 g4 g5 n1 n2 n3 n4 n5 s).tab = [some ⟨.ints .u8 a, g1, false, 5⟩, some ⟨.ints .u8 b, g2, false, 5⟩, some ⟨.ints .u8 c, g3, false, 5⟩, some ⟨.ints .u8 d, g4, false, 5⟩, some ⟨.ints .u8 z, g5, false, 5⟩, some ⟨.agg [.slice 1 0 g1 0 n1 none, .slice 1 1 g2 0 n2 none, .slice 1 2 g3 0 n3
 none, .int .i64 s, .slice 1 3 g4 0 n4 none, .slice 1 4 g5 0 n5 none], 0, true, 26⟩] := by kernel_rfl
noncomputable def nP37a (a b c d z : List Int) (g1 g2 g3 g4 g5 n1 n2 n3 n4 n5 : Nat) (s : Int) : Res := fnRunP eM1 psN1 f37 400 1 [.agg [.slice 1 0 g1 0 n1 none, .slice 1 1 g2 0 n2 none, .slice 1 2 g3 0 n3 none, .int .i64 s, .slice 1 3 g4 0 n4 none, .slice 1 4 g5 0 n5 none]] [some ⟨.ints .u8 a, g1, false, 5⟩, some ⟨.ints .u8 b, g2, false, 5⟩, some ⟨.ints .u8 c, g3, false, 5⟩, some ⟨.ints .u8 d, g4, false, 5⟩, some ⟨.ints .u8 z, g5, false, 5⟩] []
theorem nP37a_ok {a b c d z : List Int} {g1 g2 g3 g4 g5 n1 n2 n3 n4 n5 : Nat} {s : Int} (h : allP [.eqN g1 g1, .eqN g1 g1, .p (((↑n1 : Int) == 32) = false)]) : OkR (nP37a a b c d z g1 g2 g3 g4 g5 n1 n2 n3 n4 n5 s) := OkR.dem (fl := [true, true, true, false, false, false]) (by kernel_rfl) (by kernel_rfl) (by kernel_rfl) h
theorem nP37a_val {a b c d z : List Int} {g1 g2 g3 g4 g5 n1 n2 n3 n4 n5 : Nat} {s : Int} : (nP37a a b c d z g1 g2 g3 g4 g5 n1 n2 n3 n4 n5 s).val = .iface 28 (.int .i64 1) := by kernel_rfl
theorem nP37a_tab {a b c d z : List Int} {g1 g2 g3 g4 g5 n1 n2 n3 n4 n5 : Nat} {s : Int} : (nP37a a b c d z g1 g2 g3 g4 g5 n1 n2 n3 n4 n5 s).tab = [some ⟨.ints .u8 a, g1, false, 5⟩, some ⟨.ints .u8 b, g2, false, 5⟩, some ⟨.ints .u8 c, g3, false, 5⟩, some ⟨.ints .u8 d, g4, false, 5⟩, some ⟨.ints .u8 z, g5, false, 5⟩, some ⟨.agg [.slice 1 0 g1 0 n1 none, .slice 1 1 g2 0 n2 none, .slice 1 2 g3 0 n3
 none, .int .i64 s, .slice 1 3 g4 0 n4 none, .slice 1 4 g5 0 n5 none], 0, true, 26⟩] := by kernel_rfl
noncomputable def nP37b (a b c d z : List Int) (g1 g2 g3 g4 g5 n1 n2 n3 n4 n5 : Nat) (s : Int) : Res := fnRunP eM1 psN1 f37 400 2 [.agg [.slice 1 0 g1 0 n1 none, .slice 1 1 g2 0 n2 none, .slice 1 2 g3 0 n3 none, .int .i64 s, .slice 1 3 g4 0 n4 none, .slice 1 4 g5 0 n5 none]] [some ⟨.ints .u8 a, g1, false, 5⟩, some ⟨.ints .u8 b, g2, false, 5⟩, some ⟨.ints .u8 c, g3, false, 5⟩, some ⟨.ints .u8 d, g4, false, 5⟩, some ⟨.ints .u8 z, g5, false, 5⟩] []
theorem nP37b_ok {a b c d z : List Int} {g1 g2 g3 g4 g5 n1 n2 n3 n4 n5 : Nat} {s : Int} (h : allP [.eqN g1 g1, .eqN g1 g1, .p (((↑n1 : Int) == 32) = true), .eqN g2 g2, .eqN g2 g2, .p (((↑n2 : Int) == 32) = false)]) : OkR (nP37b a b c d z g1 g2 g3 g4 g5 n1 n2 n3 n4 n5 s) := OkR.dem (fl := bitsF 12 455) (by kernel_rfl) (by kernel_rfl) (by kernel_rfl) h
theorem nP37b_val {a b c d z : List Int} {g1 g2 g3 g4 g5 n1 n2 n3 n4 n5 : Nat} {s : Int} : (nP37b a b c d z g1 g2 g3 g4 g5 n1 n2 n3 n4 n5 s).val = .iface 28 (.int .i64 1) := by kernel_rfl
theorem nP37b_tab {a b c d z : List Int} {g1 g2 g3 g4 g5 n1 n2 n3 n4 n5 : Nat} {s : Int} : (nP37b a b c d z g1 g2 g3 g4 g5 n1 n2 n3 n4 n5 s).tab = [some ⟨.ints .u8 a, g1, false, 5⟩, some ⟨.ints .u8 b, g2, false, 5⟩, some ⟨.ints .u8 c, g3, false, 5⟩, some ⟨.ints .u8 d, g4, false, 5⟩, some ⟨.ints .u8 z, g5, false, 5⟩, some ⟨.agg [.slice 1 0 g1 0 n1 none, .slice 1 1 g2 0 n2 none, .slice 1 2 g3 0 n3
 none, .int .i64 s, .slice 1 3 g4 0 n4 none, .slice 1 4 g5 0 n5 none], 0, true, 26⟩] := by kernel_rfl
noncomputable def nP37c (a b c d z : List Int) (g1 g2 g3 g4 g5 n1 n2 n3 n4 n5 : Nat) (s : Int) : Res := fnRunP eM1 psN1 f37 400 3 [.agg [.slice 1 0 g1 0 n1 none, .slice 1 1 g2 0 n2 none, .slice 1 2 g3 0 n3 none, .int .i64 s, .slice 1 3 g4 0 n4 none, .slice 1 4 g5 0 n5 none]] [some ⟨.ints .u8 a, g1, false, 5⟩, some ⟨.ints .u8 b, g2, false, 5⟩, some ⟨.ints .u8 c, g3, false, 5⟩, some ⟨.ints .u8 d, g4, false, 5⟩, some ⟨.ints .u8 z, g5, false, 5⟩] []
theorem nP37c_ok {a b c d z : List Int} {g1 g2 g3 g4 g5 n1 n2 n3 n4 n5 : Nat} {s : Int} (h : allP [.eqN g1 g1, .eqN g1 g1, .p (((↑n1 : Int) == 32) = true), .eqN g2 g2, .eqN g2 g2, .p (((↑n2 : Int) == 32) = true), .eqN g5 g5, .eqN g5 g5, .p (((↑n5 : Int) == 64) = false)]) : OkR (nP37c a b c d z g1 g2 g3 g4 g5 n1 n2 n3 n4 n5 s) := OkR.dem (fl := bitsF 18 29127) (by kernel_rfl) (by kernel_rfl) (by
 kernel_rfl) h
theorem nP37c_val {a b c d z : List Int} {g1 g2 g3 g4 g5 n1 n2 n3 n4 n5 : Nat} {s : Int} : (nP37c a b c d z g1 g2 g3 g4 g5 n1 n2 n3 n4 n5 s).val = .iface 28 (.int .i64 1) := by kernel_rfl
theorem nP37c_tab {a b c d z : List Int} {g1 g2 g3 g4 g5 n1 n2 n3 n4 n5 : Nat} {s : Int} : (nP37c a b c d z g1 g2 g3 g4 g5 n1 n2 n3 n4 n5 s).tab = [some ⟨.ints .u8 a, g1, false, 5⟩, some ⟨.ints .u8 b, g2, false, 5⟩, some ⟨.ints .u8 c, g3, false, 5⟩, some ⟨.ints .u8 d, g4, false, 5⟩, some ⟨.ints .u8 z, g5, false, 5⟩, some ⟨.agg [.slice 1 0 g1 0 n1 none, .slice 1 1 g2 0 n2 none, .slice 1 2 g3 0 n3
 none, .int .i64 s, .slice 1 3 g4 0 n4 none, .slice 1 4 g5 0 n5 none], 0, true, 26⟩] := by kernel_rfl
noncomputable def nP37d (a b c d z : List Int) (g1 g2 g3 g4 g5 n1 n2 n3 n4 n5 : Nat) (s : Int) : Res := fnRunP eM1 psN1 f37 400 4 [.agg [.slice 1 0 g1 0 n1 none, .slice 1 1 g2 0 n2 none, .slice 1 2 g3 0 n3 none, .int .i64 s, .slice 1 3 g4 0 n4 none, .slice 1 4 g5 0 n5 none]] [some ⟨.ints .u8 a, g1, false, 5⟩, some ⟨.ints .u8 b, g2, false, 5⟩, some ⟨.ints .u8 c, g3, false, 5⟩, some ⟨.ints .u8 d, g4, false, 5⟩, some ⟨.ints .u8 z, g5, false, 5⟩] [some false]
theorem nP37d_ok {a b c d z : List Int} {g1 g2 g3 g4 g5 n1 n2 n3 n4 n5 : Nat} {s : Int} (h : allP [.eqN g1 g1, .eqN g1 g1, .p (((↑n1 : Int) == 32) = true), .eqN g2 g2, .eqN g2 g2, .p (((↑n2 : Int) == 32) = true), .eqN g5 g5, .eqN g5 g5, .p (((↑n5 : Int) == 64) = true), .eqN g3 g3, .p (decide (1 ≤ (↑n3 : Int)) = false)]) : OkR (nP37d a b c d z g1 g2 g3 g4 g5 n1 n2 n3 n4 n5 s) := OkR.dem (fl := bitsF
 23 1864135) (by kernel_rfl) (by kernel_rfl) (by kernel_rfl) h
theorem nP37d_val {a b c d z : List Int} {g1 g2 g3 g4 g5 n1 n2 n3 n4 n5 : Nat} {s : Int} : (nP37d a b c d z g1 g2 g3 g4 g5 n1 n2 n3 n4 n5 s).val = .iface 28 (.int .i64 1) := by kernel_rfl
theorem nP37d_tab {a b c d z : List Int} {g1 g2 g3 g4 g5 n1 n2 n3 n4 n5 : Nat} {s : Int} : (nP37d a b c d z g1 g2 g3 g4 g5 n1 n2 n3 n4 n5 s).tab = [some ⟨.ints .u8 a, g1, false, 5⟩, some ⟨.ints .u8 b, g2, false, 5⟩, some ⟨.ints .u8 c, g3, false, 5⟩, some ⟨.ints .u8 d, g4, false, 5⟩, some ⟨.ints .u8 z, g5, false, 5⟩, some ⟨.agg [.slice 1 0 g1 0 n1 none, .slice 1 1 g2 0 n2 none, .slice 1 2 g3 0 n3
 none, .int .i64 s, .slice 1 3 g4 0 n4 none, .slice 1 4 g5 0 n5 none], 0, true, 26⟩] := by kernel_rfl
noncomputable def nP37e (a b c d z : List Int) (g1 g2 g3 g4 g5 n1 n2 n3 n4 n5 : Nat) (s : Int) : Res := fnRunP eM1 psN1 f37 400 4 [.agg [.slice 1 0 g1 0 n1 none, .slice 1 1 g2 0 n2 none, .slice 1 2 g3 0 n3 none, .int .i64 s, .slice 1 3 g4 0 n4 none, .slice 1 4 g5 0 n5 none]] [some ⟨.ints .u8 a, g1, false, 5⟩, some ⟨.ints .u8 b, g2, false, 5⟩, some ⟨.ints .u8 c, g3, false, 5⟩, some ⟨.ints .u8 d, g4, false, 5⟩, some ⟨.ints .u8 z, g5, false, 5⟩] [some true, some false]
theorem nP37e_ok {a b c d z : List Int} {g1 g2 g3 g4 g5 n1 n2 n3 n4 n5 : Nat} {s : Int} (h : allP [.eqN g1 g1, .eqN g1 g1, .p (((↑n1 : Int) == 32) = true), .eqN g2 g2, .eqN g2 g2, .p (((↑n2 : Int) == 32) = true), .eqN g5 g5, .eqN g5 g5, .p (((↑n5 : Int) == 64) = true), .eqN g3 g3, .p (decide (1 ≤ (↑n3 : Int)) = true), .eqN g3 g3, .p (decide ((↑n3 : Int) ≤ 64) = false)]) : OkR (nP37e a b c d z g1 g2
 g3 g4 g5 n1 n2 n3 n4 n5 s) := OkR.dem (fl := bitsF 28 60584391) (by kernel_rfl) (by kernel_rfl) (by kernel_rfl) h
theorem nP37e_val {a b c d z : List Int} {g1 g2 g3 g4 g5 n1 n2 n3 n4 n5 : Nat} {s : Int} : (nP37e a b c d z g1 g2 g3 g4 g5 n1 n2 n3 n4 n5 s).val = .iface 28 (.int .i64 1) := by kernel_rfl
theorem nP37e_tab {a b c d z : List Int} {g1 g2 g3 g4 g5 n1 n2 n3 n4 n5 : Nat} {s : Int} : (nP37e a b c d z g1 g2 g3 g4 g5 n1 n2 n3 n4 n5 s).tab = [some ⟨.ints .u8 a, g1, false, 5⟩, some ⟨.ints .u8 b, g2, false, 5⟩, some ⟨.ints .u8 c, g3, false, 5⟩, some ⟨.ints .u8 d, g4, false, 5⟩, some ⟨.ints .u8 z, g5, false, 5⟩, some ⟨.agg [.slice 1 0 g1 0 n1 none, .slice 1 1 g2 0 n2 none, .slice 1 2 g3 0 n3
 none, .int .i64 s, .slice 1 3 g4 0 n4 none, .slice 1 4 g5 0 n5 none], 0, true, 26⟩] := by kernel_rfl
noncomputable def nP37f (a b c d z : List Int) (g1 g2 g3 g4 g5 n1 n2 n3 n4 n5 : Nat) (s : Int) : Res := fnRunP eM1 psN1 f37 400 4 [.agg [.slice 1 0 g1 0 n1 none, .slice 1 1 g2 0 n2 none, .slice 1 2 g3 0 n3 none, .int .i64 s, .slice 1 3 g4 0 n4 none, .slice 1 4 g5 0 n5 none]] [some ⟨.ints .u8 a, g1, false, 5⟩, some ⟨.ints .u8 b, g2, false, 5⟩, some ⟨.ints .u8 c, g3, false, 5⟩, some ⟨.ints .u8 d, g4, false, 5⟩, some ⟨.ints .u8 z, g5, false, 5⟩] [some true, some true, some false]
theorem nP37f_ok {a b c d z : List Int} {g1 g2 g3 g4 g5 n1 n2 n3 n4 n5 : Nat} {s : Int} (h : allP [.eqN g1 g1, .eqN g1 g1, .p (((↑n1 : Int) == 32) = true), .eqN g2 g2, .eqN g2 g2, .p (((↑n2 : Int) == 32) = true), .eqN g5 g5, .eqN g5 g5, .p (((↑n5 : Int) == 64) = true), .eqN g3 g3, .p (decide (1 ≤ (↑n3 : Int)) = true), .eqN g3 g3, .p (decide ((↑n3 : Int) ≤ 64) = true), .p (decide (1 ≤ s) = false)])
 : OkR (nP37f a b c d z g1 g2 g3 g4 g5 n1 n2 n3 n4 n5 s) := OkR.dem (fl := bitsF 32 1939632583) (by kernel_rfl) (by kernel_rfl) (by kernel_rfl) h
theorem nP37f_val {a b c d z : List Int} {g1 g2 g3 g4 g5 n1 n2 n3 n4 n5 : Nat} {s : Int} : (nP37f a b c d z g1 g2 g3 g4 g5 n1 n2 n3 n4 n5 s).val = .iface 28 (.int .i64 1) := by kernel_rfl
theorem nP37f_tab {a b c d z : List Int} {g1 g2 g3 g4 g5 n1 n2 n3 n4 n5 : Nat} {s : Int} : (nP37f a b c d z g1 g2 g3 g4 g5 n1 n2 n3 n4 n5 s).tab = [some ⟨.ints .u8 a, g1, false, 5⟩, some ⟨.ints .u8 b, g2, false, 5⟩, some ⟨.ints .u8 c, g3, false, 5⟩, some ⟨.ints .u8 d, g4, false, 5⟩, some ⟨.ints .u8 z, g5, false, 5⟩, some ⟨.agg [.slice 1 0 g1 0 n1 none, .slice 1 1 g2 0 n2 none, .slice 1 2 g3 0 n3
 none, .int .i64 s, .slice 1 3 g4 0 n4 none, .slice 1 4 g5 0 n5 none], 0, true, 26⟩] := by kernel_rfl
noncomputable def nP37g (a b c d z : List Int) (g1 g2 g3 g4 g5 n1 n2 n3 n4 n5 : Nat) (s : Int) : Res := fnRunP eM1 psN1 f37 400 4 [.agg [.slice 1 0 g1 0 n1 none, .slice 1 1 g2 0 n2 none, .slice 1 2 g3 0 n3 none, .int .i64 s, .slice 1 3 g4 0 n4 none, .slice 1 4 g5 0 n5 none]] [some ⟨.ints .u8 a, g1, false, 5⟩, some ⟨.ints .u8 b, g2, false, 5⟩, some ⟨.ints .u8 c, g3, false, 5⟩, some ⟨.ints .u8 d, g4, false, 5⟩, some ⟨.ints .u8 z, g5, false, 5⟩] [some true, some true, some true, some false]
theorem nP37g_ok {a b c d z : List Int} {g1 g2 g3 g4 g5 n1 n2 n3 n4 n5 : Nat} {s : Int} (h : allP [.eqN g1 g1, .eqN g1 g1, .p (((↑n1 : Int) == 32) = true), .eqN g2 g2, .eqN g2 g2, .p (((↑n2 : Int) == 32) = true), .eqN g5 g5, .eqN g5 g5, .p (((↑n5 : Int) == 64) = true), .eqN g3 g3, .p (decide (1 ≤ (↑n3 : Int)) = true), .eqN g3 g3, .p (decide ((↑n3 : Int) ≤ 64) = true), .p (decide (1 ≤ s) = true), .p
 (decide (s ≤ 3) = false)]) : OkR (nP37g a b c d z g1 g2 g3 g4 g5 n1 n2 n3 n4 n5 s) := OkR.dem (fl := bitsF 36 32004403655) (by kernel_rfl) (by kernel_rfl) (by kernel_rfl) h
theorem nP37g_val {a b c d z : List Int} {g1 g2 g3 g4 g5 n1 n2 n3 n4 n5 : Nat} {s : Int} : (nP37g a b c d z g1 g2 g3 g4 g5 n1 n2 n3 n4 n5 s).val = .iface 28 (.int .i64 1) := by kernel_rfl
theorem nP37g_tab {a b c d z : List Int} {g1 g2 g3 g4 g5 n1 n2 n3 n4 n5 : Nat} {s : Int} : (nP37g a b c d z g1 g2 g3 g4 g5 n1 n2 n3 n4 n5 s).tab = [some ⟨.ints .u8 a, g1, false, 5⟩, some ⟨.ints .u8 b, g2, false, 5⟩, some ⟨.ints .u8 c, g3, false, 5⟩, some ⟨.ints .u8 d, g4, false, 5⟩, some ⟨.ints .u8 z, g5, false, 5⟩, some ⟨.agg [.slice 1 0 g1 0 n1 none, .slice 1 1 g2 0 n2 none, .slice 1 2 g3 0 n3
 none, .int .i64 s, .slice 1 3 g4 0 n4 none, .slice 1 4 g5 0 n5 none], 0, true, 26⟩] := by kernel_rfl
noncomputable def nP37h (a b c d z : List Int) (g1 g2 g3 g4 g5 n1 n2 n3 n4 n5 : Nat) (s : Int) : Res := fnRunP eM1 psN1 f37 400 5 [.agg [.slice 1 0 g1 0 n1 none, .slice 1 1 g2 0 n2 none, .slice 1 2 g3 0 n3 none, .int .i64 s, .slice 1 3 g4 0 n4 none, .slice 1 4 g5 0 n5 none]] [some ⟨.ints .u8 a, g1, false, 5⟩, some ⟨.ints .u8 b, g2, false, 5⟩, some ⟨.ints .u8 c, g3, false, 5⟩, some ⟨.ints .u8 d, g4, false, 5⟩, some ⟨.ints .u8 z, g5, false, 5⟩] [some true, some true, some true, some true, some false, some false]
theorem nP37h_ok {a b c d z : List Int} {g1 g2 g3 g4 g5 n1 n2 n3 n4 n5 : Nat} {s : Int} (h : allP [.eqN g1 g1, .eqN g1 g1, .p (((↑n1 : Int) == 32) = true), .eqN g2 g2, .eqN g2 g2, .p (((↑n2 : Int) == 32) = true), .eqN g5 g5, .eqN g5 g5, .p (((↑n5 : Int) == 64) = true), .eqN g3 g3, .p (decide (1 ≤ (↑n3 : Int)) = true), .eqN g3 g3, .p (decide ((↑n3 : Int) ≤ 64) = true), .p (decide (1 ≤ s) = true), .p
 (decide (s ≤ 3) = true), .eqN g4 g4, .p (((↑n4 : Int) == 0) = false), .eqN g4 g4, .p (((↑n4 : Int) == 32) = false)]) : OkR (nP37h a b c d z g1 g2 g3 g4 g5 n1 n2 n3 n4 n5 s) := OkR.dem (fl := bitsF 46 15906203529671) (by kernel_rfl) (by kernel_rfl) (by kernel_rfl) h
theorem nP37h_val {a b c d z : List Int} {g1 g2 g3 g4 g5 n1 n2 n3 n4 n5 : Nat} {s : Int} : (nP37h a b c d z g1 g2 g3 g4 g5 n1 n2 n3 n4 n5 s).val = .iface 28 (.int .i64 1) := by kernel_rfl
theorem nP37h_tab {a b c d z : List Int} {g1 g2 g3 g4 g5 n1 n2 n3 n4 n5 : Nat} {s : Int} : (nP37h a b c d z g1 g2 g3 g4 g5 n1 n2 n3 n4 n5 s).tab = [some ⟨.ints .u8 a, g1, false, 5⟩, some ⟨.ints .u8 b, g2, false, 5⟩, some ⟨.ints .u8 c, g3, false, 5⟩, some ⟨.ints .u8 d, g4, false, 5⟩, some ⟨.ints .u8 z, g5, false, 5⟩, some ⟨.agg [.slice 1 0 g1 0 n1 none, .slice 1 1 g2 0 n2 none, .slice 1 2 g3 0 n3
 none, .int .i64 s, .slice 1 3 g4 0 n4 none, .slice 1 4 g5 0 n5 none], 0, true, 26⟩] := by kernel_rfl
noncomputable def nP37i (a b c d z : List Int) (g1 g2 g3 g4 g5 n1 n2 n3 n4 n5 : Nat) (s : Int) : Res := fnRunP eM1 psN1 f37 400 5 [.agg [.slice 1 0 g1 0 n1 none, .slice 1 1 g2 0 n2 none, .slice 1 2 g3 0 n3 none, .int .i64 s, .slice 1 3 g4 0 n4 none, .slice 1 4 g5 0 n5 none]] [some ⟨.ints .u8 a, g1, false, 5⟩, some ⟨.ints .u8 b, g2, false, 5⟩, some ⟨.ints .u8 c, g3, false, 5⟩, some ⟨.ints .u8 d, g4, false, 5⟩, some ⟨.ints .u8 z, g5, false, 5⟩] [some true, some true, some true, some true, some false, some true, some false]
theorem nP37i_ok {a b c d z : List Int} {g1 g2 g3 g4 g5 n1 n2 n3 n4 n5 : Nat} {s : Int} (h : allP [.eqN g1 g1, .eqN g1 g1, .p (((↑n1 : Int) == 32) = true), .eqN g2 g2, .eqN g2 g2, .p (((↑n2 : Int) == 32) = true), .eqN g5 g5, .eqN g5 g5, .p (((↑n5 : Int) == 64) = true), .eqN g3 g3, .p (decide (1 ≤ (↑n3 : Int)) = true), .eqN g3 g3, .p (decide ((↑n3 : Int) ≤ 64) = true), .p (decide (1 ≤ s) = true), .p
 (decide (s ≤ 3) = true), .eqN g4 g4, .p (((↑n4 : Int) == 0) = false), .eqN g4 g4, .p (((↑n4 : Int) == 32) = true), .p ((s == 3) = false)]) : OkR (nP37i a b c d z g1 g2 g3 g4 g5 n1 n2 n3 n4 n5 s) := OkR.dem (fl := bitsF 50 508487412773319) (by kernel_rfl) (by kernel_rfl) (by kernel_rfl) h
theorem nP37i_val {a b c d z : List Int} {g1 g2 g3 g4 g5 n1 n2 n3 n4 n5 : Nat} {s : Int} : (nP37i a b c d z g1 g2 g3 g4 g5 n1 n2 n3 n4 n5 s).val = .iface 28 (.int .i64 1) := by kernel_rfl
theorem nP37i_tab {a b c d z : List Int} {g1 g2 g3 g4 g5 n1 n2 n3 n4 n5 : Nat} {s : Int} : (nP37i a b c d z g1 g2 g3 g4 g5 n1 n2 n3 n4 n5 s).tab = [some ⟨.ints .u8 a, g1, false, 5⟩, some ⟨.ints .u8 b, g2, false, 5⟩, some ⟨.ints .u8 c, g3, false, 5⟩, some ⟨.ints .u8 d, g4, false, 5⟩, some ⟨.ints .u8 z, g5, false, 5⟩, some ⟨.agg [.slice 1 0 g1 0 n1 none, .slice 1 1 g2 0 n2 none, .slice 1 2 g3 0 n3
 none, .int .i64 s, .slice 1 3 g4 0 n4 none, .slice 1 4 g5 0 n5 none], 0, true, 26⟩] := by kernel_rfl
noncomputable def nsm37c (args : List AVal) (T : Tab) (a : List Int) (b : List Int) (c : List Int) (d : List Int) (z : List Int) (g1 : Nat) (g2 : Nat) (g3 : Nat) (g4 : Nat) (g5 : Nat) (n1 : Nat) (n2 : Nat) (n3 : Nat) (n4 : Nat) (n5 : Nat) (s : Int) : Res := ⟨[.tab T [some ⟨.ints .u8 a, g1, false, 5⟩, some ⟨.ints .u8 b, g2, false, 5⟩, some ⟨.ints .u8 c, g3, false, 5⟩, some ⟨.ints .u8 d, g4, false, 5⟩, some ⟨.ints .u8 z, g5, false, 5⟩], .val (.tuple args) (.tuple [.agg [.slice 1 0 g1 0 n1 none, .slice 1 1 g2 0 n2 none, .slice 1 2 g3 0 n3 none, .int .i64 s, .slice 1 3 g4 0 n4 none, .slice 1 4 g5 0 n5 none]]), .p (RightN n1 n2 n3 s n4 n5)], un, [some ⟨.ints .u8 a, g1, false, 5⟩, some ⟨.ints .u8 b, g2, false, 5⟩, some ⟨.ints .u8 c, g3, false, 5⟩, some ⟨.ints .u8 d, g4, false, 5⟩, some ⟨.ints .u8 z, g5, false, 5⟩]⟩
theorem nsm37c_ok {args : List AVal} {T : Tab} {a : List Int} {b : List Int} {c : List Int} {d : List Int} {z : List Int} {g1 : Nat} {g2 : Nat} {g3 : Nat} {g4 : Nat} {g5 : Nat} {n1 : Nat} {n2 : Nat} {n3 : Nat} {n4 : Nat} {n5 : Nat} {s : Int} (h : allP (nsm37c args T a b c d z g1 g2 g3 g4 g5 n1 n2 n3 n4 n5 s).cs) : Small prog (fun _ => none) 37 args T (nsm37c args T a b c d z g1 g2 g3 g4 g5 n1 n2 n3 n4 n5 s).val (nsm37c args T a b c d z g1 g2 g3 g4 g5 n1 n2 n3 n4 n5 s).tab := by
  obtain ⟨hT, hv, h1, _⟩ := h
  simp only [Con.h] at hT hv h1
  injection hv with hv
  subst hT hv
  have h1 : RightN n1 n2 n3 s n4 n5 := h1
  obtain ⟨q1, q2, q3, q4, q5, q6, q7, q8⟩ := h1
  rcases q8 with q8 | ⟨q8, q9⟩
  · exact small_drop (small_of (R := nR37e a b c d z g1 g2 g3 g4 g5 n1 n2 n3 n4 n5 s) eM1_ok hmN (f := 37) (fn := f37) (by kernel_rfl) (by kernel_rfl) FnOrc.nil rfl (nR37e_ok (by
      simp only [allP, Con.h, eq_self, true_and, and_true, beq_iff_eq, beq_eq_false_iff_ne, ne_eq, decide_eq_true_eq, decide_eq_false_iff_not]
      omega)) nR37e_val nR37e_tab)
  · exact small_drop (small_of (R := nR37h a b c d z g1 g2 g3 g4 g5 n1 n2 n3 n4 n5 s) eM1_ok hmN (f := 37) (fn := f37) (by kernel_rfl) (by kernel_rfl) FnOrc.nil rfl (nR37h_ok (by
      simp only [allP, Con.h, eq_self, true_and, and_true, beq_iff_eq, beq_eq_false_iff_ne, ne_eq, decide_eq_true_eq, decide_eq_false_iff_not]
      omega)) nR37h_val nR37h_tab)
noncomputable def nsm37 : Summary := fun args T => nsm37c args T (xsAt T 0) (xsAt T 1) (xsAt T 2) (xsAt T 3) (xsAt T 4) (gAt T 0) (gAt T 1) (gAt T 2) (gAt T 3) (gAt T 4) (lenOf ((vAt args 0).get 0)) (lenOf ((vAt args 0).get 1)) (lenOf ((vAt args 0).get 2)) (lenOf ((vAt args 0).get 4)) (lenOf ((vAt args 0).get 5)) (iOf ((vAt args 0).get 3))
theorem nsm37_ok : SmOk prog (fun _ => none) 37 nsm37 := fun args T h => nsm37c_ok h
noncomputable def nS37 : Summary := callR nsm37 []
theorem nS37_ok : SumOk prog (fun _ => none) 37 nS37 := callR_ok nsm37_ok []
noncomputable def nsm37pc (args : List AVal) (T : Tab) (a : List Int) (b : List Int) (c : List Int) (d : List Int) (z : List Int) (g1 : Nat) (g2 : Nat) (g3 : Nat) (g4 : Nat) (g5 : Nat) (n1 : Nat) (n2 : Nat) (n3 : Nat) (n4 : Nat) (n5 : Nat) (s : Int) : Res := ⟨[.tab T [some ⟨.ints .u8 a, g1, false, 5⟩, some ⟨.ints .u8 b, g2, false, 5⟩, some ⟨.ints .u8 c, g3, false, 5⟩, some ⟨.ints .u8 d, g4, false, 5⟩, some ⟨.ints .u8 z, g5, false, 5⟩], .val (.tuple args) (.tuple [.agg [.slice 1 0 g1 0 n1 none, .slice 1 1 g2 0 n2 none, .slice 1 2 g3 0 n3 none, .int .i64 s, .slice 1 3 g4 0 n4 none, .slice 1 4 g5 0 n5 none]]), .p (¬ RightN n1 n2 n3 s n4 n5)], (.iface 28 (.int .i64 1)), [some ⟨.ints .u8 a, g1, false, 5⟩, some ⟨.ints .u8 b, g2, false, 5⟩, some ⟨.ints .u8 c, g3, false, 5⟩, some ⟨.ints .u8 d, g4, false, 5⟩, some ⟨.ints .u8 z, g5, false, 5⟩]⟩
theorem nsm37pc_ok {args : List AVal} {T : Tab} {a : List Int} {b : List Int} {c : List Int} {d : List Int} {z : List Int} {g1 : Nat} {g2 : Nat} {g3 : Nat} {g4 : Nat} {g5 : Nat} {n1 : Nat} {n2 : Nat} {n3 : Nat} {n4 : Nat} {n5 : Nat} {s : Int} (h : allP (nsm37pc args T a b c d z g1 g2 g3 g4 g5 n1 n2 n3 n4 n5 s).cs) : SmallE finP prog (fun _ => none) 37 args T (nsm37pc args T a b c d z g1 g2 g3 g4 g5 n1 n2 n3 n4 n5 s).val (nsm37pc args T a b c d z g1 g2 g3 g4 g5 n1 n2 n3 n4 n5 s).tab := by
  obtain ⟨hT, hv, h1, _⟩ := h
  simp only [Con.h] at hT hv h1
  injection hv with hv
  subst hT hv
  have h1 : ¬ RightN n1 n2 n3 s n4 n5 := h1
  unfold RightN at h1
  by_cases qa : n1 = 32
  rotate_left
  · exact small_drop (small_ofP (R := nP37a a b c d z g1 g2 g3 g4 g5 n1 n2 n3 n4 n5 s) eM1_ok hmN psN1_ok (f := 37) (fn := f37) (by kernel_rfl) rfl (nP37a_ok (by
      simp only [allP, Con.h, eq_self, true_and, and_true, beq_iff_eq, beq_eq_false_iff_ne, ne_eq, decide_eq_true_eq, decide_eq_false_iff_not]
      omega)) nP37a_val nP37a_tab)
  by_cases qb : n2 = 32
  rotate_left
  · exact small_drop (small_ofP (R := nP37b a b c d z g1 g2 g3 g4 g5 n1 n2 n3 n4 n5 s) eM1_ok hmN psN1_ok (f := 37) (fn := f37) (by kernel_rfl) rfl (nP37b_ok (by
      simp only [allP, Con.h, eq_self, true_and, and_true, beq_iff_eq, beq_eq_false_iff_ne, ne_eq, decide_eq_true_eq, decide_eq_false_iff_not]
      omega)) nP37b_val nP37b_tab)
  by_cases qc : n5 = 64
  rotate_left
  · exact small_drop (small_ofP (R := nP37c a b c d z g1 g2 g3 g4 g5 n1 n2 n3 n4 n5 s) eM1_ok hmN psN1_ok (f := 37) (fn := f37) (by kernel_rfl) rfl (nP37c_ok (by
      simp only [allP, Con.h, eq_self, true_and, and_true, beq_iff_eq, beq_eq_false_iff_ne, ne_eq, decide_eq_true_eq, decide_eq_false_iff_not]
      omega)) nP37c_val nP37c_tab)
  by_cases qd : 1 ≤ n3
  rotate_left
  · exact small_drop (small_ofP (R := nP37d a b c d z g1 g2 g3 g4 g5 n1 n2 n3 n4 n5 s) eM1_ok hmN psN1_ok (f := 37) (fn := f37) (by kernel_rfl) rfl (nP37d_ok (by
      simp only [allP, Con.h, eq_self, true_and, and_true, beq_iff_eq, beq_eq_false_iff_ne, ne_eq, decide_eq_true_eq, decide_eq_false_iff_not]
      omega)) nP37d_val nP37d_tab)
  by_cases qe : n3 ≤ 64
  rotate_left
  · exact small_drop (small_ofP (R := nP37e a b c d z g1 g2 g3 g4 g5 n1 n2 n3 n4 n5 s) eM1_ok hmN psN1_ok (f := 37) (fn := f37) (by kernel_rfl) rfl (nP37e_ok (by
      simp only [allP, Con.h, eq_self, true_and, and_true, beq_iff_eq, beq_eq_false_iff_ne, ne_eq, decide_eq_true_eq, decide_eq_false_iff_not]
      omega)) nP37e_val nP37e_tab)
  by_cases qf : 1 ≤ s
  rotate_left
  · exact small_drop (small_ofP (R := nP37f a b c d z g1 g2 g3 g4 g5 n1 n2 n3 n4 n5 s) eM1_ok hmN psN1_ok (f := 37) (fn := f37) (by kernel_rfl) rfl (nP37f_ok (by
      simp only [allP, Con.h, eq_self, true_and, and_true, beq_iff_eq, beq_eq_false_iff_ne, ne_eq, decide_eq_true_eq, decide_eq_false_iff_not]
      omega)) nP37f_val nP37f_tab)
  by_cases qg : s ≤ 3
  rotate_left
  · exact small_drop (small_ofP (R := nP37g a b c d z g1 g2 g3 g4 g5 n1 n2 n3 n4 n5 s) eM1_ok hmN psN1_ok (f := 37) (fn := f37) (by kernel_rfl) rfl (nP37g_ok (by
      simp only [allP, Con.h, eq_self, true_and, and_true, beq_iff_eq, beq_eq_false_iff_ne, ne_eq, decide_eq_true_eq, decide_eq_false_iff_not]
      omega)) nP37g_val nP37g_tab)
  by_cases qh : n4 = 0 ∨ n4 = 32
  rotate_left
  · exact small_drop (small_ofP (R := nP37h a b c d z g1 g2 g3 g4 g5 n1 n2 n3 n4 n5 s) eM1_ok hmN psN1_ok (f := 37) (fn := f37) (by kernel_rfl) rfl (nP37h_ok (by
      simp only [allP, Con.h, eq_self, true_and, and_true, beq_iff_eq, beq_eq_false_iff_ne, ne_eq, decide_eq_true_eq, decide_eq_false_iff_not]
      omega)) nP37h_val nP37h_tab)
  by_cases qi : n4 = 0 ∨ s = 3
  rotate_left
  · exact small_drop (small_ofP (R := nP37i a b c d z g1 g2 g3 g4 g5 n1 n2 n3 n4 n5 s) eM1_ok hmN psN1_ok (f := 37) (fn := f37) (by kernel_rfl) rfl (nP37i_ok (by
      simp only [allP, Con.h, eq_self, true_and, and_true, beq_iff_eq, beq_eq_false_iff_ne, ne_eq, decide_eq_true_eq, decide_eq_false_iff_not]
      omega)) nP37i_val nP37i_tab)
  exfalso
  omega
noncomputable def nsm37p : Summary := fun args T => nsm37pc args T (xsAt T 0) (xsAt T 1) (xsAt T 2) (xsAt T 3) (xsAt T 4) (gAt T 0) (gAt T 1) (gAt T 2) (gAt T 3) (gAt T 4) (lenOf ((vAt args 0).get 0)) (lenOf ((vAt args 0).get 1)) (lenOf ((vAt args 0).get 2)) (lenOf ((vAt args 0).get 4)) (lenOf ((vAt args 0).get 5)) (iOf ((vAt args 0).get 3))
theorem nsm37p_ok : SmOkP prog (fun _ => none) 37 nsm37p := fun args T h => nsm37pc_ok h
noncomputable def nP37 : Summary := callR nsm37p []
theorem nP37_ok : SumOkP prog (fun _ => none) 37 nP37 := callR_okP nsm37p_ok []
end Go.Abs

set_option linter.unusedVariables false
set_option linter.unusedSimpArgs false
set_option maxRecDepth 100000
set_option maxHeartbeats 4000000
namespace Go.Abs
open Go.Proofs Go.Proofs.Try
end Go.Abs

set_option linter.unusedVariables false
set_option linter.unusedSimpArgs false
set_option maxRecDepth 100000
set_option maxHeartbeats 4000000
namespace Go.Abs
open Go.Proofs Go.Proofs.Try
end Go.Abs

set_option linter.unusedVariables false
set_option linter.unusedSimpArgs false
set_option maxRecDepth 100000
namespace Go.Abs
open Go.Proofs Go.Proofs.Try
theorem iand_mod {a : Int} (k : Nat) (ha : 0 ≤ a) : iand a ((2 : Int) ^ k - 1) = a % 2 ^ k := by
  obtain ⟨n, rfl⟩ := Int.eq_ofNat_of_zero_le ha
  have e : ((2 : Int) ^ k - 1) = ((2 ^ k - 1 : Nat) : Int) := by
    have : 1 ≤ 2 ^ k := Nat.one_le_two_pow
    rw [Int.ofNat_sub this]
    simp
  unfold iand
  rw [e, Int.toNat_natCast, Int.toNat_natCast, Nat.and_two_pow_sub_one_eq_mod]
  simp
end Go.Abs

set_option linter.unusedVariables false
set_option linter.unusedSimpArgs false
set_option maxRecDepth 100000
set_option maxHeartbeats 4000000
namespace Go.Abs
open Go.Proofs Go.Proofs.Try
end Go.Abs

set_option linter.unusedVariables false
set_option linter.unusedSimpArgs false
set_option maxRecDepth 100000
set_option maxHeartbeats 4000000
namespace Go.Abs
open Go.Proofs Go.Proofs.Try
end Go.Abs

set_option linter.unusedVariables false
set_option linter.unusedSimpArgs false
set_option maxRecDepth 100000
set_option maxHeartbeats 4000000
namespace Go.Abs
open Go.Proofs Go.Proofs.Try
end Go.Abs

set_option linter.unusedVariables false
set_option linter.unusedSimpArgs false
set_option maxRecDepth 100000
set_option maxHeartbeats 4000000
namespace Go.Abs
open Go.Proofs Go.Proofs.Try
end Go.Abs

set_option linter.unusedVariables false
set_option linter.unusedSimpArgs false
set_option maxRecDepth 100000
namespace Go.Abs
open Go.Proofs Go.Proofs.Try
end Go.Abs

set_option linter.unusedVariables false
set_option linter.unusedSimpArgs false
set_option maxRecDepth 100000
set_option maxHeartbeats 4000000
namespace Go.Abs
open Go.Proofs Go.Proofs.Try
end Go.Abs

set_option linter.unusedVariables false
set_option linter.unusedSimpArgs false
set_option maxRecDepth 100000
set_option maxHeartbeats 4000000
namespace Go.Abs
open Go.Proofs Go.Proofs.Try
end Go.Abs

set_option linter.unusedVariables false
set_option linter.unusedSimpArgs false
set_option maxRecDepth 100000
set_option maxHeartbeats 4000000
namespace Go.Abs
open Go.Proofs Go.Proofs.Try
end Go.Abs

set_option linter.unusedVariables false
set_option linter.unusedSimpArgs false
set_option maxRecDepth 100000
set_option maxHeartbeats 4000000
namespace Go.Abs
open Go.Proofs Go.Proofs.Try
/-! ### Vectors: one behind the other -/
def vec1Law (bs : List Int) : List Int := lenLaw bs.length ++ bs
def FitZLaw (Y : List (List Int)) : Prop := ∀ b ∈ Y, b.length ≤ 65536
instance (Y : List (List Int)) : Decidable (FitZLaw Y) := by unfold FitZLaw; exact inferInstance
end Go.Abs

set_option linter.unusedVariables false
set_option linter.unusedSimpArgs false
set_option maxRecDepth 100000
set_option maxHeartbeats 4000000
namespace Go.Abs
open Go.Proofs Go.Proofs.Try
end Go.Abs

set_option linter.unusedVariables false
set_option linter.unusedSimpArgs false
set_option maxRecDepth 100000
set_option maxHeartbeats 4000000
namespace Go.Abs
open Go.Proofs Go.Proofs.Try
end Go.Abs

set_option linter.unusedVariables false
set_option linter.unusedSimpArgs false
set_option maxRecDepth 100000
set_option maxHeartbeats 4000000
namespace Go.Abs
open Go.Proofs Go.Proofs.Try
end Go.Abs

set_option linter.unusedVariables false
set_option linter.unusedSimpArgs false
set_option maxRecDepth 100000
set_option maxHeartbeats 4000000
namespace Go.Abs
open Go.Proofs Go.Proofs.Try
end Go.Abs

set_option linter.unusedVariables false
set_option linter.unusedSimpArgs false
set_option maxRecDepth 100000
set_option maxHeartbeats 4000000
namespace Go.Abs
open Go.Proofs Go.Proofs.Try
end Go.Abs

set_option linter.unusedVariables false
set_option linter.unusedSimpArgs false
set_option maxRecDepth 100000
set_option maxHeartbeats 4000000
namespace Go.Abs
open Go.Proofs Go.Proofs.Try
end Go.Abs

set_option linter.unusedVariables false
set_option linter.unusedSimpArgs false
set_option maxRecDepth 100000
set_option maxHeartbeats 4000000
namespace Go.Abs
open Go.Proofs Go.Proofs.Try
end Go.Abs

set_option linter.unusedVariables false
set_option linter.unusedSimpArgs false
set_option maxRecDepth 100000
set_option maxHeartbeats 4000000
namespace Go.Abs
open Go.Proofs Go.Proofs.Try
/-! ### vectors: what is read is what was written -/
theorem drop_get {B : List Int} {off : Nat} (h : off < B.length) : B.drop off = B.getD off 0 :: B.drop (off + 1) := by
  rw [List.drop_eq_getElem_cons h, List.getD_eq_getElem?_getD, List.getElem?_eq_getElem h]; rfl
theorem rl_canon {B : List Int} {off : Nat} (hb : ByLaw B) (he : rlELaw B off 0 = 0) :
    0 ≤ rlVLaw B off 0 ∧ off < rlOLaw B off 0 ∧ rlOLaw B off 0 ≤ B.length ∧ B.drop off = lenLaw (rlVLaw B off 0) ++ B.drop (rlOLaw B off 0) := by
  unfold rlELaw at he
  unfold rlVLaw rlOLaw
  by_cases hz : B.length - off = 0
  · rw [rl_z hz] at he; cases he
  have h0 := hb off
  have hlt : off < B.length := by omega
  have d0 := drop_get hlt
  by_cases t3 : B.getD off 0 / 64 = 3
  · rw [rl_f hz t3] at he; cases he
  by_cases t0 : B.getD off 0 / 64 = 0
  · rw [rl_0 hz t0] at he ⊢
    have hv : iand (numAtLaw 1 B off) 63 = B.getD off 0 := by
      have e : numAtLaw 1 B off = B.getD off 0 := by show beN 1 _ _ = _; unfold beN beN; rw [Nat.add_zero]; omega
      rw [e]
      have := iand_mod (a := B.getD off 0) 6 h0.1
      rw [show ((2 : Int) ^ 6 - 1) = 63 by decide, show ((2 : Int) ^ 6) = 64 by decide] at this
      rw [this]; omega
    rw [rlT_g (by omega) (by rw [hv]; omega), hv]
    simp only
    refine ⟨h0.1, by omega, by omega, ?_⟩
    rw [(len_a h0.1 (by omega)).1, d0]
    have : B.getD off 0 / 1 % 256 = B.getD off 0 := by omega
    rw [this]; rfl
  by_cases t1 : B.getD off 0 / 64 = 1
  · rw [rl_1 hz t1] at he ⊢
    by_cases hs : B.length - off < 2
    · rw [rlT_s hs] at he; cases he
    have h1 := hb (off + 1)
    have d1 := drop_get (B := B) (off := off + 1) (by omega)
    have hv : iand (numAtLaw 2 B off) 16383 = B.getD off 0 * 256 + B.getD (off + 1) 0 - 16384 := by
      have e : numAtLaw 2 B off = B.getD off 0 * 256 + B.getD (off + 1) 0 := by show beN 2 _ _ = _; unfold beN beN beN; rw [Nat.add_zero]; omega
      rw [e]
      have := iand_mod (a := B.getD off 0 * 256 + B.getD (off + 1) 0) 14 (by omega)
      rw [show ((2 : Int) ^ 14 - 1) = 16383 by decide, show ((2 : Int) ^ 14) = 16384 by decide] at this
      rw [this]; omega
    by_cases hl : iand (numAtLaw 2 B off) 16383 < 64
    · rw [rlT_b hs hl] at he; cases he
    rw [rlT_g hs hl]
    simp only
    rw [hv] at hl ⊢
    refine ⟨by omega, by omega, by omega, ?_⟩
    rw [(len_b (by omega) (by omega)).1, d0, d1]
    have e1 : (B.getD off 0 * 256 + B.getD (off + 1) 0 - 16384 + 16384) / 256 % 256 = B.getD off 0 := by omega
    have e2 : (B.getD off 0 * 256 + B.getD (off + 1) 0 - 16384 + 16384) / 1 % 256 = B.getD (off + 1) 0 := by omega
    rw [e1, e2]; rfl
  · have t2 : B.getD off 0 / 64 = 2 := by omega
    rw [rl_2 hz t2] at he ⊢
    by_cases hs : B.length - off < 4
    · rw [rlT_s hs] at he; cases he
    have h1 := hb (off + 1)
    have h2 := hb (off + 2)
    have h3 := hb (off + 3)
    have d1 := drop_get (B := B) (off := off + 1) (by omega)
    have d2 := drop_get (B := B) (off := off + 2) (by omega)
    have d3 := drop_get (B := B) (off := off + 3) (by omega)
    have e : numAtLaw 4 B off = ((B.getD off 0 * 256 + B.getD (off + 1) 0) * 256 + B.getD (off + 2) 0) * 256 + B.getD (off + 3) 0 := by show beN 4 _ _ = _; unfold beN beN beN beN beN; rw [Nat.add_zero]; omega
    have hv : iand (numAtLaw 4 B off) 1073741823 = ((B.getD off 0 * 256 + B.getD (off + 1) 0) * 256 + B.getD (off + 2) 0) * 256 + B.getD (off + 3) 0 - 2147483648 := by
      rw [e]
      have := iand_mod (a := ((B.getD off 0 * 256 + B.getD (off + 1) 0) * 256 + B.getD (off + 2) 0) * 256 + B.getD (off + 3) 0) 30 (by omega)
      rw [show ((2 : Int) ^ 30 - 1) = 1073741823 by decide, show ((2 : Int) ^ 30) = 1073741824 by decide] at this
      rw [this]; omega
    by_cases hl : iand (numAtLaw 4 B off) 1073741823 < 16384
    · rw [rlT_b hs hl] at he; cases he
    rw [rlT_g hs hl]
    simp only
    rw [hv] at hl ⊢
    refine ⟨by omega, by omega, by omega, ?_⟩
    rw [(len_c (by omega) (by omega)).1, d0, d1, d2, d3]
    generalize B.getD off 0 = b0 at *
    generalize B.getD (off + 1) 0 = b1 at *
    generalize B.getD (off + 2) 0 = b2 at *
    generalize B.getD (off + 3) 0 = b3 at *
    have e1 : (((b0 * 256 + b1) * 256 + b2) * 256 + b3 - 2147483648 + 2147483648) / 16777216 % 256 = b0 := by omega
    have e2 : (((b0 * 256 + b1) * 256 + b2) * 256 + b3 - 2147483648 + 2147483648) / 65536 % 256 = b1 := by omega
    have e3 : (((b0 * 256 + b1) * 256 + b2) * 256 + b3 - 2147483648 + 2147483648) / 256 % 256 = b2 := by omega
    have e4 : (((b0 * 256 + b1) * 256 + b2) * 256 + b3 - 2147483648 + 2147483648) / 1 % 256 = b3 := by omega
    rw [e1, e2, e3, e4]; rfl
theorem rv_canon {C : List Int} {off : Nat} (hb : ByLaw C) (he : rvELaw C off 0 = 0) :
    (rvVLaw C off 0).length ≤ 65536 ∧ off < rvOLaw C off 0 ∧ rvOLaw C off 0 ≤ C.length ∧ C.drop off = vec1Law (rvVLaw C off 0) ++ C.drop (rvOLaw C off 0) := by
  by_cases h2 : rtELaw C (rlOLaw C off 0) (rvE1 C off) (rlVLaw C off 0) ≠ 0
  · unfold rvELaw at he
    rw [rv_w rfl h2] at he
    exact absurd he h2
  have h2 : rtELaw C (rlOLaw C off 0) (rvE1 C off) (rlVLaw C off 0) = 0 := Classical.not_not.1 h2
  unfold rvVLaw rvOLaw
  rw [rv_g rfl h2]
  have e1 : rvE1 C off = 0 := by
    by_cases h : rvE1 C off = 0
    · exact h
    · rw [rtE_e _ h] at h2; exact h2
  have hE : rlELaw C off 0 = 0 ∧ rlVLaw C off 0 ≤ 65536 := by
    unfold rvE1 at e1
    split at e1
    · cases e1
    · rename_i hn
      refine ⟨e1, ?_⟩
      rw [e1] at hn
      omega
  obtain ⟨hE, hV⟩ := hE
  obtain ⟨c1, c2, c3, c4⟩ := rl_canon hb hE
  rw [e1] at h2 ⊢
  obtain ⟨m, hm⟩ := Int.eq_ofNat_of_zero_le c1
  rw [hm] at h2 hV c4 ⊢
  by_cases h3 : ((C.length - rlOLaw C off 0 : Nat) : Int) < m
  · unfold rtELaw at h2
    rw [rt_s (by omega) h3] at h2; cases h2
  unfold rtVLaw rtOLaw
  rw [rt_g h3]
  simp only
  have hl : (subLaw C (rlOLaw C off 0) m).length = m := by unfold subLaw; rw [List.length_take, List.length_drop]; omega
  refine ⟨by rw [hl]; omega, by omega, by omega, ?_⟩
  unfold vec1Law
  rw [hl, c4, List.append_assoc]
  congr 1
  unfold subLaw
  rw [← List.drop_drop, List.take_append_drop]
end Go.Abs

set_option linter.unusedVariables false
set_option linter.unusedSimpArgs false
set_option maxRecDepth 100000
set_option maxHeartbeats 4000000
namespace Go.Abs
open Go.Proofs Go.Proofs.Try
/-! ### vectors of one, and of three -/
noncomputable def eM2 : Env := eN0 [(89, S18c)]
theorem eM2_ok : EnvOk eM2 := envOf_ok tysN_ok (SumsOk.cons (fn := f89) S18c_ok (by kernel_rfl) (by kernel_rfl) (by kernel_rfl) trivial)
noncomputable def nR71a (a : List Int) (g1 n1 gO : Nat) (c1 : Option Nat) (ow ow1 : Bool) : Res := resG 2 [0, 1, 3] (runF eM2 f71 [] 400 [.slice 1 0 gO 0 1 (some 1)] [some ⟨.agg [.slice 1 1 g1 0 n1 c1], gO, ow, 22⟩, some ⟨.ints .u8 a, g1, ow1, 5⟩] [none, some false, none])
theorem nR71a_ok {a : List Int} {g1 n1 gO : Nat} {c1 : Option Nat} {ow ow1 : Bool} (h : allP [.eqN gO gO, .eqN gO gO, .eqN gO gO, .eqN g1 g1, .p (decide (65536 < (↑n1 : Int)) = false), .eqN g1 g1, .leN (lenLaw (↑n1 : Int)).length 140737488355328, .leN (0 + (lenLaw (↑n1 : Int)).length) (lenLaw (↑n1 : Int)).length, .leN (0 + (lenLaw (↑n1 : Int)).length) ([] ++ List.take (lenLaw (↑n1 : Int)).length
 (lenLaw (↑n1 : Int))).length, .leN (addO (lenLaw (↑n1 : Int)).length n1) 140737488355328, .eqN g1 g1, .leN (0 + n1) a.length]) : OkR (nR71a a g1 n1 gO c1 ow ow1) := OkR.dem (fl := bitsF 20 799788) (by kernel_rfl) (by kernel_rfl) (by kernel_rfl) h
theorem nR71a_val {a : List Int} {g1 n1 gO : Nat} {c1 : Option Nat} {ow ow1 : Bool} : (nR71a a g1 n1 gO c1 ow ow1).val = .tuple [.slice 1 2 1 0 (addO (lenLaw (↑n1 : Int)).length n1) none, .int .i64 0] := by kernel_rfl
theorem nR71a_tab {a : List Int} {g1 n1 gO : Nat} {c1 : Option Nat} {ow ow1 : Bool} : (nR71a a g1 n1 gO c1 ow ow1).tab = [some ⟨.agg [.slice 1 1 g1 0 n1 c1], gO, ow, 22⟩, some ⟨.ints .u8 a, g1, ow1, 5⟩, some ⟨.ints .u8 (List.take (lenLaw (↑n1 : Int)).length ([] ++ List.take (lenLaw (↑n1 : Int)).length (lenLaw (↑n1 : Int))) ++ List.take n1 a), 1, true, 5⟩] := by kernel_rfl
noncomputable def nR71c (a b c : List Int) (g1 g2 g3 n1 n2 n3 gO : Nat) (ow ow1 ow2 ow3 : Bool) : Res := resG 4 [0, 1, 2, 3, 5] (runF eM2 f71 [] 400 [.slice 1 0 gO 0 3 (some 3)] [some ⟨.agg [.slice 1 1 g1 0 n1 none, .slice 1 2 g2 0 n2 none, .slice 1 3 g3 0 n3 none], gO, ow, 22⟩, some ⟨.ints .u8 a, g1, ow1, 5⟩, some ⟨.ints .u8 b, g2, ow2, 5⟩, some ⟨.ints .u8 c, g3, ow3, 5⟩] [none, some false, none, some false, none, some false, none])
theorem nR71c_ok {a b c : List Int} {g1 g2 g3 n1 n2 n3 gO : Nat} {ow ow1 ow2 ow3 : Bool} (h : allP [.eqN gO gO, .eqN gO gO, .eqN gO gO, .eqN g1 g1, .p (decide (65536 < (↑n1 : Int)) = false), .eqN g1 g1, .leN (lenLaw (↑n1 : Int)).length 140737488355328, .leN (0 + (lenLaw (↑n1 : Int)).length) (lenLaw (↑n1 : Int)).length, .leN (0 + (lenLaw (↑n1 : Int)).length) ([] ++ List.take (lenLaw (↑n1 :
 Int)).length (lenLaw (↑n1 : Int))).length, .leN (addO (lenLaw (↑n1 : Int)).length n1) 140737488355328, .eqN g1 g1, .leN (0 + n1) a.length, .eqN gO gO, .eqN gO gO, .eqN g2 g2, .p (decide (65536 < (↑n2 : Int)) = false), .eqN g2 g2, .leN (0 + addO (lenLaw (↑n1 : Int)).length n1) (List.take (lenLaw (↑n1 : Int)).length ([] ++ List.take (lenLaw (↑n1 : Int)).length (lenLaw (↑n1 : Int))) ++ List.take n1
 a).length, .leN (addO (addO (lenLaw (↑n1 : Int)).length n1) (lenLaw (↑n2 : Int)).length) 140737488355328, .leN (0 + (lenLaw (↑n2 : Int)).length) (lenLaw (↑n2 : Int)).length, .leN (0 + addO (addO (lenLaw (↑n1 : Int)).length n1) (lenLaw (↑n2 : Int)).length) (List.take (addO (lenLaw (↑n1 : Int)).length n1) (List.take (lenLaw (↑n1 : Int)).length ([] ++ List.take (lenLaw (↑n1 : Int)).length (lenLaw (↑n1
 : Int))) ++ List.take n1 a) ++ List.take (lenLaw (↑n2 : Int)).length (lenLaw (↑n2 : Int))).length, .leN (addO (addO (addO (lenLaw (↑n1 : Int)).length n1) (lenLaw (↑n2 : Int)).length) n2) 140737488355328, .eqN g2 g2, .leN (0 + n2) b.length, .eqN gO gO, .eqN gO gO, .eqN g3 g3, .p (decide (65536 < (↑n3 : Int)) = false), .eqN g3 g3, .leN (0 + addO (addO (addO (lenLaw (↑n1 : Int)).length n1) (lenLaw
 (↑n2 : Int)).length) n2) (List.take (addO (addO (lenLaw (↑n1 : Int)).length n1) (lenLaw (↑n2 : Int)).length) (List.take (addO (lenLaw (↑n1 : Int)).length n1) (List.take (lenLaw (↑n1 : Int)).length ([] ++ List.take (lenLaw (↑n1 : Int)).length (lenLaw (↑n1 : Int))) ++ List.take n1 a) ++ List.take (lenLaw (↑n2 : Int)).length (lenLaw (↑n2 : Int))) ++ List.take n2 b).length, .leN (addO (addO (addO (addO
 (lenLaw (↑n1 : Int)).length n1) (lenLaw (↑n2 : Int)).length) n2) (lenLaw (↑n3 : Int)).length) 140737488355328, .leN (0 + (lenLaw (↑n3 : Int)).length) (lenLaw (↑n3 : Int)).length, .leN (0 + addO (addO (addO (addO (lenLaw (↑n1 : Int)).length n1) (lenLaw (↑n2 : Int)).length) n2) (lenLaw (↑n3 : Int)).length) (List.take (addO (addO (addO (lenLaw (↑n1 : Int)).length n1) (lenLaw (↑n2 : Int)).length) n2)
 (List.take (addO (addO (lenLaw (↑n1 : Int)).length n1) (lenLaw (↑n2 : Int)).length) (List.take (addO (lenLaw (↑n1 : Int)).length n1) (List.take (lenLaw (↑n1 : Int)).length ([] ++ List.take (lenLaw (↑n1 : Int)).length (lenLaw (↑n1 : Int))) ++ List.take n1 a) ++ List.take (lenLaw (↑n2 : Int)).length (lenLaw (↑n2 : Int))) ++ List.take n2 b) ++ List.take (lenLaw (↑n3 : Int)).length (lenLaw (↑n3 :
 Int))).length, .leN (addO (addO (addO (addO (addO (lenLaw (↑n1 : Int)).length n1) (lenLaw (↑n2 : Int)).length) n2) (lenLaw (↑n3 : Int)).length) n3) 140737488355328, .eqN g3 g3, .leN (0 + n3) c.length]) : OkR (nR71c a b c g1 g2 g3 n1 n2 n3 gO ow ow1 ow2 ow3) := OkR.dem (fl := bitsF 62 3517924314918433836) (by kernel_rfl) (by kernel_rfl) (by kernel_rfl) h
theorem nR71c_val {a b c : List Int} {g1 g2 g3 n1 n2 n3 gO : Nat} {ow ow1 ow2 ow3 : Bool} : (nR71c a b c g1 g2 g3 n1 n2 n3 gO ow ow1 ow2 ow3).val = .tuple [.slice 1 4 5 0 (addO (addO (addO (addO (addO (lenLaw (↑n1 : Int)).length n1) (lenLaw (↑n2 : Int)).length) n2) (lenLaw (↑n3 : Int)).length) n3) none, .int .i64 0] := by kernel_rfl
theorem nR71c_tab {a b c : List Int} {g1 g2 g3 n1 n2 n3 gO : Nat} {ow ow1 ow2 ow3 : Bool} : (nR71c a b c g1 g2 g3 n1 n2 n3 gO ow ow1 ow2 ow3).tab = [some ⟨.agg [.slice 1 1 g1 0 n1 none, .slice 1 2 g2 0 n2 none, .slice 1 3 g3 0 n3 none], gO, ow, 22⟩, some ⟨.ints .u8 a, g1, ow1, 5⟩, some ⟨.ints .u8 b, g2, ow2, 5⟩, some ⟨.ints .u8 c, g3, ow3, 5⟩, some ⟨.ints .u8 (List.take (addO (addO (addO (addO
 (lenLaw (↑n1 : Int)).length n1) (lenLaw (↑n2 : Int)).length) n2) (lenLaw (↑n3 : Int)).length) (List.take (addO (addO (addO (lenLaw (↑n1 : Int)).length n1) (lenLaw (↑n2 : Int)).length) n2) (List.take (addO (addO (lenLaw (↑n1 : Int)).length n1) (lenLaw (↑n2 : Int)).length) (List.take (addO (lenLaw (↑n1 : Int)).length n1) (List.take (lenLaw (↑n1 : Int)).length ([] ++ List.take (lenLaw (↑n1 :
 Int)).length (lenLaw (↑n1 : Int))) ++ List.take n1 a) ++ List.take (lenLaw (↑n2 : Int)).length (lenLaw (↑n2 : Int))) ++ List.take n2 b) ++ List.take (lenLaw (↑n3 : Int)).length (lenLaw (↑n3 : Int))) ++ List.take n3 c), 5, true, 5⟩] := by kernel_rfl
def v1Law (n : Nat) (a : List Int) : List Int := vec1Law (List.take n a)
def jn3Law (a b c : List Int) : List Int := vec1Law a ++ (vec1Law b ++ vec1Law c)
theorem v1_len {n : Nat} {a : List Int} (h : n ≤ a.length) : (v1Law n a).length = (lenLaw (n : Int)).length + n := by
  have hl : (List.take n a).length = n := by rw [List.length_take]; omega
  unfold v1Law vec1Law
  rw [hl, List.length_append, hl]
theorem jn3_len (a b c : List Int) : (jn3Law a b c).length = (lenLaw (a.length : Int)).length + a.length + (lenLaw (b.length : Int)).length + b.length + (lenLaw (c.length : Int)).length + c.length := by
  unfold jn3Law vec1Law
  simp only [List.length_append]
  omega
noncomputable def nsm71ac (args : List AVal) (T : Tab) (a : List Int) (g1 : Nat) (n1 : Nat) (c1 : Option Nat) (gO : Nat) (ow : Bool) (ow1 : Bool) : Res := ⟨[.tab T [some ⟨.agg [.slice 1 1 g1 0 n1 c1], gO, ow, 22⟩, some ⟨.ints .u8 a, g1, ow1, 5⟩], .val (.tuple args) (.tuple [.slice 1 0 gO 0 1 (some 1)]), .leN n1 a.length, .leN n1 65536], .tuple [.slice 1 2 1 0 (v1Law n1 a).length none, .int .i64 0], [some ⟨.agg [.slice 1 1 g1 0 n1 c1], gO, ow, 22⟩, some ⟨.ints .u8 a, g1, ow1, 5⟩, some ⟨.ints .u8 (v1Law n1 a), 1, true, 5⟩]⟩
theorem nsm71ac_ok {args : List AVal} {T : Tab} {a : List Int} {g1 : Nat} {n1 : Nat} {c1 : Option Nat} {gO : Nat} {ow : Bool} {ow1 : Bool} (h : allP (nsm71ac args T a g1 n1 c1 gO ow ow1).cs) : Small prog (fun _ => none) 71 args T (nsm71ac args T a g1 n1 c1 gO ow ow1).val (nsm71ac args T a g1 n1 c1 gO ow ow1).tab := by
  obtain ⟨hT, hv, h1, h2, _⟩ := h
  simp only [Con.h] at hT hv h1 h2
  injection hv with hv
  subst hT hv
  show Small prog (fun _ => none) 71 [.slice 1 0 gO 0 1 (some 1)] [some ⟨.agg [.slice 1 1 g1 0 n1 c1], gO, ow, 22⟩, some ⟨.ints .u8 a, g1, ow1, 5⟩] (.tuple [.slice 1 2 1 0 (v1Law n1 a).length none, .int .i64 0]) [some ⟨.agg [.slice 1 1 g1 0 n1 c1], gO, ow, 22⟩, some ⟨.ints .u8 a, g1, ow1, 5⟩, some ⟨.ints .u8 (v1Law n1 a), 1, true, 5⟩]
  have hl : (List.take n1 a).length = n1 := by rw [List.length_take]; omega
  have hL := lenLaw_len (n1 : Int)
  refine small_ofG (R := nR71a a g1 n1 gO c1 ow ow1) eM2_ok hmN (f := 71) (fn := f71) (by kernel_rfl) (by kernel_rfl) FnOrc.nil rfl (nR71a_ok ?_) ?_ ?_
  · simp (disch := (simp only [List.length_append, List.length_take, addO_eq, List.length_nil]; omega)) only [allP, Con.h, List.take_of_length_le, addO_eq, List.nil_append, Nat.zero_add, List.length_append, List.length_take, Nat.min_self, eq_self, true_and, and_true, decide_eq_true_eq, decide_eq_false_iff_not]
    omega
  · rw [nR71a_val, v1_len h1, addO_eq]
  · rw [nR71a_tab]
    unfold v1Law vec1Law
    rw [hl]
    simp (disch := (simp only [List.length_append, List.length_take, addO_eq, List.length_nil]; omega)) only [List.take_length, List.take_of_length_le, addO_eq, List.nil_append]
noncomputable def nsm71a : Summary := fun args T => nsm71ac args T (xsAt T 1) (gAt T 1) (lenOf ((dAt T 0).get 0)) (capOf ((dAt T 0).get 0)) (gAt T 0) (owAt T 0) (owAt T 1)
theorem nsm71a_ok : SmOk prog (fun _ => none) 71 nsm71a := fun args T h => nsm71ac_ok h
noncomputable def nsm71cc (args : List AVal) (T : Tab) (a : List Int) (b : List Int) (c : List Int) (g1 : Nat) (g2 : Nat) (g3 : Nat) (n1 : Nat) (n2 : Nat) (n3 : Nat) (gO : Nat) (ow : Bool) (ow1 : Bool) (ow2 : Bool) (ow3 : Bool) : Res := ⟨[.tab T [some ⟨.agg [.slice 1 1 g1 0 n1 none, .slice 1 2 g2 0 n2 none, .slice 1 3 g3 0 n3 none], gO, ow, 22⟩, some ⟨.ints .u8 a, g1, ow1, 5⟩, some ⟨.ints .u8 b, g2, ow2, 5⟩, some ⟨.ints .u8 c, g3, ow3, 5⟩], .val (.tuple args) (.tuple [.slice 1 0 gO 0 3 (some 3)]), .eqN n1 a.length, .eqN n2 b.length, .eqN n3 c.length, .leN n1 65536, .leN n2 65536, .leN n3 65536], .tuple [.slice 1 4 5 0 (jn3Law a b c).length none, .int .i64 0], [some ⟨.agg [.slice 1 1 g1 0 n1 none, .slice 1 2 g2 0 n2 none, .slice 1 3 g3 0 n3 none], gO, ow, 22⟩, some ⟨.ints .u8 a, g1, ow1, 5⟩, some ⟨.ints .u8 b, g2, ow2, 5⟩, some ⟨.ints .u8 c, g3, ow3, 5⟩, some ⟨.ints .u8 (jn3Law a b c), 5, true, 5⟩]⟩
theorem nsm71cc_ok {args : List AVal} {T : Tab} {a : List Int} {b : List Int} {c : List Int} {g1 : Nat} {g2 : Nat} {g3 : Nat} {n1 : Nat} {n2 : Nat} {n3 : Nat} {gO : Nat} {ow : Bool} {ow1 : Bool} {ow2 : Bool} {ow3 : Bool} (h : allP (nsm71cc args T a b c g1 g2 g3 n1 n2 n3 gO ow ow1 ow2 ow3).cs) : Small prog (fun _ => none) 71 args T (nsm71cc args T a b c g1 g2 g3 n1 n2 n3 gO ow ow1 ow2 ow3).val (nsm71cc args T a b c g1 g2 g3 n1 n2 n3 gO ow ow1 ow2 ow3).tab := by
  obtain ⟨hT, hv, h1, h2, h3, h4, h5, h6, _⟩ := h
  simp only [Con.h] at hT hv h1 h2 h3 h4 h5 h6
  injection hv with hv
  subst hT hv
  show Small prog (fun _ => none) 71 [.slice 1 0 gO 0 3 (some 3)] [some ⟨.agg [.slice 1 1 g1 0 n1 none, .slice 1 2 g2 0 n2 none, .slice 1 3 g3 0 n3 none], gO, ow, 22⟩, some ⟨.ints .u8 a, g1, ow1, 5⟩, some ⟨.ints .u8 b, g2, ow2, 5⟩, some ⟨.ints .u8 c, g3, ow3, 5⟩] (.tuple [.slice 1 4 5 0 (jn3Law a b c).length none, .int .i64 0]) [some ⟨.agg [.slice 1 1 g1 0 n1 none, .slice 1 2 g2 0 n2 none, .slice 1 3 g3 0 n3 none], gO, ow, 22⟩, some ⟨.ints .u8 a, g1, ow1, 5⟩, some ⟨.ints .u8 b, g2, ow2, 5⟩, some ⟨.ints .u8 c, g3, ow3, 5⟩, some ⟨.ints .u8 (jn3Law a b c), 5, true, 5⟩]
  subst h1 h2 h3
  have hA := lenLaw_len (a.length : Int)
  have hB := lenLaw_len (b.length : Int)
  have hC := lenLaw_len (c.length : Int)
  refine small_ofG (R := nR71c a b c g1 g2 g3 a.length b.length c.length gO ow ow1 ow2 ow3) eM2_ok hmN (f := 71) (fn := f71) (by kernel_rfl) (by kernel_rfl) FnOrc.nil rfl (nR71c_ok ?_) ?_ ?_
  · simp (disch := (simp only [List.length_append, List.length_take, addO_eq, List.length_nil]; omega)) only [allP, Con.h, List.take_of_length_le, addO_eq, List.nil_append, Nat.zero_add, List.length_append, List.length_take, Nat.min_self, eq_self, true_and, and_true, decide_eq_true_eq, decide_eq_false_iff_not]
    omega
  · rw [nR71c_val, jn3_len]
    simp only [addO_eq, Nat.add_assoc]
  · rw [nR71c_tab]
    unfold jn3Law vec1Law
    simp (disch := (simp only [List.length_append, List.length_take, addO_eq, List.length_nil]; omega)) only [List.take_length, List.take_of_length_le, addO_eq, List.nil_append]
    simp only [List.append_assoc]
noncomputable def nsm71c : Summary := fun args T => nsm71cc args T (xsAt T 1) (xsAt T 2) (xsAt T 3) (gAt T 1) (gAt T 2) (gAt T 3) (lenOf ((dAt T 0).get 0)) (lenOf ((dAt T 0).get 1)) (lenOf ((dAt T 0).get 2)) (gAt T 0) (owAt T 0) (owAt T 1) (owAt T 2) (owAt T 3)
theorem nsm71c_ok : SmOk prog (fun _ => none) 71 nsm71c := fun args T h => nsm71cc_ok h
noncomputable def nS71 : Summary := fun args T => match lenOf (vAt args 0) with
  | 1 => callR nsm71a [] args T
  | 3 => callR nsm71c [] args T
  | _ => fail
theorem nS71_ok : SumOk prog (fun _ => none) 71 nS71 := by
  intro args T hc
  unfold nS71 at hc ⊢
  split at hc
  · exact callR_ok nsm71a_ok [] args T hc
  · exact callR_ok nsm71c_ok [] args T hc
  · exact absurd hc nofail
end Go.Abs

set_option linter.unusedVariables false
set_option linter.unusedSimpArgs false
set_option maxRecDepth 100000
set_option maxHeartbeats 4000000
namespace Go.Abs
open Go.Proofs Go.Proofs.Try
/-! ### a writer -/
theorem num_len (n size : Int) : (numLaw n size).length ≤ 8 := by
  unfold numLaw
  split
  · rename_i h
    rcases h.1 with rfl | rfl | rfl | rfl <;> simp [beLaw]
  · simp
noncomputable def eM3 : Env := eN0 [(71, nS71)]
theorem eM3_ok : EnvOk eM3 := envOf_ok tysN_ok (SumsOk.cons (fn := f71) nS71_ok (by kernel_rfl) (by kernel_rfl) (by kernel_rfl) trivial)
noncomputable def eM4 : Env := eN0 [(73, S16)]
theorem eM4_ok : EnvOk eM4 := envOf_ok tysN_ok (SumsOk.cons (fn := f73) S16_ok (by kernel_rfl) (by kernel_rfl) (by kernel_rfl) trivial)
noncomputable def nR38  : Res := runF (eN0 []) f38 [] 400 [] [] []
theorem nR38_ok  (h : allP []) : OkR (nR38 ) := OkR.dem (fl := bitsF 22 4194303) (by kernel_rfl) (by kernel_rfl) (by kernel_rfl) h
theorem nR38_val  : (nR38 ).val = .var 0 0 := by kernel_rfl
theorem nR38_tab  : (nR38 ).tab = [some ⟨.agg [.nilSlice, .func (Fn.func 70) [] [.var 1 0], .func (Fn.func 72) [] [.var 1 0]], 0, true, 81⟩, some ⟨.agg [.var 0 0], 0, true, 75⟩] := by kernel_rfl
noncomputable def nR70a (a : List Int) (g1 : Nat) (n1 : Nat) (c1 : Option Nat) (gO : Nat) (ow : Bool) (ow1 : Bool) (X : List Int) (gC : Nat) (gW : Nat) (gB : Nat) (m : Nat) (owC : Bool) : Res := resG 5 [0, 1, 2, 3, 4] (runF eM3 f70 [] 400 [.slice 1 0 gO 0 1 (some 1), .var 1 gC] [some ⟨.agg [.slice 1 2 g1 0 n1 c1], gO, ow, 22⟩, some ⟨.agg [.var 3 gW], gC, owC, 75⟩, some ⟨.ints .u8 a, g1, ow1, 5⟩, some ⟨.agg [.slice 1 4 gB 0 m none, .func (.func 70) [] [.var 1 gC], .func (.func 72) [] [.var 1 gC]], gW, true, 81⟩, some ⟨.ints .u8 X, gB, true, 5⟩] [])
theorem nR70a_ok {a : List Int} {g1 : Nat} {n1 : Nat} {c1 : Option Nat} {gO : Nat} {ow : Bool} {ow1 : Bool} {X : List Int} {gC : Nat} {gW : Nat} {gB : Nat} {m : Nat} {owC : Bool} (h : allP [.eqN gO gO, .eqN g1 g1, .leN n1 a.length, .leN n1 65536, .eqN gC gC, .eqN gC gC, .eqN gC gC, .eqN gW gW, .eqN gW gW, .eqN gW gW, .eqN gB gB, .leN (0 + m) X.length, .leN (addO m (v1Law n1 a).length)
 140737488355328, .leN (0 + (v1Law n1 a).length) (v1Law n1 a).length, .eqN gW gW, .eqN gW gW, .eqN gW gW]) : OkR (nR70a a g1 n1 c1 gO ow ow1 X gC gW gB m owC) := OkR.dem (fl := bitsF 32 1889674496) (by kernel_rfl) (by kernel_rfl) (by kernel_rfl) h
theorem nR70a_val {a : List Int} {g1 : Nat} {n1 : Nat} {c1 : Option Nat} {gO : Nat} {ow : Bool} {ow1 : Bool} {X : List Int} {gC : Nat} {gW : Nat} {gB : Nat} {m : Nat} {owC : Bool} : (nR70a a g1 n1 c1 gO ow ow1 X gC gW gB m owC).val = .tuple [] := by kernel_rfl
theorem nR70a_tab {a : List Int} {g1 : Nat} {n1 : Nat} {c1 : Option Nat} {gO : Nat} {ow : Bool} {ow1 : Bool} {X : List Int} {gC : Nat} {gW : Nat} {gB : Nat} {m : Nat} {owC : Bool} : (nR70a a g1 n1 c1 gO ow ow1 X gC gW gB m owC).tab = [some ⟨.agg [.slice 1 2 g1 0 n1 c1], gO, ow, 22⟩, some ⟨.agg [.var 3 gW], gC, owC, 75⟩, some ⟨.ints .u8 a, g1, ow1, 5⟩, some ⟨.agg [.slice 1 4 (gB + 1) 0 (addO m
 (v1Law n1 a).length) none, .func (Fn.func 70) [] [.var 1 gC], .func (Fn.func 72) [] [.var 1 gC]], gW, true, 81⟩, some ⟨.ints .u8 (List.take m X ++ List.take (v1Law n1 a).length (v1Law n1 a)), gB + 1, true, 5⟩] := by kernel_rfl
noncomputable def nR70c (a : List Int) (b : List Int) (c : List Int) (g1 : Nat) (g2 : Nat) (g3 : Nat) (n1 : Nat) (n2 : Nat) (n3 : Nat) (gO : Nat) (ow : Bool) (ow1 : Bool) (ow2 : Bool) (ow3 : Bool) (X : List Int) (gC : Nat) (gW : Nat) (gB : Nat) (m : Nat) (owC : Bool) : Res := resG 7 [0, 1, 2, 3, 4, 5, 6] (runF eM3 f70 [] 400 [.slice 1 0 gO 0 3 (some 3), .var 1 gC] [some ⟨.agg [.slice 1 2 g1 0 n1 none, .slice 1 3 g2 0 n2 none, .slice 1 4 g3 0 n3 none], gO, ow, 22⟩, some ⟨.agg [.var 5 gW], gC, owC, 75⟩, some ⟨.ints .u8 a, g1, ow1, 5⟩, some ⟨.ints .u8 b, g2, ow2, 5⟩, some ⟨.ints .u8 c, g3, ow3, 5⟩, some ⟨.agg [.slice 1 6 gB 0 m none, .func (.func 70) [] [.var 1 gC], .func (.func 72) [] [.var 1 gC]], gW, true, 81⟩, some ⟨.ints .u8 X, gB, true, 5⟩] [])
theorem nR70c_ok {a : List Int} {b : List Int} {c : List Int} {g1 : Nat} {g2 : Nat} {g3 : Nat} {n1 : Nat} {n2 : Nat} {n3 : Nat} {gO : Nat} {ow : Bool} {ow1 : Bool} {ow2 : Bool} {ow3 : Bool} {X : List Int} {gC : Nat} {gW : Nat} {gB : Nat} {m : Nat} {owC : Bool} (h : allP [.eqN gO gO, .eqN g1 g1, .eqN g2 g2, .eqN g3 g3, .eqN n1 a.length, .eqN n2 b.length, .eqN n3 c.length, .leN n1 65536, .leN n2
 65536, .leN n3 65536, .eqN gC gC, .eqN gC gC, .eqN gC gC, .eqN gW gW, .eqN gW gW, .eqN gW gW, .eqN gB gB, .leN (0 + m) X.length, .leN (addO m (jn3Law a b c).length) 140737488355328, .leN (0 + (jn3Law a b c).length) (jn3Law a b c).length, .eqN gW gW, .eqN gW gW, .eqN gW gW]) : OkR (nR70c a b c g1 g2 g3 n1 n2 n3 gO ow ow1 ow2 ow3 X gC gW gB m owC) := OkR.dem (fl := bitsF 38 120939167744) (by
 kernel_rfl) (by kernel_rfl) (by kernel_rfl) h
theorem nR70c_val {a : List Int} {b : List Int} {c : List Int} {g1 : Nat} {g2 : Nat} {g3 : Nat} {n1 : Nat} {n2 : Nat} {n3 : Nat} {gO : Nat} {ow : Bool} {ow1 : Bool} {ow2 : Bool} {ow3 : Bool} {X : List Int} {gC : Nat} {gW : Nat} {gB : Nat} {m : Nat} {owC : Bool} : (nR70c a b c g1 g2 g3 n1 n2 n3 gO ow ow1 ow2 ow3 X gC gW gB m owC).val = .tuple [] := by kernel_rfl
theorem nR70c_tab {a : List Int} {b : List Int} {c : List Int} {g1 : Nat} {g2 : Nat} {g3 : Nat} {n1 : Nat} {n2 : Nat} {n3 : Nat} {gO : Nat} {ow : Bool} {ow1 : Bool} {ow2 : Bool} {ow3 : Bool} {X : List Int} {gC : Nat} {gW : Nat} {gB : Nat} {m : Nat} {owC : Bool} : (nR70c a b c g1 g2 g3 n1 n2 n3 gO ow ow1 ow2 ow3 X gC gW gB m owC).tab = [some ⟨.agg [.slice 1 2 g1 0 n1 none, .slice 1 3 g2 0 n2 none,
 .slice 1 4 g3 0 n3 none], gO, ow, 22⟩, some ⟨.agg [.var 5 gW], gC, owC, 75⟩, some ⟨.ints .u8 a, g1, ow1, 5⟩, some ⟨.ints .u8 b, g2, ow2, 5⟩, some ⟨.ints .u8 c, g3, ow3, 5⟩, some ⟨.agg [.slice 1 6 (gB + 1) 0 (addO m (jn3Law a b c).length) none, .func (Fn.func 70) [] [.var 1 gC], .func (Fn.func 72) [] [.var 1 gC]], gW, true, 81⟩, some ⟨.ints .u8 (List.take m X ++ List.take (jn3Law a b c).length
 (jn3Law a b c)), gB + 1, true, 5⟩] := by kernel_rfl
noncomputable def nR72 (n : Int) (size : Int) (X : List Int) (gC : Nat) (gW : Nat) (gB : Nat) (m : Nat) (owC : Bool) : Res := resG 3 [0, 1, 2] (runF eM4 f72 [] 400 [.int .i64 n, .int .i64 size, .var 0 gC] [some ⟨.agg [.var 1 gW], gC, owC, 75⟩, some ⟨.agg [.slice 1 2 gB 0 m none, .func (.func 70) [] [.var 0 gC], .func (.func 72) [] [.var 0 gC]], gW, true, 81⟩, some ⟨.ints .u8 X, gB, true, 5⟩] [])
theorem nR72_ok {n : Int} {size : Int} {X : List Int} {gC : Nat} {gW : Nat} {gB : Nat} {m : Nat} {owC : Bool} (h : allP [.eqN gC gC, .eqN gC gC, .eqN gC gC, .eqN gW gW, .eqN gW gW, .eqN gW gW, .eqN gB gB, .leN (0 + m) X.length, .leN (addO m (numLaw n size).length) 140737488355328, .leN (0 + (numLaw n size).length) (numLaw n size).length, .eqN gW gW, .eqN gW gW, .eqN gW gW]) : OkR (nR72 n size X gC
 gW gB m owC) := OkR.dem (fl := bitsF 26 29526164) (by kernel_rfl) (by kernel_rfl) (by kernel_rfl) h
theorem nR72_val {n : Int} {size : Int} {X : List Int} {gC : Nat} {gW : Nat} {gB : Nat} {m : Nat} {owC : Bool} : (nR72 n size X gC gW gB m owC).val = .tuple [] := by kernel_rfl
theorem nR72_tab {n : Int} {size : Int} {X : List Int} {gC : Nat} {gW : Nat} {gB : Nat} {m : Nat} {owC : Bool} : (nR72 n size X gC gW gB m owC).tab = [some ⟨.agg [.var 1 gW], gC, owC, 75⟩, some ⟨.agg [.slice 1 2 (gB + 1) 0 (addO m (numLaw n size).length) none, .func (Fn.func 70) [] [.var 0 gC], .func (Fn.func 72) [] [.var 0 gC]], gW, true, 81⟩, some ⟨.ints .u8 (List.take m X ++ List.take (numLaw n
 size).length (numLaw n size)), gB + 1, true, 5⟩] := by kernel_rfl
theorem small38 : Small prog (fun _ => none) 38 [] [] (.var 0 0) [some ⟨.agg [.slice 1 2 0 0 0 none, .func (.func 70) [] [.var 1 0], .func (.func 72) [] [.var 1 0]], 0, true, 81⟩, some ⟨.agg [.var 0 0], 0, true, 75⟩, some ⟨.ints .u8 [], 0, true, 5⟩] :=
  Small.conv (ids := [0]) (small_of (R := nR38) eN0_ok hmN (f := 38) (fn := f38) (by kernel_rfl) (by kernel_rfl) FnOrc.nil rfl (nR38_ok trivial) nR38_val nR38_tab) (Conv.nilCell (kk := .u8) (et2 := 5) (sz := 1) (p := 0) (j := 0) rfl rfl rfl) (by intro p hp; simp at hp; subst hp; rfl)
noncomputable def nsm38c (args : List AVal) (T : Tab)  : Res := ⟨[.tab T [], .val (.tuple args) (.tuple [])], .var 0 0, [some ⟨.agg [.slice 1 2 0 0 0 none, .func (.func 70) [] [.var 1 0], .func (.func 72) [] [.var 1 0]], 0, true, 81⟩, some ⟨.agg [.var 0 0], 0, true, 75⟩, some ⟨.ints .u8 [], 0, true, 5⟩]⟩
theorem nsm38c_ok {args : List AVal} {T : Tab}  (h : allP (nsm38c args T ).cs) : Small prog (fun _ => none) 38 args T (nsm38c args T ).val (nsm38c args T ).tab := by
  obtain ⟨hT, hv, _⟩ := h
  simp only [Con.h] at hT hv
  injection hv with hv
  subst hT hv
  show Small prog (fun _ => none) 38 [] [] (.var 0 0) [some ⟨.agg [.slice 1 2 0 0 0 none, .func (.func 70) [] [.var 1 0], .func (.func 72) [] [.var 1 0]], 0, true, 81⟩, some ⟨.agg [.var 0 0], 0, true, 75⟩, some ⟨.ints .u8 [], 0, true, 5⟩]
  exact small38
noncomputable def nsm38 : Summary := fun args T => nsm38c args T 
theorem nsm38_ok : SmOk prog (fun _ => none) 38 nsm38 := fun args T h => nsm38c_ok h
noncomputable def nS38 : Summary := callR nsm38 []
theorem nS38_ok : SumOk prog (fun _ => none) 38 nS38 := callR_ok nsm38_ok []
noncomputable def nsm70ac (args : List AVal) (T : Tab) (a : List Int) (g1 : Nat) (n1 : Nat) (c1 : Option Nat) (gO : Nat) (ow : Bool) (ow1 : Bool) (X : List Int) (gC : Nat) (gW : Nat) (gB : Nat) (m : Nat) (owC : Bool) : Res := ⟨[.tab T [some ⟨.agg [.slice 1 2 g1 0 n1 c1], gO, ow, 22⟩, some ⟨.agg [.var 3 gW], gC, owC, 75⟩, some ⟨.ints .u8 a, g1, ow1, 5⟩, some ⟨.agg [.slice 1 4 gB 0 m none, .func (.func 70) [] [.var 1 gC], .func (.func 72) [] [.var 1 gC]], gW, true, 81⟩, some ⟨.ints .u8 X, gB, true, 5⟩], .val (.tuple args) (.tuple [.slice 1 0 gO 0 1 (some 1), .var 1 gC]), .leN n1 a.length, .leN n1 65536, .eqN m X.length, .leN m 140737488000000], .tuple [], [some ⟨.agg [.slice 1 2 g1 0 n1 c1], gO, ow, 22⟩, some ⟨.agg [.var 3 gW], gC, owC, 75⟩, some ⟨.ints .u8 a, g1, ow1, 5⟩, some ⟨.agg [.slice 1 4 (gB + 1) 0 (X ++ v1Law n1 a).length none, .func (.func 70) [] [.var 1 gC], .func (.func 72) [] [.var 1 gC]], gW, true, 81⟩, some ⟨.ints .u8 (X ++ v1Law n1 a), (gB + 1), true, 5⟩]⟩
theorem nsm70ac_ok {args : List AVal} {T : Tab} {a : List Int} {g1 : Nat} {n1 : Nat} {c1 : Option Nat} {gO : Nat} {ow : Bool} {ow1 : Bool} {X : List Int} {gC : Nat} {gW : Nat} {gB : Nat} {m : Nat} {owC : Bool} (h : allP (nsm70ac args T a g1 n1 c1 gO ow ow1 X gC gW gB m owC).cs) : Small prog (fun _ => none) 70 args T (nsm70ac args T a g1 n1 c1 gO ow ow1 X gC gW gB m owC).val (nsm70ac args T a g1 n1 c1 gO ow ow1 X gC gW gB m owC).tab := by
  obtain ⟨hT, hv, h1, h2, h3, h4, _⟩ := h
  simp only [Con.h] at hT hv h1 h2 h3 h4
  injection hv with hv
  subst hT hv
  show Small prog (fun _ => none) 70 [.slice 1 0 gO 0 1 (some 1), .var 1 gC] [some ⟨.agg [.slice 1 2 g1 0 n1 c1], gO, ow, 22⟩, some ⟨.agg [.var 3 gW], gC, owC, 75⟩, some ⟨.ints .u8 a, g1, ow1, 5⟩, some ⟨.agg [.slice 1 4 gB 0 m none, .func (.func 70) [] [.var 1 gC], .func (.func 72) [] [.var 1 gC]], gW, true, 81⟩, some ⟨.ints .u8 X, gB, true, 5⟩] (.tuple []) [some ⟨.agg [.slice 1 2 g1 0 n1 c1], gO, ow, 22⟩, some ⟨.agg [.var 3 gW], gC, owC, 75⟩, some ⟨.ints .u8 a, g1, ow1, 5⟩, some ⟨.agg [.slice 1 4 (gB + 1) 0 (X ++ v1Law n1 a).length none, .func (.func 70) [] [.var 1 gC], .func (.func 72) [] [.var 1 gC]], gW, true, 81⟩, some ⟨.ints .u8 (X ++ v1Law n1 a), (gB + 1), true, 5⟩]
  have hL := lenLaw_len (n1 : Int)
  have hv := v1_len h1
  subst h3
  refine small_ofG (R := nR70a a g1 n1 c1 gO ow ow1 X gC gW gB X.length owC) eM3_ok hmN (f := 70) (fn := f70) (by kernel_rfl) (by kernel_rfl) FnOrc.nil rfl (nR70a_ok ?_) nR70a_val ?_
  · simp (disch := (simp only [List.length_append, List.length_take, addO_eq, List.length_nil]; omega)) only [allP, Con.h, List.take_length, List.take_of_length_le, addO_eq, List.nil_append, Nat.zero_add, List.length_append, List.length_take, Nat.min_self, eq_self, true_and, and_true, decide_eq_true_eq, decide_eq_false_iff_not]
    omega
  · rw [nR70a_tab, List.length_append]
    simp (disch := (simp only [List.length_append, List.length_take, addO_eq, List.length_nil]; omega)) only [List.take_length, List.take_of_length_le, addO_eq, List.nil_append]
noncomputable def nsm70a : Summary := fun args T => nsm70ac args T (xsAt T 2) (gAt T 2) (lenOf ((dAt T 0).get 0)) (capOf ((dAt T 0).get 0)) (gAt T 0) (owAt T 0) (owAt T 2) (xsAt T 4) (gAt T 1) (gAt T 3) (gAt T 4) (lenOf (cAt T 3 0)) (owAt T 1)
theorem nsm70a_ok : SmOk prog (fun _ => none) 70 nsm70a := fun args T h => nsm70ac_ok h
noncomputable def nsm70cc (args : List AVal) (T : Tab) (a : List Int) (b : List Int) (c : List Int) (g1 : Nat) (g2 : Nat) (g3 : Nat) (n1 : Nat) (n2 : Nat) (n3 : Nat) (gO : Nat) (ow : Bool) (ow1 : Bool) (ow2 : Bool) (ow3 : Bool) (X : List Int) (gC : Nat) (gW : Nat) (gB : Nat) (m : Nat) (owC : Bool) : Res := ⟨[.tab T [some ⟨.agg [.slice 1 2 g1 0 n1 none, .slice 1 3 g2 0 n2 none, .slice 1 4 g3 0 n3 none], gO, ow, 22⟩, some ⟨.agg [.var 5 gW], gC, owC, 75⟩, some ⟨.ints .u8 a, g1, ow1, 5⟩, some ⟨.ints .u8 b, g2, ow2, 5⟩, some ⟨.ints .u8 c, g3, ow3, 5⟩, some ⟨.agg [.slice 1 6 gB 0 m none, .func (.func 70) [] [.var 1 gC], .func (.func 72) [] [.var 1 gC]], gW, true, 81⟩, some ⟨.ints .u8 X, gB, true, 5⟩], .val (.tuple args) (.tuple [.slice 1 0 gO 0 3 (some 3), .var 1 gC]), .eqN n1 a.length, .eqN n2 b.length, .eqN n3 c.length, .leN n1 65536, .leN n2 65536, .leN n3 65536, .eqN m X.length, .leN m 140737488000000], .tuple [], [some ⟨.agg [.slice 1 2 g1 0 n1 none, .slice 1 3 g2 0 n2 none, .slice 1 4 g3 0 n3 none], gO, ow, 22⟩, some ⟨.agg [.var 5 gW], gC, owC, 75⟩, some ⟨.ints .u8 a, g1, ow1, 5⟩, some ⟨.ints .u8 b, g2, ow2, 5⟩, some ⟨.ints .u8 c, g3, ow3, 5⟩, some ⟨.agg [.slice 1 6 (gB + 1) 0 (X ++ jn3Law a b c).length none, .func (.func 70) [] [.var 1 gC], .func (.func 72) [] [.var 1 gC]], gW, true, 81⟩, some ⟨.ints .u8 (X ++ jn3Law a b c), (gB + 1), true, 5⟩]⟩
theorem nsm70cc_ok {args : List AVal} {T : Tab} {a : List Int} {b : List Int} {c : List Int} {g1 : Nat} {g2 : Nat} {g3 : Nat} {n1 : Nat} {n2 : Nat} {n3 : Nat} {gO : Nat} {ow : Bool} {ow1 : Bool} {ow2 : Bool} {ow3 : Bool} {X : List Int} {gC : Nat} {gW : Nat} {gB : Nat} {m : Nat} {owC : Bool} (h : allP (nsm70cc args T a b c g1 g2 g3 n1 n2 n3 gO ow ow1 ow2 ow3 X gC gW gB m owC).cs) : Small prog (fun _ => none) 70 args T (nsm70cc args T a b c g1 g2 g3 n1 n2 n3 gO ow ow1 ow2 ow3 X gC gW gB m owC).val (nsm70cc args T a b c g1 g2 g3 n1 n2 n3 gO ow ow1 ow2 ow3 X gC gW gB m owC).tab := by
  obtain ⟨hT, hv, h1, h2, h3, h4, h5, h6, h7, h8, _⟩ := h
  simp only [Con.h] at hT hv h1 h2 h3 h4 h5 h6 h7 h8
  injection hv with hv
  subst hT hv
  show Small prog (fun _ => none) 70 [.slice 1 0 gO 0 3 (some 3), .var 1 gC] [some ⟨.agg [.slice 1 2 g1 0 n1 none, .slice 1 3 g2 0 n2 none, .slice 1 4 g3 0 n3 none], gO, ow, 22⟩, some ⟨.agg [.var 5 gW], gC, owC, 75⟩, some ⟨.ints .u8 a, g1, ow1, 5⟩, some ⟨.ints .u8 b, g2, ow2, 5⟩, some ⟨.ints .u8 c, g3, ow3, 5⟩, some ⟨.agg [.slice 1 6 gB 0 m none, .func (.func 70) [] [.var 1 gC], .func (.func 72) [] [.var 1 gC]], gW, true, 81⟩, some ⟨.ints .u8 X, gB, true, 5⟩] (.tuple []) [some ⟨.agg [.slice 1 2 g1 0 n1 none, .slice 1 3 g2 0 n2 none, .slice 1 4 g3 0 n3 none], gO, ow, 22⟩, some ⟨.agg [.var 5 gW], gC, owC, 75⟩, some ⟨.ints .u8 a, g1, ow1, 5⟩, some ⟨.ints .u8 b, g2, ow2, 5⟩, some ⟨.ints .u8 c, g3, ow3, 5⟩, some ⟨.agg [.slice 1 6 (gB + 1) 0 (X ++ jn3Law a b c).length none, .func (.func 70) [] [.var 1 gC], .func (.func 72) [] [.var 1 gC]], gW, true, 81⟩, some ⟨.ints .u8 (X ++ jn3Law a b c), (gB + 1), true, 5⟩]
  subst h1 h2 h3 h7
  have hA := lenLaw_len (a.length : Int)
  have hB := lenLaw_len (b.length : Int)
  have hC := lenLaw_len (c.length : Int)
  have hj := jn3_len a b c
  refine small_ofG (R := nR70c a b c g1 g2 g3 a.length b.length c.length gO ow ow1 ow2 ow3 X gC gW gB X.length owC) eM3_ok hmN (f := 70) (fn := f70) (by kernel_rfl) (by kernel_rfl) FnOrc.nil rfl (nR70c_ok ?_) nR70c_val ?_
  · simp (disch := (simp only [List.length_append, List.length_take, addO_eq, List.length_nil]; omega)) only [allP, Con.h, List.take_length, List.take_of_length_le, addO_eq, List.nil_append, Nat.zero_add, List.length_append, List.length_take, Nat.min_self, eq_self, true_and, and_true, decide_eq_true_eq, decide_eq_false_iff_not]
    omega
  · rw [nR70c_tab, List.length_append]
    simp (disch := (simp only [List.length_append, List.length_take, addO_eq, List.length_nil]; omega)) only [List.take_length, List.take_of_length_le, addO_eq, List.nil_append]
noncomputable def nsm70c : Summary := fun args T => nsm70cc args T (xsAt T 2) (xsAt T 3) (xsAt T 4) (gAt T 2) (gAt T 3) (gAt T 4) (lenOf ((dAt T 0).get 0)) (lenOf ((dAt T 0).get 1)) (lenOf ((dAt T 0).get 2)) (gAt T 0) (owAt T 0) (owAt T 2) (owAt T 3) (owAt T 4) (xsAt T 6) (gAt T 1) (gAt T 5) (gAt T 6) (lenOf (cAt T 5 0)) (owAt T 1)
theorem nsm70c_ok : SmOk prog (fun _ => none) 70 nsm70c := fun args T h => nsm70cc_ok h
noncomputable def nsm72c (args : List AVal) (T : Tab) (n : Int) (size : Int) (X : List Int) (gC : Nat) (gW : Nat) (gB : Nat) (m : Nat) (owC : Bool) : Res := ⟨[.tab T [some ⟨.agg [.var 1 gW], gC, owC, 75⟩, some ⟨.agg [.slice 1 2 gB 0 m none, .func (.func 70) [] [.var 0 gC], .func (.func 72) [] [.var 0 gC]], gW, true, 81⟩, some ⟨.ints .u8 X, gB, true, 5⟩], .val (.tuple args) (.tuple [.int .i64 n, .int .i64 size, .var 0 gC]), .eqN m X.length, .leN m 140737488000000], .tuple [], [some ⟨.agg [.var 1 gW], gC, owC, 75⟩, some ⟨.agg [.slice 1 2 (gB + 1) 0 (X ++ numLaw n size).length none, .func (.func 70) [] [.var 0 gC], .func (.func 72) [] [.var 0 gC]], gW, true, 81⟩, some ⟨.ints .u8 (X ++ numLaw n size), (gB + 1), true, 5⟩]⟩
theorem nsm72c_ok {args : List AVal} {T : Tab} {n : Int} {size : Int} {X : List Int} {gC : Nat} {gW : Nat} {gB : Nat} {m : Nat} {owC : Bool} (h : allP (nsm72c args T n size X gC gW gB m owC).cs) : Small prog (fun _ => none) 72 args T (nsm72c args T n size X gC gW gB m owC).val (nsm72c args T n size X gC gW gB m owC).tab := by
  obtain ⟨hT, hv, h1, h2, _⟩ := h
  simp only [Con.h] at hT hv h1 h2
  injection hv with hv
  subst hT hv
  show Small prog (fun _ => none) 72 [.int .i64 n, .int .i64 size, .var 0 gC] [some ⟨.agg [.var 1 gW], gC, owC, 75⟩, some ⟨.agg [.slice 1 2 gB 0 m none, .func (.func 70) [] [.var 0 gC], .func (.func 72) [] [.var 0 gC]], gW, true, 81⟩, some ⟨.ints .u8 X, gB, true, 5⟩] (.tuple []) [some ⟨.agg [.var 1 gW], gC, owC, 75⟩, some ⟨.agg [.slice 1 2 (gB + 1) 0 (X ++ numLaw n size).length none, .func (.func 70) [] [.var 0 gC], .func (.func 72) [] [.var 0 gC]], gW, true, 81⟩, some ⟨.ints .u8 (X ++ numLaw n size), (gB + 1), true, 5⟩]
  subst h1
  have hN := num_len n size
  refine small_ofG (R := nR72 n size X gC gW gB X.length owC) eM4_ok hmN (f := 72) (fn := f72) (by kernel_rfl) (by kernel_rfl) FnOrc.nil rfl (nR72_ok ?_) nR72_val ?_
  · simp (disch := (simp only [List.length_append, List.length_take, addO_eq, List.length_nil]; omega)) only [allP, Con.h, List.take_length, List.take_of_length_le, addO_eq, List.nil_append, Nat.zero_add, List.length_append, List.length_take, Nat.min_self, eq_self, true_and, and_true, decide_eq_true_eq, decide_eq_false_iff_not]
    omega
  · rw [nR72_tab, List.length_append]
    simp (disch := (simp only [List.length_append, List.length_take, addO_eq, List.length_nil]; omega)) only [List.take_length, List.take_of_length_le, addO_eq, List.nil_append]
noncomputable def nsm72 : Summary := fun args T => nsm72c args T (iOf (vAt args 0)) (iOf (vAt args 1)) (xsAt T 2) (gAt T 0) (gAt T 1) (gAt T 2) (lenOf (cAt T 1 0)) (owAt T 0)
theorem nsm72_ok : SmOk prog (fun _ => none) 72 nsm72 := fun args T h => nsm72c_ok h
noncomputable def nS70 : Summary := fun args T => match lenOf (vAt args 0) with
  | 1 => callR nsm70a [false, false, false, true, true] args T
  | 3 => callR nsm70c [false, false, false, false, false, true, true] args T
  | _ => fail
theorem nS70_ok : SumOk prog (fun _ => none) 70 nS70 := by
  intro args T hc
  unfold nS70 at hc ⊢
  split at hc
  · exact callR_ok nsm70a_ok _ args T hc
  · exact callR_ok nsm70c_ok _ args T hc
  · exact absurd hc nofail
noncomputable def nS72 : Summary := callR nsm72 [false, true, true]
theorem nS72_ok : SumOk prog (fun _ => none) 72 nS72 := callR_ok nsm72_ok _
end Go.Abs

set_option linter.unusedVariables false
set_option linter.unusedSimpArgs false
set_option maxRecDepth 100000
set_option maxHeartbeats 4000000
namespace Go.Abs
open Go.Proofs Go.Proofs.Try
/-! ### a leaf, written -/
def bareGLaw (s : Int) : Nat := if s = 3 then 3 else 2
def bareLaw (a b c : List Int) (s : Int) (d : List Int) : List Int := jn3Law a b c ++ (numLaw s 1 ++ if s = 3 then vec1Law d else [])
theorem bare3 (a b c d : List Int) {s : Int} (h : s = 3) : bareLaw a b c s d = jn3Law a b c ++ (numLaw s 1 ++ vec1Law d) ∧ bareGLaw s = 3 := by unfold bareLaw bareGLaw; rw [if_pos h, if_pos h]; exact ⟨rfl, rfl⟩
theorem bareN (a b c d : List Int) {s : Int} (h : s ≠ 3) : bareLaw a b c s d = jn3Law a b c ++ numLaw s 1 ∧ bareGLaw s = 2 := by unfold bareLaw bareGLaw; rw [if_neg h, if_neg h, List.append_nil]; exact ⟨rfl, rfl⟩
noncomputable def eM5 : Env := eN0 [(70, nS70), (72, nS72)]
theorem eM5_ok : EnvOk eM5 := envOf_ok tysN_ok (SumsOk.cons (fn := f70) nS70_ok (by kernel_rfl) (by kernel_rfl) (by kernel_rfl) (SumsOk.cons (fn := f72) nS72_ok (by kernel_rfl) (by kernel_rfl) (by kernel_rfl) trivial))
noncomputable def nR39y (a : List Int) (b : List Int) (c : List Int) (d : List Int) (z : List Int) (g1 : Nat) (g2 : Nat) (g3 : Nat) (g4 : Nat) (g5 : Nat) (n1 : Nat) (n2 : Nat) (n3 : Nat) (n4 : Nat) (n5 : Nat) (s : Int) (X : List Int) (gC : Nat) (gW : Nat) (gB : Nat) (m : Nat) (owC : Bool) : Res := resG 8 [0, 1, 2, 3, 4, 5, 6, 7] (runF eM5 f39 [] 400 [.var 0 gW, .agg [.slice 1 1 g1 0 n1 none, .slice 1 2 g2 0 n2 none, .slice 1 3 g3 0 n3 none, .int .i64 s, .slice 1 4 g4 0 n4 none, .slice 1 5 g5 0 n5 none]] [some ⟨.agg [.slice 1 6 gB 0 m none, .func (.func 70) [] [.var 7 gC], .func (.func 72) [] [.var 7 gC]], gW, true, 81⟩, some ⟨.ints .u8 a, g1, false, 5⟩, some ⟨.ints .u8 b, g2, false, 5⟩, some ⟨.ints .u8 c, g3, false, 5⟩, some ⟨.ints .u8 d, g4, false, 5⟩, some ⟨.ints .u8 z, g5, false, 5⟩, some ⟨.ints .u8 X, gB, true, 5⟩, some ⟨.agg [.var 0 gW], gC, owC, 75⟩] [some true])
theorem nR39y_ok {a : List Int} {b : List Int} {c : List Int} {d : List Int} {z : List Int} {g1 : Nat} {g2 : Nat} {g3 : Nat} {g4 : Nat} {g5 : Nat} {n1 : Nat} {n2 : Nat} {n3 : Nat} {n4 : Nat} {n5 : Nat} {s : Int} {X : List Int} {gC : Nat} {gW : Nat} {gB : Nat} {m : Nat} {owC : Bool} (h : allP [.eqN gW gW, .eqN gW gW, .eqN gW gW, .eqN gC gC, .eqN g1 g1, .eqN g2 g2, .eqN g3 g3, .eqN n1 a.length, .eqN
 n2 b.length, .eqN n3 c.length, .leN n1 65536, .leN n2 65536, .leN n3 65536, .eqN m X.length, .leN m 140737488000000, .eqN gW gW, .eqN gW gW, .eqN gW gW, .eqN gC gC, .eqN (X ++ jn3Law a b c).length (X ++ jn3Law a b c).length, .leN (X ++ jn3Law a b c).length 140737488000000, .p ((s == 3) = true), .eqN gW gW, .eqN gW gW, .eqN gW gW, .eqN gC gC, .eqN g4 g4, .leN n4 d.length, .leN n4 65536, .eqN (X ++
 jn3Law a b c ++ numLaw s 1).length (X ++ jn3Law a b c ++ numLaw s 1).length, .leN (X ++ jn3Law a b c ++ numLaw s 1).length 140737488000000]) : OkR (nR39y a b c d z g1 g2 g3 g4 g5 n1 n2 n3 n4 n5 s X gC gW gB m owC) := OkR.dem (fl := bitsF 78 441600527432517943280) (by kernel_rfl) (by kernel_rfl) (by kernel_rfl) h
theorem nR39y_val {a : List Int} {b : List Int} {c : List Int} {d : List Int} {z : List Int} {g1 : Nat} {g2 : Nat} {g3 : Nat} {g4 : Nat} {g5 : Nat} {n1 : Nat} {n2 : Nat} {n3 : Nat} {n4 : Nat} {n5 : Nat} {s : Int} {X : List Int} {gC : Nat} {gW : Nat} {gB : Nat} {m : Nat} {owC : Bool} : (nR39y a b c d z g1 g2 g3 g4 g5 n1 n2 n3 n4 n5 s X gC gW gB m owC).val = .tuple [] := by kernel_rfl
theorem nR39y_tab {a : List Int} {b : List Int} {c : List Int} {d : List Int} {z : List Int} {g1 : Nat} {g2 : Nat} {g3 : Nat} {g4 : Nat} {g5 : Nat} {n1 : Nat} {n2 : Nat} {n3 : Nat} {n4 : Nat} {n5 : Nat} {s : Int} {X : List Int} {gC : Nat} {gW : Nat} {gB : Nat} {m : Nat} {owC : Bool} : (nR39y a b c d z g1 g2 g3 g4 g5 n1 n2 n3 n4 n5 s X gC gW gB m owC).tab = [some ⟨.agg [.slice 1 6 (gB + 1 + 1 + 1) 0
 (X ++ jn3Law a b c ++ numLaw s 1 ++ v1Law n4 d).length none, .func (Fn.func 70) [] [.var 7 gC], .func (Fn.func 72) [] [.var 7 gC]], gW, true, 81⟩, some ⟨.ints .u8 a, g1, false, 5⟩, some ⟨.ints .u8 b, g2, false, 5⟩, some ⟨.ints .u8 c, g3, false, 5⟩, some ⟨.ints .u8 d, g4, false, 5⟩, some ⟨.ints .u8 z, g5, false, 5⟩, some ⟨.ints .u8 (X ++ jn3Law a b c ++ numLaw s 1 ++ v1Law n4 d), gB + 1 + 1 + 1,
 true, 5⟩, some ⟨.agg [.var 0 gW], gC, owC, 75⟩] := by kernel_rfl
noncomputable def nR39n (a : List Int) (b : List Int) (c : List Int) (d : List Int) (z : List Int) (g1 : Nat) (g2 : Nat) (g3 : Nat) (g4 : Nat) (g5 : Nat) (n1 : Nat) (n2 : Nat) (n3 : Nat) (n4 : Nat) (n5 : Nat) (s : Int) (X : List Int) (gC : Nat) (gW : Nat) (gB : Nat) (m : Nat) (owC : Bool) : Res := resG 8 [0, 1, 2, 3, 4, 5, 6, 7] (runF eM5 f39 [] 400 [.var 0 gW, .agg [.slice 1 1 g1 0 n1 none, .slice 1 2 g2 0 n2 none, .slice 1 3 g3 0 n3 none, .int .i64 s, .slice 1 4 g4 0 n4 none, .slice 1 5 g5 0 n5 none]] [some ⟨.agg [.slice 1 6 gB 0 m none, .func (.func 70) [] [.var 7 gC], .func (.func 72) [] [.var 7 gC]], gW, true, 81⟩, some ⟨.ints .u8 a, g1, false, 5⟩, some ⟨.ints .u8 b, g2, false, 5⟩, some ⟨.ints .u8 c, g3, false, 5⟩, some ⟨.ints .u8 d, g4, false, 5⟩, some ⟨.ints .u8 z, g5, false, 5⟩, some ⟨.ints .u8 X, gB, true, 5⟩, some ⟨.agg [.var 0 gW], gC, owC, 75⟩] [some false])
theorem nR39n_ok {a : List Int} {b : List Int} {c : List Int} {d : List Int} {z : List Int} {g1 : Nat} {g2 : Nat} {g3 : Nat} {g4 : Nat} {g5 : Nat} {n1 : Nat} {n2 : Nat} {n3 : Nat} {n4 : Nat} {n5 : Nat} {s : Int} {X : List Int} {gC : Nat} {gW : Nat} {gB : Nat} {m : Nat} {owC : Bool} (h : allP [.eqN gW gW, .eqN gW gW, .eqN gW gW, .eqN gC gC, .eqN g1 g1, .eqN g2 g2, .eqN g3 g3, .eqN n1 a.length, .eqN
 n2 b.length, .eqN n3 c.length, .leN n1 65536, .leN n2 65536, .leN n3 65536, .eqN m X.length, .leN m 140737488000000, .eqN gW gW, .eqN gW gW, .eqN gW gW, .eqN gC gC, .eqN (X ++ jn3Law a b c).length (X ++ jn3Law a b c).length, .leN (X ++ jn3Law a b c).length 140737488000000, .p ((s == 3) = false)]) : OkR (nR39n a b c d z g1 g2 g3 g4 g5 n1 n2 n3 n4 n5 s X gC gW gB m owC) := OkR.dem (fl := bitsF 56
 31591168095551472) (by kernel_rfl) (by kernel_rfl) (by kernel_rfl) h
theorem nR39n_val {a : List Int} {b : List Int} {c : List Int} {d : List Int} {z : List Int} {g1 : Nat} {g2 : Nat} {g3 : Nat} {g4 : Nat} {g5 : Nat} {n1 : Nat} {n2 : Nat} {n3 : Nat} {n4 : Nat} {n5 : Nat} {s : Int} {X : List Int} {gC : Nat} {gW : Nat} {gB : Nat} {m : Nat} {owC : Bool} : (nR39n a b c d z g1 g2 g3 g4 g5 n1 n2 n3 n4 n5 s X gC gW gB m owC).val = .tuple [] := by kernel_rfl
theorem nR39n_tab {a : List Int} {b : List Int} {c : List Int} {d : List Int} {z : List Int} {g1 : Nat} {g2 : Nat} {g3 : Nat} {g4 : Nat} {g5 : Nat} {n1 : Nat} {n2 : Nat} {n3 : Nat} {n4 : Nat} {n5 : Nat} {s : Int} {X : List Int} {gC : Nat} {gW : Nat} {gB : Nat} {m : Nat} {owC : Bool} : (nR39n a b c d z g1 g2 g3 g4 g5 n1 n2 n3 n4 n5 s X gC gW gB m owC).tab = [some ⟨.agg [.slice 1 6 (gB + 1 + 1) 0 (X
 ++ jn3Law a b c ++ numLaw s 1).length none, .func (Fn.func 70) [] [.var 7 gC], .func (Fn.func 72) [] [.var 7 gC]], gW, true, 81⟩, some ⟨.ints .u8 a, g1, false, 5⟩, some ⟨.ints .u8 b, g2, false, 5⟩, some ⟨.ints .u8 c, g3, false, 5⟩, some ⟨.ints .u8 d, g4, false, 5⟩, some ⟨.ints .u8 z, g5, false, 5⟩, some ⟨.ints .u8 (X ++ jn3Law a b c ++ numLaw s 1), gB + 1 + 1, true, 5⟩, some ⟨.agg [.var 0 gW], gC,
 owC, 75⟩] := by kernel_rfl
noncomputable def nsm39c (args : List AVal) (T : Tab) (a : List Int) (b : List Int) (c : List Int) (d : List Int) (z : List Int) (g1 : Nat) (g2 : Nat) (g3 : Nat) (g4 : Nat) (g5 : Nat) (n1 : Nat) (n2 : Nat) (n3 : Nat) (n4 : Nat) (n5 : Nat) (s : Int) (X : List Int) (gC : Nat) (gW : Nat) (gB : Nat) (m : Nat) (owC : Bool) : Res := ⟨[.tab T [some ⟨.agg [.slice 1 6 gB 0 m none, .func (.func 70) [] [.var 7 gC], .func (.func 72) [] [.var 7 gC]], gW, true, 81⟩, some ⟨.ints .u8 a, g1, false, 5⟩, some ⟨.ints .u8 b, g2, false, 5⟩, some ⟨.ints .u8 c, g3, false, 5⟩, some ⟨.ints .u8 d, g4, false, 5⟩, some ⟨.ints .u8 z, g5, false, 5⟩, some ⟨.ints .u8 X, gB, true, 5⟩, some ⟨.agg [.var 0 gW], gC, owC, 75⟩], .val (.tuple args) (.tuple [.var 0 gW, .agg [.slice 1 1 g1 0 n1 none, .slice 1 2 g2 0 n2 none, .slice 1 3 g3 0 n3 none, .int .i64 s, .slice 1 4 g4 0 n4 none, .slice 1 5 g5 0 n5 none]]), .eqN n1 a.length, .eqN n2 b.length, .eqN n3 c.length, .eqN n4 d.length, .leN n1 65536, .leN n2 65536, .leN n3 65536, .leN n4 65536, .eqN m X.length, .leN m 140737480000000], .tuple [], [some ⟨.agg [.slice 1 6 (gB + bareGLaw s) 0 (X ++ bareLaw a b c s d).length none, .func (.func 70) [] [.var 7 gC], .func (.func 72) [] [.var 7 gC]], gW, true, 81⟩, some ⟨.ints .u8 a, g1, false, 5⟩, some ⟨.ints .u8 b, g2, false, 5⟩, some ⟨.ints .u8 c, g3, false, 5⟩, some ⟨.ints .u8 d, g4, false, 5⟩, some ⟨.ints .u8 z, g5, false, 5⟩, some ⟨.ints .u8 (X ++ bareLaw a b c s d), (gB + bareGLaw s), true, 5⟩, some ⟨.agg [.var 0 gW], gC, owC, 75⟩]⟩
theorem nsm39c_ok {args : List AVal} {T : Tab} {a : List Int} {b : List Int} {c : List Int} {d : List Int} {z : List Int} {g1 : Nat} {g2 : Nat} {g3 : Nat} {g4 : Nat} {g5 : Nat} {n1 : Nat} {n2 : Nat} {n3 : Nat} {n4 : Nat} {n5 : Nat} {s : Int} {X : List Int} {gC : Nat} {gW : Nat} {gB : Nat} {m : Nat} {owC : Bool} (h : allP (nsm39c args T a b c d z g1 g2 g3 g4 g5 n1 n2 n3 n4 n5 s X gC gW gB m owC).cs) : Small prog (fun _ => none) 39 args T (nsm39c args T a b c d z g1 g2 g3 g4 g5 n1 n2 n3 n4 n5 s X gC gW gB m owC).val (nsm39c args T a b c d z g1 g2 g3 g4 g5 n1 n2 n3 n4 n5 s X gC gW gB m owC).tab := by
  obtain ⟨hT, hv, h1, h2, h3, h4, h5, h6, h7, h8, h9, h10, _⟩ := h
  simp only [Con.h] at hT hv h1 h2 h3 h4 h5 h6 h7 h8 h9 h10
  injection hv with hv
  subst hT hv
  show Small prog (fun _ => none) 39 [.var 0 gW, .agg [.slice 1 1 g1 0 n1 none, .slice 1 2 g2 0 n2 none, .slice 1 3 g3 0 n3 none, .int .i64 s, .slice 1 4 g4 0 n4 none, .slice 1 5 g5 0 n5 none]] [some ⟨.agg [.slice 1 6 gB 0 m none, .func (.func 70) [] [.var 7 gC], .func (.func 72) [] [.var 7 gC]], gW, true, 81⟩, some ⟨.ints .u8 a, g1, false, 5⟩, some ⟨.ints .u8 b, g2, false, 5⟩, some ⟨.ints .u8 c, g3, false, 5⟩, some ⟨.ints .u8 d, g4, false, 5⟩, some ⟨.ints .u8 z, g5, false, 5⟩, some ⟨.ints .u8 X, gB, true, 5⟩, some ⟨.agg [.var 0 gW], gC, owC, 75⟩] (.tuple []) [some ⟨.agg [.slice 1 6 (gB + bareGLaw s) 0 (X ++ bareLaw a b c s d).length none, .func (.func 70) [] [.var 7 gC], .func (.func 72) [] [.var 7 gC]], gW, true, 81⟩, some ⟨.ints .u8 a, g1, false, 5⟩, some ⟨.ints .u8 b, g2, false, 5⟩, some ⟨.ints .u8 c, g3, false, 5⟩, some ⟨.ints .u8 d, g4, false, 5⟩, some ⟨.ints .u8 z, g5, false, 5⟩, some ⟨.ints .u8 (X ++ bareLaw a b c s d), (gB + bareGLaw s), true, 5⟩, some ⟨.agg [.var 0 gW], gC, owC, 75⟩]
  subst h1 h2 h3 h4 h9
  have hA := lenLaw_len (a.length : Int)
  have hB := lenLaw_len (b.length : Int)
  have hC := lenLaw_len (c.length : Int)
  have hj := jn3_len a b c
  have hN := num_len s 1
  by_cases hs : s = 3
  · rw [(bare3 a b c d hs).1, (bare3 a b c d hs).2]
    refine small_ofG (R := nR39y a b c d z g1 g2 g3 g4 g5 a.length b.length c.length d.length n5 s X gC gW gB X.length owC) eM5_ok hmN (f := 39) (fn := f39) (by kernel_rfl) (by kernel_rfl) FnOrc.nil rfl (nR39y_ok ?_) nR39y_val ?_
    · simp only [allP, Con.h, eq_self, true_and, and_true, beq_iff_eq, beq_eq_false_iff_ne, ne_eq, decide_eq_true_eq, decide_eq_false_iff_not, List.length_append]
      omega
    · rw [nR39y_tab]
      simp only [v1Law, List.take_length, List.append_assoc]
  · rw [(bareN a b c d hs).1, (bareN a b c d hs).2]
    refine small_ofG (R := nR39n a b c d z g1 g2 g3 g4 g5 a.length b.length c.length d.length n5 s X gC gW gB X.length owC) eM5_ok hmN (f := 39) (fn := f39) (by kernel_rfl) (by kernel_rfl) FnOrc.nil rfl (nR39n_ok ?_) nR39n_val ?_
    · simp only [allP, Con.h, eq_self, true_and, and_true, beq_iff_eq, beq_eq_false_iff_ne, ne_eq, decide_eq_true_eq, decide_eq_false_iff_not, List.length_append]
      omega
    · rw [nR39n_tab]
      simp only [List.append_assoc]
noncomputable def nsm39 : Summary := fun args T => nsm39c args T (xsAt T 1) (xsAt T 2) (xsAt T 3) (xsAt T 4) (xsAt T 5) (gAt T 1) (gAt T 2) (gAt T 3) (gAt T 4) (gAt T 5) (lenOf ((vAt args 1).get 0)) (lenOf ((vAt args 1).get 1)) (lenOf ((vAt args 1).get 2)) (lenOf ((vAt args 1).get 4)) (lenOf ((vAt args 1).get 5)) (iOf ((vAt args 1).get 3)) (xsAt T 6) (gAt T 7) (gAt T 0) (gAt T 6) (lenOf (cAt T 0 0)) (owAt T 7)
theorem nsm39_ok : SmOk prog (fun _ => none) 39 nsm39 := fun args T h => nsm39c_ok h
noncomputable def nS39 : Summary := callR nsm39 [true, false, false, false, false, false, true, false]
theorem nS39_ok : SumOk prog (fun _ => none) 39 nS39 := callR_ok nsm39_ok _
def RightL (a b c : List Int) (s : Int) (d z : List Int) : Prop := RightN a.length b.length c.length s d.length z.length
instance (a b c : List Int) (s : Int) (d z : List Int) : Decidable (RightL a b c s d z) := by unfold RightL; exact inferInstance
theorem bare_len (a b c : List Int) (s : Int) (d : List Int) : (bareLaw a b c s d).length ≤ a.length + b.length + c.length + d.length + 24 := by
  have hA := lenLaw_len (a.length : Int)
  have hB := lenLaw_len (b.length : Int)
  have hC := lenLaw_len (c.length : Int)
  have hD := lenLaw_len (d.length : Int)
  have hN := num_len s 1
  have hj := jn3_len a b c
  unfold bareLaw
  split
  · unfold vec1Law
    simp only [List.length_append]
    omega
  · simp only [List.length_append, List.length_nil]
    omega
end Go.Abs
