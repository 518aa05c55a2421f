/- What functions of the given program come to, by the abstract machine: texts of a proof. -/
import Derived.Test.YtmfacmccilipfaaP0
import Derived.Test.YtmfacmccilipfaaAbs2
set_option linter.unusedVariables false
set_option linter.unusedSimpArgs false
set_option maxRecDepth 100000
set_option maxHeartbeats 4000000
namespace Go.Abs
open Go.Proofs Go.Proofs.Try
/-! ### the document: the reader: runs -/
noncomputable def eQ1 : Env := eN0 [(77, S34r), (84, S41), (85, S46r)]
theorem eQ1_ok : EnvOk eQ1 := envOf_ok tysN_ok (SumsOk.cons (fn := f77) S34r_ok (by kernel_rfl) (by kernel_rfl) (by kernel_rfl) (SumsOk.cons (fn := f84) S41_ok (by kernel_rfl) (by kernel_rfl) (by kernel_rfl) (SumsOk.cons (fn := f85) S46r_ok (by kernel_rfl) (by kernel_rfl) (by kernel_rfl) trivial)))
noncomputable def eQ1x : Env := eN0 [(77, S34r), (84, S41x), (85, S46r)]
theorem eQ1x_ok : EnvOk eQ1x := envOf_ok tysN_ok (SumsOk.cons (fn := f77) S34r_ok (by kernel_rfl) (by kernel_rfl) (by kernel_rfl) (SumsOk.cons (fn := f84) S41x_ok (by kernel_rfl) (by kernel_rfl) (by kernel_rfl) (SumsOk.cons (fn := f85) S46r_ok (by kernel_rfl) (by kernel_rfl) (by kernel_rfl) trivial)))
noncomputable def R26e (B : List Int) (g gR off nB : Nat) (e size : Int) : Res := runF eQ1 f63 [] 400 [.var 0 gR, .int .i64 size] [some ⟨.agg [.slice 1 1 g 0 nB none, .int .i64 (off : Nat), .int .i64 e], gR, true, 118⟩, some ⟨.ints .u8 B, g, false, 5⟩] [some true]
theorem R26e_ok {B : List Int} {g gR off nB : Nat} {e size : Int} (h : allP [.eqN gR gR, .eqN gR gR, .eqN gR gR, .p ((e != 0) = true)]) : OkR (R26e B g gR off nB e size) := OkR.dem (fl := [false, false, false, true, false]) (by kernel_rfl) (by kernel_rfl) (by kernel_rfl) h
theorem R26e_val {B : List Int} {g gR off nB : Nat} {e size : Int} : (R26e B g gR off nB e size).val = .int .i64 0 := by kernel_rfl
theorem R26e_tab {B : List Int} {g gR off nB : Nat} {e size : Int} : (R26e B g gR off nB e size).tab = [some ⟨.agg [.slice 1 1 g 0 nB none, .int .i64 (↑off : Int), .int .i64 e], gR, true, 118⟩, some ⟨.ints .u8 B, g, false, 5⟩] := by kernel_rfl
noncomputable def R26x (B : List Int) (g gR off nB : Nat) (size : Int) : Res := runF eQ1x f63 [] 400 [.var 0 gR, .int .i64 size] [some ⟨.agg [.slice 1 1 g 0 nB none, .int .i64 (off : Nat), .int .i64 0], gR, true, 118⟩, some ⟨.ints .u8 B, g, false, 5⟩] [none, none]
theorem R26x_ok {B : List Int} {g gR off nB : Nat} {size : Int} (h : allP [.eqN gR gR, .eqN gR gR, .eqN gR gR, .p ((size == 1) = false), .p ((size == 2) = false), .p ((size == 4) = false), .p ((size == 8) = false), .eqN gR gR, .eqN gR gR, .eqN gR gR]) : OkR (R26x B g gR off nB size) := OkR.dem (fl := bitsF 14 14344) (by kernel_rfl) (by kernel_rfl) (by kernel_rfl) h
theorem R26x_val {B : List Int} {g gR off nB : Nat} {size : Int} : (R26x B g gR off nB size).val = .int .i64 0 := by kernel_rfl
theorem R26x_tab {B : List Int} {g gR off nB : Nat} {size : Int} : (R26x B g gR off nB size).tab = [some ⟨.agg [.slice 1 1 g 0 nB none, .int .i64 (↑off : Int), .int .i64 1], gR, true, 118⟩, some ⟨.ints .u8 B, g, false, 5⟩] := by kernel_rfl
noncomputable def R26s1 (B : List Int) (g gR off nB : Nat) : Res := runF eQ1 f63 [] 400 [.var 0 gR, .int .i64 1] [some ⟨.agg [.slice 1 1 g 0 nB none, .int .i64 (off : Nat), .int .i64 0], gR, true, 118⟩, some ⟨.ints .u8 B, g, false, 5⟩] [none, none, some true]
theorem R26s1_ok {B : List Int} {g gR off nB : Nat} (h : allP [.eqN gR gR, .eqN gR gR, .eqN gR gR, .eqN gR gR, .eqN g g, .leN off nB, .leN nB 140737488355000, .p (decide ((↑(nB - off) : Int) < 1) = true), .eqN gR gR, .eqN gR gR, .eqN gR gR]) : OkR (R26s1 B g gR off nB) := OkR.dem (fl := bitsF 17 114696) (by kernel_rfl) (by kernel_rfl) (by kernel_rfl) h
theorem R26s1_val {B : List Int} {g gR off nB : Nat} : (R26s1 B g gR off nB).val = .int .i64 0 := by kernel_rfl
theorem R26s1_tab {B : List Int} {g gR off nB : Nat} : (R26s1 B g gR off nB).tab = [some ⟨.agg [.slice 1 1 g 0 nB none, .int .i64 (↑off : Int), .int .i64 20], gR, true, 118⟩, some ⟨.ints .u8 B, g, false, 5⟩] := by kernel_rfl
noncomputable def R26g1 (B : List Int) (g gR off nB : Nat) : Res := runF eQ1 f63 [] 400 [.var 0 gR, .int .i64 1] [some ⟨.agg [.slice 1 1 g 0 nB none, .int .i64 (off : Nat), .int .i64 0], gR, true, 118⟩, some ⟨.ints .u8 B, g, false, 5⟩] [none, none, some false, none]
theorem R26g1_ok {B : List Int} {g gR off nB : Nat} (h : allP [.eqN gR gR, .eqN gR gR, .eqN gR gR, .eqN gR gR, .eqN g g, .leN off nB, .leN nB 140737488355000, .p (decide ((↑(nB - off) : Int) < 1) = false), .eqN gR gR, .eqN g g, .p (sizedLaw (OfNat.ofNat 1)), .leN (off + 1) B.length, .eqN nB B.length, .leN B.length 140737488355000, .p (ByLaw B), .p (LowLaw B off (OfNat.ofNat 1)), .eqN gR gR, .eqN gR
 gR, .eqN gR gR, .rng (-9223372036854775808) ((↑off : Int) + 1) 9223372036854775807, .eqN gR gR, .eqN gR gR, .eqN gR gR]) : OkR (R26g1 B g gR off nB) := OkR.dem (fl := bitsF 33 7549747208) (by kernel_rfl) (by kernel_rfl) (by kernel_rfl) h
theorem R26g1_val {B : List Int} {g gR off nB : Nat} : (R26g1 B g gR off nB).val = .int .i64 (numAtLaw 1 B off) := by kernel_rfl
theorem R26g1_tab {B : List Int} {g gR off nB : Nat} : (R26g1 B g gR off nB).tab = [some ⟨.agg [.slice 1 1 g 0 nB none, .int .i64 ((↑off : Int) + 1), .int .i64 0], gR, true, 118⟩, some ⟨.ints .u8 B, g, false, 5⟩] := by kernel_rfl
noncomputable def R26s2 (B : List Int) (g gR off nB : Nat) : Res := runF eQ1 f63 [] 400 [.var 0 gR, .int .i64 2] [some ⟨.agg [.slice 1 1 g 0 nB none, .int .i64 (off : Nat), .int .i64 0], gR, true, 118⟩, some ⟨.ints .u8 B, g, false, 5⟩] [none, none, some true]
theorem R26s2_ok {B : List Int} {g gR off nB : Nat} (h : allP [.eqN gR gR, .eqN gR gR, .eqN gR gR, .eqN gR gR, .eqN g g, .leN off nB, .leN nB 140737488355000, .p (decide ((↑(nB - off) : Int) < 2) = true), .eqN gR gR, .eqN gR gR, .eqN gR gR]) : OkR (R26s2 B g gR off nB) := OkR.dem (fl := bitsF 17 114696) (by kernel_rfl) (by kernel_rfl) (by kernel_rfl) h
theorem R26s2_val {B : List Int} {g gR off nB : Nat} : (R26s2 B g gR off nB).val = .int .i64 0 := by kernel_rfl
theorem R26s2_tab {B : List Int} {g gR off nB : Nat} : (R26s2 B g gR off nB).tab = [some ⟨.agg [.slice 1 1 g 0 nB none, .int .i64 (↑off : Int), .int .i64 20], gR, true, 118⟩, some ⟨.ints .u8 B, g, false, 5⟩] := by kernel_rfl
noncomputable def R26g2 (B : List Int) (g gR off nB : Nat) : Res := runF eQ1 f63 [] 400 [.var 0 gR, .int .i64 2] [some ⟨.agg [.slice 1 1 g 0 nB none, .int .i64 (off : Nat), .int .i64 0], gR, true, 118⟩, some ⟨.ints .u8 B, g, false, 5⟩] [none, none, some false, none]
theorem R26g2_ok {B : List Int} {g gR off nB : Nat} (h : allP [.eqN gR gR, .eqN gR gR, .eqN gR gR, .eqN gR gR, .eqN g g, .leN off nB, .leN nB 140737488355000, .p (decide ((↑(nB - off) : Int) < 2) = false), .eqN gR gR, .eqN g g, .p (sizedLaw (OfNat.ofNat 2)), .leN (off + 2) B.length, .eqN nB B.length, .leN B.length 140737488355000, .p (ByLaw B), .p (LowLaw B off (OfNat.ofNat 2)), .eqN gR gR, .eqN gR
 gR, .eqN gR gR, .rng (-9223372036854775808) ((↑off : Int) + 2) 9223372036854775807, .eqN gR gR, .eqN gR gR, .eqN gR gR]) : OkR (R26g2 B g gR off nB) := OkR.dem (fl := bitsF 33 7549747208) (by kernel_rfl) (by kernel_rfl) (by kernel_rfl) h
theorem R26g2_val {B : List Int} {g gR off nB : Nat} : (R26g2 B g gR off nB).val = .int .i64 (numAtLaw 2 B off) := by kernel_rfl
theorem R26g2_tab {B : List Int} {g gR off nB : Nat} : (R26g2 B g gR off nB).tab = [some ⟨.agg [.slice 1 1 g 0 nB none, .int .i64 ((↑off : Int) + 2), .int .i64 0], gR, true, 118⟩, some ⟨.ints .u8 B, g, false, 5⟩] := by kernel_rfl
noncomputable def R26s4 (B : List Int) (g gR off nB : Nat) : Res := runF eQ1 f63 [] 400 [.var 0 gR, .int .i64 4] [some ⟨.agg [.slice 1 1 g 0 nB none, .int .i64 (off : Nat), .int .i64 0], gR, true, 118⟩, some ⟨.ints .u8 B, g, false, 5⟩] [none, none, some true]
theorem R26s4_ok {B : List Int} {g gR off nB : Nat} (h : allP [.eqN gR gR, .eqN gR gR, .eqN gR gR, .eqN gR gR, .eqN g g, .leN off nB, .leN nB 140737488355000, .p (decide ((↑(nB - off) : Int) < 4) = true), .eqN gR gR, .eqN gR gR, .eqN gR gR]) : OkR (R26s4 B g gR off nB) := OkR.dem (fl := bitsF 17 114696) (by kernel_rfl) (by kernel_rfl) (by kernel_rfl) h
theorem R26s4_val {B : List Int} {g gR off nB : Nat} : (R26s4 B g gR off nB).val = .int .i64 0 := by kernel_rfl
theorem R26s4_tab {B : List Int} {g gR off nB : Nat} : (R26s4 B g gR off nB).tab = [some ⟨.agg [.slice 1 1 g 0 nB none, .int .i64 (↑off : Int), .int .i64 20], gR, true, 118⟩, some ⟨.ints .u8 B, g, false, 5⟩] := by kernel_rfl
noncomputable def R26g4 (B : List Int) (g gR off nB : Nat) : Res := runF eQ1 f63 [] 400 [.var 0 gR, .int .i64 4] [some ⟨.agg [.slice 1 1 g 0 nB none, .int .i64 (off : Nat), .int .i64 0], gR, true, 118⟩, some ⟨.ints .u8 B, g, false, 5⟩] [none, none, some false, none]
theorem R26g4_ok {B : List Int} {g gR off nB : Nat} (h : allP [.eqN gR gR, .eqN gR gR, .eqN gR gR, .eqN gR gR, .eqN g g, .leN off nB, .leN nB 140737488355000, .p (decide ((↑(nB - off) : Int) < 4) = false), .eqN gR gR, .eqN g g, .p (sizedLaw (OfNat.ofNat 4)), .leN (off + 4) B.length, .eqN nB B.length, .leN B.length 140737488355000, .p (ByLaw B), .p (LowLaw B off (OfNat.ofNat 4)), .eqN gR gR, .eqN gR
 gR, .eqN gR gR, .rng (-9223372036854775808) ((↑off : Int) + 4) 9223372036854775807, .eqN gR gR, .eqN gR gR, .eqN gR gR]) : OkR (R26g4 B g gR off nB) := OkR.dem (fl := bitsF 33 7549747208) (by kernel_rfl) (by kernel_rfl) (by kernel_rfl) h
theorem R26g4_val {B : List Int} {g gR off nB : Nat} : (R26g4 B g gR off nB).val = .int .i64 (numAtLaw 4 B off) := by kernel_rfl
theorem R26g4_tab {B : List Int} {g gR off nB : Nat} : (R26g4 B g gR off nB).tab = [some ⟨.agg [.slice 1 1 g 0 nB none, .int .i64 ((↑off : Int) + 4), .int .i64 0], gR, true, 118⟩, some ⟨.ints .u8 B, g, false, 5⟩] := by kernel_rfl
noncomputable def R26s8 (B : List Int) (g gR off nB : Nat) : Res := runF eQ1 f63 [] 400 [.var 0 gR, .int .i64 8] [some ⟨.agg [.slice 1 1 g 0 nB none, .int .i64 (off : Nat), .int .i64 0], gR, true, 118⟩, some ⟨.ints .u8 B, g, false, 5⟩] [none, none, some true]
theorem R26s8_ok {B : List Int} {g gR off nB : Nat} (h : allP [.eqN gR gR, .eqN gR gR, .eqN gR gR, .eqN gR gR, .eqN g g, .leN off nB, .leN nB 140737488355000, .p (decide ((↑(nB - off) : Int) < 8) = true), .eqN gR gR, .eqN gR gR, .eqN gR gR]) : OkR (R26s8 B g gR off nB) := OkR.dem (fl := bitsF 17 114696) (by kernel_rfl) (by kernel_rfl) (by kernel_rfl) h
theorem R26s8_val {B : List Int} {g gR off nB : Nat} : (R26s8 B g gR off nB).val = .int .i64 0 := by kernel_rfl
theorem R26s8_tab {B : List Int} {g gR off nB : Nat} : (R26s8 B g gR off nB).tab = [some ⟨.agg [.slice 1 1 g 0 nB none, .int .i64 (↑off : Int), .int .i64 20], gR, true, 118⟩, some ⟨.ints .u8 B, g, false, 5⟩] := by kernel_rfl
noncomputable def R26g8 (B : List Int) (g gR off nB : Nat) : Res := runF eQ1 f63 [] 400 [.var 0 gR, .int .i64 8] [some ⟨.agg [.slice 1 1 g 0 nB none, .int .i64 (off : Nat), .int .i64 0], gR, true, 118⟩, some ⟨.ints .u8 B, g, false, 5⟩] [none, none, some false, none, some false]
theorem R26g8_ok {B : List Int} {g gR off nB : Nat} (h : allP [.eqN gR gR, .eqN gR gR, .eqN gR gR, .eqN gR gR, .eqN g g, .leN off nB, .leN nB 140737488355000, .p (decide ((↑(nB - off) : Int) < 8) = false), .eqN gR gR, .eqN gR gR, .eqN gR gR, .eqN gR gR, .eqN gR gR, .eqN gR gR, .eqN g g, .leI 0 (↑off : Int), .leI ((↑off : Int) + 1) (↑nB : Int), .eqN g g, .leN (off + 1) B.length, .p (decide (64 ≤
 B.getD off 0) = false), .eqN gR gR, .eqN g g, .p (sizedLaw (OfNat.ofNat 8)), .leN (off + 8) B.length, .eqN nB B.length, .leN B.length 140737488355000, .p (ByLaw B), .p (LowLaw B off (OfNat.ofNat 8)), .eqN gR gR, .eqN gR gR, .eqN gR gR, .rng (-9223372036854775808) ((↑off : Int) + 8) 9223372036854775807, .eqN gR gR, .eqN gR gR, .eqN gR gR]) : OkR (R26g8 B g gR off nB) := OkR.dem (fl := bitsF 47
 123695058681864) (by kernel_rfl) (by kernel_rfl) (by kernel_rfl) h
theorem R26g8_val {B : List Int} {g gR off nB : Nat} : (R26g8 B g gR off nB).val = .int .i64 (numAtLaw 8 B off) := by kernel_rfl
theorem R26g8_tab {B : List Int} {g gR off nB : Nat} : (R26g8 B g gR off nB).tab = [some ⟨.agg [.slice 1 1 g 0 nB none, .int .i64 ((↑off : Int) + 8), .int .i64 0], gR, true, 118⟩, some ⟨.ints .u8 B, g, false, 5⟩] := by kernel_rfl
noncomputable def R26r (B : List Int) (g gR off nB : Nat) : Res := runF eQ1 f63 [] 400 [.var 0 gR, .int .i64 8] [some ⟨.agg [.slice 1 1 g 0 nB none, .int .i64 (off : Nat), .int .i64 0], gR, true, 118⟩, some ⟨.ints .u8 B, g, false, 5⟩] [none, none, some false, none, some true]
theorem R26r_ok {B : List Int} {g gR off nB : Nat} (h : allP [.eqN gR gR, .eqN gR gR, .eqN gR gR, .eqN gR gR, .eqN g g, .leN off nB, .leN nB 140737488355000, .p (decide ((↑(nB - off) : Int) < 8) = false), .eqN gR gR, .eqN gR gR, .eqN gR gR, .eqN gR gR, .eqN gR gR, .eqN gR gR, .eqN g g, .leI 0 (↑off : Int), .leI ((↑off : Int) + 1) (↑nB : Int), .eqN g g, .leN (off + 1) B.length, .p (decide (64 ≤
 B.getD off 0) = true), .eqN gR gR, .eqN gR gR, .eqN gR gR]) : OkR (R26r B g gR off nB) := OkR.dem (fl := bitsF 32 3758653448) (by kernel_rfl) (by kernel_rfl) (by kernel_rfl) h
theorem R26r_val {B : List Int} {g gR off nB : Nat} : (R26r B g gR off nB).val = .int .i64 0 := by kernel_rfl
theorem R26r_tab {B : List Int} {g gR off nB : Nat} : (R26r B g gR off nB).tab = [some ⟨.agg [.slice 1 1 g 0 nB none, .int .i64 (↑off : Int), .int .i64 11], gR, true, 118⟩, some ⟨.ints .u8 B, g, false, 5⟩] := by kernel_rfl
noncomputable def R28e (B : List Int) (g gR off nB : Nat) (e : Int) : Res := runF eQ1 f86 [] 400 [.var 0 gR] [some ⟨.agg [.slice 1 1 g 0 nB none, .int .i64 (off : Nat), .int .i64 e], gR, true, 118⟩, some ⟨.ints .u8 B, g, false, 5⟩] [some true]
theorem R28e_ok {B : List Int} {g gR off nB : Nat} {e : Int} (h : allP [.eqN gR gR, .eqN gR gR, .eqN gR gR, .p ((e != 0) = true)]) : OkR (R28e B g gR off nB e) := OkR.dem (fl := [false, false, false, true, false]) (by kernel_rfl) (by kernel_rfl) (by kernel_rfl) h
theorem R28e_val {B : List Int} {g gR off nB : Nat} {e : Int} : (R28e B g gR off nB e).val = .int .i64 0 := by kernel_rfl
theorem R28e_tab {B : List Int} {g gR off nB : Nat} {e : Int} : (R28e B g gR off nB e).tab = [some ⟨.agg [.slice 1 1 g 0 nB none, .int .i64 (↑off : Int), .int .i64 e], gR, true, 118⟩, some ⟨.ints .u8 B, g, false, 5⟩] := by kernel_rfl
noncomputable def R28z (B : List Int) (g gR off nB : Nat) : Res := runF eQ1 f86 [] 400 [.var 0 gR] [some ⟨.agg [.slice 1 1 g 0 nB none, .int .i64 (off : Nat), .int .i64 0], gR, true, 118⟩, some ⟨.ints .u8 B, g, false, 5⟩] [none, some true]
theorem R28z_ok {B : List Int} {g gR off nB : Nat} (h : allP [.eqN gR gR, .eqN gR gR, .eqN gR gR, .eqN gR gR, .eqN g g, .leN off nB, .leN nB 140737488355000, .p (((↑(nB - off) : Int) == 0) = true), .eqN gR gR, .eqN gR gR, .eqN gR gR]) : OkR (R28z B g gR off nB) := OkR.dem (fl := bitsF 17 114696) (by kernel_rfl) (by kernel_rfl) (by kernel_rfl) h
theorem R28z_val {B : List Int} {g gR off nB : Nat} : (R28z B g gR off nB).val = .int .i64 0 := by kernel_rfl
theorem R28z_tab {B : List Int} {g gR off nB : Nat} : (R28z B g gR off nB).tab = [some ⟨.agg [.slice 1 1 g 0 nB none, .int .i64 (↑off : Int), .int .i64 20], gR, true, 118⟩, some ⟨.ints .u8 B, g, false, 5⟩] := by kernel_rfl
noncomputable def R28f (B : List Int) (g gR off nB : Nat) : Res := runF eQ1 f86 [] 400 [.var 0 gR] [some ⟨.agg [.slice 1 1 g 0 nB none, .int .i64 (off : Nat), .int .i64 0], gR, true, 118⟩, some ⟨.ints .u8 B, g, false, 5⟩] [none, some false, some true]
theorem R28f_ok {B : List Int} {g gR off nB : Nat} (h : allP [.eqN gR gR, .eqN gR gR, .eqN gR gR, .eqN gR gR, .eqN g g, .leN off nB, .leN nB 140737488355000, .p (((↑(nB - off) : Int) == 0) = false), .eqN gR gR, .eqN gR gR, .eqN gR gR, .eqN gR gR, .eqN gR gR, .eqN gR gR, .eqN g g, .leI 0 (↑off : Int), .leI ((↑off : Int) + 1) (↑nB : Int), .eqN g g, .leN (off + 1) B.length, .rng (-9223372036854775808)
 (B.getD off 0 / 64) 9223372036854775807, .p ((B.getD off 0 / 64 == 3) = true), .eqN gR gR, .eqN gR gR, .eqN gR gR]) : OkR (R28f B g gR off nB) := OkR.dem (fl := bitsF 34 15066497032) (by kernel_rfl) (by kernel_rfl) (by kernel_rfl) h
theorem R28f_val {B : List Int} {g gR off nB : Nat} : (R28f B g gR off nB).val = .int .i64 0 := by kernel_rfl
theorem R28f_tab {B : List Int} {g gR off nB : Nat} : (R28f B g gR off nB).tab = [some ⟨.agg [.slice 1 1 g 0 nB none, .int .i64 (↑off : Int), .int .i64 21], gR, true, 118⟩, some ⟨.ints .u8 B, g, false, 5⟩] := by kernel_rfl
noncomputable def R28s (B : List Int) (g gR off nB : Nat) : Res := runF eQ1 f86 [] 400 [.var 0 gR] [some ⟨.agg [.slice 1 1 g 0 nB none, .int .i64 (off : Nat), .int .i64 0], gR, true, 118⟩, some ⟨.ints .u8 B, g, false, 5⟩] [none, some false, some false, some true]
theorem R28s_ok {B : List Int} {g gR off nB : Nat} (h : allP [.eqN gR gR, .eqN gR gR, .eqN gR gR, .eqN gR gR, .eqN g g, .leN off nB, .leN nB 140737488355000, .p (((↑(nB - off) : Int) == 0) = false), .eqN gR gR, .eqN gR gR, .eqN gR gR, .eqN gR gR, .eqN gR gR, .eqN gR gR, .eqN g g, .leI 0 (↑off : Int), .leI ((↑off : Int) + 1) (↑nB : Int), .eqN g g, .leN (off + 1) B.length, .rng (-9223372036854775808)
 (B.getD off 0 / 64) 9223372036854775807, .p ((B.getD off 0 / 64 == 3) = false), .rng 0 (B.getD off 0 / 64) 18446744073709551615, .rng 0 (B.getD off 0 / 64) 64, .rng (-9223372036854775808) (1 * 2 ^ (B.getD off 0 / 64).toNat) 9223372036854775807, .eqN gR gR, .eqN g g, .leN off nB, .leN nB 140737488355000, .p (decide ((↑(nB - off) : Int) < 1 * 2 ^ (B.getD off 0 / 64).toNat) = true), .eqN gR gR, .eqN
 gR gR, .eqN gR gR]) : OkR (R28s B g gR off nB) := OkR.dem (fl := bitsF 44 15393196900360) (by kernel_rfl) (by kernel_rfl) (by kernel_rfl) h
theorem R28s_val {B : List Int} {g gR off nB : Nat} : (R28s B g gR off nB).val = .int .i64 0 := by kernel_rfl
theorem R28s_tab {B : List Int} {g gR off nB : Nat} : (R28s B g gR off nB).tab = [some ⟨.agg [.slice 1 1 g 0 nB none, .int .i64 (↑off : Int), .int .i64 20], gR, true, 118⟩, some ⟨.ints .u8 B, g, false, 5⟩] := by kernel_rfl
noncomputable def R28g (B : List Int) (g gR off nB : Nat) : Res := runF eQ1 f86 [] 400 [.var 0 gR] [some ⟨.agg [.slice 1 1 g 0 nB none, .int .i64 (off : Nat), .int .i64 0], gR, true, 118⟩, some ⟨.ints .u8 B, g, false, 5⟩] [none, some false, some false, some false, some false, some false]
theorem R28g_ok {B : List Int} {g gR off nB : Nat} (h : allP [.eqN gR gR, .eqN gR gR, .eqN gR gR, .eqN gR gR, .eqN g g, .leN off nB, .leN nB 140737488355000, .p (((↑(nB - off) : Int) == 0) = false), .eqN gR gR, .eqN gR gR, .eqN gR gR, .eqN gR gR, .eqN gR gR, .eqN gR gR, .eqN g g, .leI 0 (↑off : Int), .leI ((↑off : Int) + 1) (↑nB : Int), .eqN g g, .leN (off + 1) B.length, .rng (-9223372036854775808)
 (B.getD off 0 / 64) 9223372036854775807, .p ((B.getD off 0 / 64 == 3) = false), .rng 0 (B.getD off 0 / 64) 18446744073709551615, .rng 0 (B.getD off 0 / 64) 64, .rng (-9223372036854775808) (1 * 2 ^ (B.getD off 0 / 64).toNat) 9223372036854775807, .eqN gR gR, .eqN g g, .leN off nB, .leN nB 140737488355000, .p (decide ((↑(nB - off) : Int) < 1 * 2 ^ (B.getD off 0 / 64).toNat) = false), .eqN gR gR, .eqN
 g g, .p (sizedLaw (1 * 2 ^ (B.getD off 0 / 64).toNat)), .leN (off + 1 * 2 ^ (B.getD off 0 / 64).toNat) B.length, .eqN nB B.length, .leN B.length 140737488355000, .p (ByLaw B), .p (LowLaw B off (1 * 2 ^ (B.getD off 0 / 64).toNat)), .rng (-9223372036854775808) (8 * ((1 : Int) * 2 ^ (B.getD off 0 / 64).toNat)) 9223372036854775807, .rng (-9223372036854775808) (8 * ((1 : Int) * 2 ^ (B.getD off 0 /
 64).toNat) - 2) 9223372036854775807, .rng 0 (8 * ((1 : Int) * 2 ^ (B.getD off 0 / 64).toNat) - 2) 18446744073709551615, .rng 0 (8 * ((1 : Int) * 2 ^ (B.getD off 0 / 64).toNat) - 2) 64, .rng (-9223372036854775808) (1 * 2 ^ (8 * ((1 : Int) * 2 ^ (B.getD off 0 / 64).toNat) - 2).toNat) 9223372036854775807, .rng (-9223372036854775808) (1 * 2 ^ (8 * ((1 : Int) * 2 ^ (B.getD off 0 / 64).toNat) - 2).toNat
 - 1) 9223372036854775807, .nn .i64 (numAtLaw (1 * 2 ^ (B.getD off 0 / 64).toNat) B off), .nn .i64 (1 * 2 ^ (8 * ((1 : Int) * 2 ^ (B.getD off 0 / 64).toNat) - 2).toNat - 1), .p (((1 : Int) * 2 ^ (B.getD off 0 / 64).toNat == 2) = false), .p (((1 : Int) * 2 ^ (B.getD off 0 / 64).toNat == 4) = false), .eqN gR gR, .eqN gR gR, .eqN gR gR, .rng (-9223372036854775808) ((↑off : Int) + 1 * 2 ^ (B.getD off 0
 / 64).toNat) 9223372036854775807, .eqN gR gR, .eqN gR gR, .eqN gR gR]) : OkR (R28g B g gR off nB) := OkR.dem (fl := bitsF 69 518814677073115250696) (by kernel_rfl) (by kernel_rfl) (by kernel_rfl) h
theorem R28g_val {B : List Int} {g gR off nB : Nat} : (R28g B g gR off nB).val = .int .i64 (iand (numAtLaw (1 * 2 ^ (B.getD off 0 / 64).toNat) B off) (1 * 2 ^ (8 * ((1 : Int) * 2 ^ (B.getD off 0 / 64).toNat) - 2).toNat - 1)) := by kernel_rfl
theorem R28g_tab {B : List Int} {g gR off nB : Nat} : (R28g B g gR off nB).tab = [some ⟨.agg [.slice 1 1 g 0 nB none, .int .i64 ((↑off : Int) + 1 * 2 ^ (B.getD off 0 / 64).toNat), .int .i64 0], gR, true, 118⟩, some ⟨.ints .u8 B, g, false, 5⟩] := by kernel_rfl
noncomputable def R28b1 (B : List Int) (g gR off nB : Nat) : Res := runF eQ1 f86 [] 400 [.var 0 gR] [some ⟨.agg [.slice 1 1 g 0 nB none, .int .i64 (off : Nat), .int .i64 0], gR, true, 118⟩, some ⟨.ints .u8 B, g, false, 5⟩] [none, some false, some false, some false, some true, some true]
theorem R28b1_ok {B : List Int} {g gR off nB : Nat} (h : allP [.eqN gR gR, .eqN gR gR, .eqN gR gR, .eqN gR gR, .eqN g g, .leN off nB, .leN nB 140737488355000, .p (((↑(nB - off) : Int) == 0) = false), .eqN gR gR, .eqN gR gR, .eqN gR gR, .eqN gR gR, .eqN gR gR, .eqN gR gR, .eqN g g, .leI 0 (↑off : Int), .leI ((↑off : Int) + 1) (↑nB : Int), .eqN g g, .leN (off + 1) B.length, .rng
 (-9223372036854775808) (B.getD off 0 / 64) 9223372036854775807, .p ((B.getD off 0 / 64 == 3) = false), .rng 0 (B.getD off 0 / 64) 18446744073709551615, .rng 0 (B.getD off 0 / 64) 64, .rng (-9223372036854775808) (1 * 2 ^ (B.getD off 0 / 64).toNat) 9223372036854775807, .eqN gR gR, .eqN g g, .leN off nB, .leN nB 140737488355000, .p (decide ((↑(nB - off) : Int) < 1 * 2 ^ (B.getD off 0 / 64).toNat) =
 false), .eqN gR gR, .eqN g g, .p (sizedLaw (1 * 2 ^ (B.getD off 0 / 64).toNat)), .leN (off + 1 * 2 ^ (B.getD off 0 / 64).toNat) B.length, .eqN nB B.length, .leN B.length 140737488355000, .p (ByLaw B), .p (LowLaw B off (1 * 2 ^ (B.getD off 0 / 64).toNat)), .rng (-9223372036854775808) (8 * ((1 : Int) * 2 ^ (B.getD off 0 / 64).toNat)) 9223372036854775807, .rng (-9223372036854775808) (8 * ((1 : Int) *
 2 ^ (B.getD off 0 / 64).toNat) - 2) 9223372036854775807, .rng 0 (8 * ((1 : Int) * 2 ^ (B.getD off 0 / 64).toNat) - 2) 18446744073709551615, .rng 0 (8 * ((1 : Int) * 2 ^ (B.getD off 0 / 64).toNat) - 2) 64, .rng (-9223372036854775808) (1 * 2 ^ (8 * ((1 : Int) * 2 ^ (B.getD off 0 / 64).toNat) - 2).toNat) 9223372036854775807, .rng (-9223372036854775808) (1 * 2 ^ (8 * ((1 : Int) * 2 ^ (B.getD off 0 /
 64).toNat) - 2).toNat - 1) 9223372036854775807, .nn .i64 (numAtLaw (1 * 2 ^ (B.getD off 0 / 64).toNat) B off), .nn .i64 (1 * 2 ^ (8 * ((1 : Int) * 2 ^ (B.getD off 0 / 64).toNat) - 2).toNat - 1), .p (((1 : Int) * 2 ^ (B.getD off 0 / 64).toNat == 2) = true), .p (decide (iand (numAtLaw (1 * 2 ^ (B.getD off 0 / 64).toNat) B off) (1 * 2 ^ (8 * ((1 : Int) * 2 ^ (B.getD off 0 / 64).toNat) - 2).toNat - 1)
 < 64) = true), .eqN gR gR, .eqN gR gR, .eqN gR gR]) : OkR (R28b1 B g gR off nB) := OkR.dem (fl := bitsF 64 16140901064529969160) (by kernel_rfl) (by kernel_rfl) (by kernel_rfl) h
theorem R28b1_val {B : List Int} {g gR off nB : Nat} : (R28b1 B g gR off nB).val = .int .i64 0 := by kernel_rfl
theorem R28b1_tab {B : List Int} {g gR off nB : Nat} : (R28b1 B g gR off nB).tab = [some ⟨.agg [.slice 1 1 g 0 nB none, .int .i64 (↑off : Int), .int .i64 21], gR, true, 118⟩, some ⟨.ints .u8 B, g, false, 5⟩] := by kernel_rfl
noncomputable def R28g1 (B : List Int) (g gR off nB : Nat) : Res := runF eQ1 f86 [] 400 [.var 0 gR] [some ⟨.agg [.slice 1 1 g 0 nB none, .int .i64 (off : Nat), .int .i64 0], gR, true, 118⟩, some ⟨.ints .u8 B, g, false, 5⟩] [none, some false, some false, some false, some true, some false, some false]
theorem R28g1_ok {B : List Int} {g gR off nB : Nat} (h : allP [.eqN gR gR, .eqN gR gR, .eqN gR gR, .eqN gR gR, .eqN g g, .leN off nB, .leN nB 140737488355000, .p (((↑(nB - off) : Int) == 0) = false), .eqN gR gR, .eqN gR gR, .eqN gR gR, .eqN gR gR, .eqN gR gR, .eqN gR gR, .eqN g g, .leI 0 (↑off : Int), .leI ((↑off : Int) + 1) (↑nB : Int), .eqN g g, .leN (off + 1) B.length, .rng
 (-9223372036854775808) (B.getD off 0 / 64) 9223372036854775807, .p ((B.getD off 0 / 64 == 3) = false), .rng 0 (B.getD off 0 / 64) 18446744073709551615, .rng 0 (B.getD off 0 / 64) 64, .rng (-9223372036854775808) (1 * 2 ^ (B.getD off 0 / 64).toNat) 9223372036854775807, .eqN gR gR, .eqN g g, .leN off nB, .leN nB 140737488355000, .p (decide ((↑(nB - off) : Int) < 1 * 2 ^ (B.getD off 0 / 64).toNat) =
 false), .eqN gR gR, .eqN g g, .p (sizedLaw (1 * 2 ^ (B.getD off 0 / 64).toNat)), .leN (off + 1 * 2 ^ (B.getD off 0 / 64).toNat) B.length, .eqN nB B.length, .leN B.length 140737488355000, .p (ByLaw B), .p (LowLaw B off (1 * 2 ^ (B.getD off 0 / 64).toNat)), .rng (-9223372036854775808) (8 * ((1 : Int) * 2 ^ (B.getD off 0 / 64).toNat)) 9223372036854775807, .rng (-9223372036854775808) (8 * ((1 : Int) *
 2 ^ (B.getD off 0 / 64).toNat) - 2) 9223372036854775807, .rng 0 (8 * ((1 : Int) * 2 ^ (B.getD off 0 / 64).toNat) - 2) 18446744073709551615, .rng 0 (8 * ((1 : Int) * 2 ^ (B.getD off 0 / 64).toNat) - 2) 64, .rng (-9223372036854775808) (1 * 2 ^ (8 * ((1 : Int) * 2 ^ (B.getD off 0 / 64).toNat) - 2).toNat) 9223372036854775807, .rng (-9223372036854775808) (1 * 2 ^ (8 * ((1 : Int) * 2 ^ (B.getD off 0 /
 64).toNat) - 2).toNat - 1) 9223372036854775807, .nn .i64 (numAtLaw (1 * 2 ^ (B.getD off 0 / 64).toNat) B off), .nn .i64 (1 * 2 ^ (8 * ((1 : Int) * 2 ^ (B.getD off 0 / 64).toNat) - 2).toNat - 1), .p (((1 : Int) * 2 ^ (B.getD off 0 / 64).toNat == 2) = true), .p (decide (iand (numAtLaw (1 * 2 ^ (B.getD off 0 / 64).toNat) B off) (1 * 2 ^ (8 * ((1 : Int) * 2 ^ (B.getD off 0 / 64).toNat) - 2).toNat - 1)
 < 64) = false), .p (((1 : Int) * 2 ^ (B.getD off 0 / 64).toNat == 4) = false), .eqN gR gR, .eqN gR gR, .eqN gR gR, .rng (-9223372036854775808) ((↑off : Int) + 1 * 2 ^ (B.getD off 0 / 64).toNat) 9223372036854775807, .eqN gR gR, .eqN gR gR, .eqN gR gR]) : OkR (R28g1 B g gR off nB) := OkR.dem (fl := bitsF 70 1037629354146196389896) (by kernel_rfl) (by kernel_rfl) (by kernel_rfl) h
theorem R28g1_val {B : List Int} {g gR off nB : Nat} : (R28g1 B g gR off nB).val = .int .i64 (iand (numAtLaw (1 * 2 ^ (B.getD off 0 / 64).toNat) B off) (1 * 2 ^ (8 * ((1 : Int) * 2 ^ (B.getD off 0 / 64).toNat) - 2).toNat - 1)) := by kernel_rfl
theorem R28g1_tab {B : List Int} {g gR off nB : Nat} : (R28g1 B g gR off nB).tab = [some ⟨.agg [.slice 1 1 g 0 nB none, .int .i64 ((↑off : Int) + 1 * 2 ^ (B.getD off 0 / 64).toNat), .int .i64 0], gR, true, 118⟩, some ⟨.ints .u8 B, g, false, 5⟩] := by kernel_rfl
noncomputable def R28b2 (B : List Int) (g gR off nB : Nat) : Res := runF eQ1 f86 [] 400 [.var 0 gR] [some ⟨.agg [.slice 1 1 g 0 nB none, .int .i64 (off : Nat), .int .i64 0], gR, true, 118⟩, some ⟨.ints .u8 B, g, false, 5⟩] [none, some false, some false, some false, some false, some true, some true]
theorem R28b2_ok {B : List Int} {g gR off nB : Nat} (h : allP [.eqN gR gR, .eqN gR gR, .eqN gR gR, .eqN gR gR, .eqN g g, .leN off nB, .leN nB 140737488355000, .p (((↑(nB - off) : Int) == 0) = false), .eqN gR gR, .eqN gR gR, .eqN gR gR, .eqN gR gR, .eqN gR gR, .eqN gR gR, .eqN g g, .leI 0 (↑off : Int), .leI ((↑off : Int) + 1) (↑nB : Int), .eqN g g, .leN (off + 1) B.length, .rng
 (-9223372036854775808) (B.getD off 0 / 64) 9223372036854775807, .p ((B.getD off 0 / 64 == 3) = false), .rng 0 (B.getD off 0 / 64) 18446744073709551615, .rng 0 (B.getD off 0 / 64) 64, .rng (-9223372036854775808) (1 * 2 ^ (B.getD off 0 / 64).toNat) 9223372036854775807, .eqN gR gR, .eqN g g, .leN off nB, .leN nB 140737488355000, .p (decide ((↑(nB - off) : Int) < 1 * 2 ^ (B.getD off 0 / 64).toNat) =
 false), .eqN gR gR, .eqN g g, .p (sizedLaw (1 * 2 ^ (B.getD off 0 / 64).toNat)), .leN (off + 1 * 2 ^ (B.getD off 0 / 64).toNat) B.length, .eqN nB B.length, .leN B.length 140737488355000, .p (ByLaw B), .p (LowLaw B off (1 * 2 ^ (B.getD off 0 / 64).toNat)), .rng (-9223372036854775808) (8 * ((1 : Int) * 2 ^ (B.getD off 0 / 64).toNat)) 9223372036854775807, .rng (-9223372036854775808) (8 * ((1 : Int) *
 2 ^ (B.getD off 0 / 64).toNat) - 2) 9223372036854775807, .rng 0 (8 * ((1 : Int) * 2 ^ (B.getD off 0 / 64).toNat) - 2) 18446744073709551615, .rng 0 (8 * ((1 : Int) * 2 ^ (B.getD off 0 / 64).toNat) - 2) 64, .rng (-9223372036854775808) (1 * 2 ^ (8 * ((1 : Int) * 2 ^ (B.getD off 0 / 64).toNat) - 2).toNat) 9223372036854775807, .rng (-9223372036854775808) (1 * 2 ^ (8 * ((1 : Int) * 2 ^ (B.getD off 0 /
 64).toNat) - 2).toNat - 1) 9223372036854775807, .nn .i64 (numAtLaw (1 * 2 ^ (B.getD off 0 / 64).toNat) B off), .nn .i64 (1 * 2 ^ (8 * ((1 : Int) * 2 ^ (B.getD off 0 / 64).toNat) - 2).toNat - 1), .p (((1 : Int) * 2 ^ (B.getD off 0 / 64).toNat == 2) = false), .p (((1 : Int) * 2 ^ (B.getD off 0 / 64).toNat == 4) = true), .p (decide (iand (numAtLaw (1 * 2 ^ (B.getD off 0 / 64).toNat) B off) (1 * 2 ^ (8
 * ((1 : Int) * 2 ^ (B.getD off 0 / 64).toNat) - 2).toNat - 1) < 16384) = true), .eqN gR gR, .eqN gR gR, .eqN gR gR]) : OkR (R28b2 B g gR off nB) := OkR.dem (fl := bitsF 65 32281802129025826824) (by kernel_rfl) (by kernel_rfl) (by kernel_rfl) h
theorem R28b2_val {B : List Int} {g gR off nB : Nat} : (R28b2 B g gR off nB).val = .int .i64 0 := by kernel_rfl
theorem R28b2_tab {B : List Int} {g gR off nB : Nat} : (R28b2 B g gR off nB).tab = [some ⟨.agg [.slice 1 1 g 0 nB none, .int .i64 (↑off : Int), .int .i64 21], gR, true, 118⟩, some ⟨.ints .u8 B, g, false, 5⟩] := by kernel_rfl
noncomputable def R28g2 (B : List Int) (g gR off nB : Nat) : Res := runF eQ1 f86 [] 400 [.var 0 gR] [some ⟨.agg [.slice 1 1 g 0 nB none, .int .i64 (off : Nat), .int .i64 0], gR, true, 118⟩, some ⟨.ints .u8 B, g, false, 5⟩] [none, some false, some false, some false, some false, some true, some false]
theorem R28g2_ok {B : List Int} {g gR off nB : Nat} (h : allP [.eqN gR gR, .eqN gR gR, .eqN gR gR, .eqN gR gR, .eqN g g, .leN off nB, .leN nB 140737488355000, .p (((↑(nB - off) : Int) == 0) = false), .eqN gR gR, .eqN gR gR, .eqN gR gR, .eqN gR gR, .eqN gR gR, .eqN gR gR, .eqN g g, .leI 0 (↑off : Int), .leI ((↑off : Int) + 1) (↑nB : Int), .eqN g g, .leN (off + 1) B.length, .rng
 (-9223372036854775808) (B.getD off 0 / 64) 9223372036854775807, .p ((B.getD off 0 / 64 == 3) = false), .rng 0 (B.getD off 0 / 64) 18446744073709551615, .rng 0 (B.getD off 0 / 64) 64, .rng (-9223372036854775808) (1 * 2 ^ (B.getD off 0 / 64).toNat) 9223372036854775807, .eqN gR gR, .eqN g g, .leN off nB, .leN nB 140737488355000, .p (decide ((↑(nB - off) : Int) < 1 * 2 ^ (B.getD off 0 / 64).toNat) =
 false), .eqN gR gR, .eqN g g, .p (sizedLaw (1 * 2 ^ (B.getD off 0 / 64).toNat)), .leN (off + 1 * 2 ^ (B.getD off 0 / 64).toNat) B.length, .eqN nB B.length, .leN B.length 140737488355000, .p (ByLaw B), .p (LowLaw B off (1 * 2 ^ (B.getD off 0 / 64).toNat)), .rng (-9223372036854775808) (8 * ((1 : Int) * 2 ^ (B.getD off 0 / 64).toNat)) 9223372036854775807, .rng (-9223372036854775808) (8 * ((1 : Int) *
 2 ^ (B.getD off 0 / 64).toNat) - 2) 9223372036854775807, .rng 0 (8 * ((1 : Int) * 2 ^ (B.getD off 0 / 64).toNat) - 2) 18446744073709551615, .rng 0 (8 * ((1 : Int) * 2 ^ (B.getD off 0 / 64).toNat) - 2) 64, .rng (-9223372036854775808) (1 * 2 ^ (8 * ((1 : Int) * 2 ^ (B.getD off 0 / 64).toNat) - 2).toNat) 9223372036854775807, .rng (-9223372036854775808) (1 * 2 ^ (8 * ((1 : Int) * 2 ^ (B.getD off 0 /
 64).toNat) - 2).toNat - 1) 9223372036854775807, .nn .i64 (numAtLaw (1 * 2 ^ (B.getD off 0 / 64).toNat) B off), .nn .i64 (1 * 2 ^ (8 * ((1 : Int) * 2 ^ (B.getD off 0 / 64).toNat) - 2).toNat - 1), .p (((1 : Int) * 2 ^ (B.getD off 0 / 64).toNat == 2) = false), .p (((1 : Int) * 2 ^ (B.getD off 0 / 64).toNat == 4) = true), .p (decide (iand (numAtLaw (1 * 2 ^ (B.getD off 0 / 64).toNat) B off) (1 * 2 ^ (8
 * ((1 : Int) * 2 ^ (B.getD off 0 / 64).toNat) - 2).toNat - 1) < 16384) = false), .eqN gR gR, .eqN gR gR, .eqN gR gR, .rng (-9223372036854775808) ((↑off : Int) + 1 * 2 ^ (B.getD off 0 / 64).toNat) 9223372036854775807, .eqN gR gR, .eqN gR gR, .eqN gR gR]) : OkR (R28g2 B g gR off nB) := OkR.dem (fl := bitsF 70 1037629354146196389896) (by kernel_rfl) (by kernel_rfl) (by kernel_rfl) h
theorem R28g2_val {B : List Int} {g gR off nB : Nat} : (R28g2 B g gR off nB).val = .int .i64 (iand (numAtLaw (1 * 2 ^ (B.getD off 0 / 64).toNat) B off) (1 * 2 ^ (8 * ((1 : Int) * 2 ^ (B.getD off 0 / 64).toNat) - 2).toNat - 1)) := by kernel_rfl
theorem R28g2_tab {B : List Int} {g gR off nB : Nat} : (R28g2 B g gR off nB).tab = [some ⟨.agg [.slice 1 1 g 0 nB none, .int .i64 ((↑off : Int) + 1 * 2 ^ (B.getD off 0 / 64).toNat), .int .i64 0], gR, true, 118⟩, some ⟨.ints .u8 B, g, false, 5⟩] := by kernel_rfl
noncomputable def R32e (B : List Int) (g gR off nB : Nat) (e m : Int) : Res := runF eQ1 f87 [] 400 [.var 0 gR, .int .i64 m] [some ⟨.agg [.slice 1 1 g 0 nB none, .int .i64 (off : Nat), .int .i64 e], gR, true, 118⟩, some ⟨.ints .u8 B, g, false, 5⟩] [some true]
theorem R32e_ok {B : List Int} {g gR off nB : Nat} {e m : Int} (h : allP [.eqN gR gR, .eqN gR gR, .eqN gR gR, .p ((e != 0) = true)]) : OkR (R32e B g gR off nB e m) := OkR.dem (fl := [false, false, false, true, false]) (by kernel_rfl) (by kernel_rfl) (by kernel_rfl) h
theorem R32e_val {B : List Int} {g gR off nB : Nat} {e m : Int} : (R32e B g gR off nB e m).val = .nilSlice := by kernel_rfl
theorem R32e_tab {B : List Int} {g gR off nB : Nat} {e m : Int} : (R32e B g gR off nB e m).tab = [some ⟨.agg [.slice 1 1 g 0 nB none, .int .i64 (↑off : Int), .int .i64 e], gR, true, 118⟩, some ⟨.ints .u8 B, g, false, 5⟩] := by kernel_rfl
noncomputable def R32a (B : List Int) (g gR off nB : Nat) (m : Int) : Res := runF eQ1 f87 [] 400 [.var 0 gR, .int .i64 m] [some ⟨.agg [.slice 1 1 g 0 nB none, .int .i64 (off : Nat), .int .i64 0], gR, true, 118⟩, some ⟨.ints .u8 B, g, false, 5⟩] [none, some true]
theorem R32a_ok {B : List Int} {g gR off nB : Nat} {m : Int} (h : allP [.eqN gR gR, .eqN gR gR, .eqN gR gR, .p (decide (m < 0) = true), .eqN gR gR, .eqN gR gR, .eqN gR gR]) : OkR (R32a B g gR off nB m) := OkR.dem (fl := [false, false, false, true, false, false, false, false, true, true, true]) (by kernel_rfl) (by kernel_rfl) (by kernel_rfl) h
theorem R32a_val {B : List Int} {g gR off nB : Nat} {m : Int} : (R32a B g gR off nB m).val = .nilSlice := by kernel_rfl
theorem R32a_tab {B : List Int} {g gR off nB : Nat} {m : Int} : (R32a B g gR off nB m).tab = [some ⟨.agg [.slice 1 1 g 0 nB none, .int .i64 (↑off : Int), .int .i64 1], gR, true, 118⟩, some ⟨.ints .u8 B, g, false, 5⟩] := by kernel_rfl
noncomputable def R32s (B : List Int) (g gR off nB : Nat) (m : Int) : Res := runF eQ1 f87 [] 400 [.var 0 gR, .int .i64 m] [some ⟨.agg [.slice 1 1 g 0 nB none, .int .i64 (off : Nat), .int .i64 0], gR, true, 118⟩, some ⟨.ints .u8 B, g, false, 5⟩] [none, some false, some true]
theorem R32s_ok {B : List Int} {g gR off nB : Nat} {m : Int} (h : allP [.eqN gR gR, .eqN gR gR, .eqN gR gR, .p (decide (m < 0) = false), .eqN gR gR, .eqN g g, .leN off nB, .leN nB 140737488355000, .p (decide ((↑(nB - off) : Int) < m) = true), .eqN gR gR, .eqN gR gR, .eqN gR gR]) : OkR (R32s B g gR off nB m) := OkR.dem (fl := bitsF 18 229384) (by kernel_rfl) (by kernel_rfl) (by kernel_rfl) h
theorem R32s_val {B : List Int} {g gR off nB : Nat} {m : Int} : (R32s B g gR off nB m).val = .nilSlice := by kernel_rfl
theorem R32s_tab {B : List Int} {g gR off nB : Nat} {m : Int} : (R32s B g gR off nB m).tab = [some ⟨.agg [.slice 1 1 g 0 nB none, .int .i64 (↑off : Int), .int .i64 20], gR, true, 118⟩, some ⟨.ints .u8 B, g, false, 5⟩] := by kernel_rfl
noncomputable def R32g (B : List Int) (g gR off nB : Nat) (m : Nat) : Res := resG 2 [0,1,2] (runF eQ1 f87 [] 400 [.var 0 gR, .int .i64 (m : Nat)] [some ⟨.agg [.slice 1 1 g 0 nB none, .int .i64 (off : Nat), .int .i64 0], gR, true, 118⟩, some ⟨.ints .u8 B, g, false, 5⟩] [none, some false, some false])
theorem R32g_ok {B : List Int} {g gR off nB : Nat} {m : Nat} (h : allP [.eqN gR gR, .eqN gR gR, .eqN gR gR, .p (false = false), .eqN gR gR, .eqN g g, .leN off nB, .leN nB 140737488355000, .p (decide ((↑(nB - off) : Int) < (↑m : Int)) = false), .eqN gR gR, .eqN gR gR, .eqN gR gR, .rng (-9223372036854775808) ((↑off : Int) + (↑m : Int)) 9223372036854775807, .eqN gR gR, .eqN gR gR, .eqN gR gR, .eqN gR
 gR, .eqN gR gR, .eqN gR gR, .eqN gR gR, .eqN gR gR, .eqN gR gR, .rng (-9223372036854775808) ((↑off : Int) + (↑m : Int) - (↑m : Int)) 9223372036854775807, .eqN gR gR, .eqN gR gR, .eqN gR gR, .leI 0 ((↑off : Int) + (↑m : Int) - (↑m : Int)), .leI 0 ((↑off : Int) + (↑m : Int)), .eqN g g, .leN ((↑off : Int) + (↑m : Int) - (↑m : Int)).toNat (off + m), .orN (off + m) nB (0 + (off + m)) B.length, .leN
 (subO (off + m) ((↑off : Int) + (↑m : Int) - (↑m : Int)).toNat) 140737488355328, .eqN g g, .leN (((↑off : Int) + (↑m : Int) - (↑m : Int)).toNat + subO (off + m) ((↑off : Int) + (↑m : Int) - (↑m : Int)).toNat) B.length]) : OkR (R32g B g gR off nB m) := OkR.dem (fl := bitsF 51 616010540417032) (by kernel_rfl) (by kernel_rfl) (by kernel_rfl) h
theorem R32g_val {B : List Int} {g gR off nB : Nat} {m : Nat} : (R32g B g gR off nB m).val = .slice 1 2 1 0 (subO (off + m) ((↑off : Int) + (↑m : Int) - (↑m : Int)).toNat) none := by kernel_rfl
theorem R32g_tab {B : List Int} {g gR off nB : Nat} {m : Nat} : (R32g B g gR off nB m).tab = [some ⟨.agg [.slice 1 1 g 0 nB none, .int .i64 ((↑off : Int) + (↑m : Int)), .int .i64 0], gR, true, 118⟩, some ⟨.ints .u8 B, g, false, 5⟩, some ⟨.ints .u8 ([] ++ List.take (subO (off + m) ((↑off : Int) + (↑m : Int) - (↑m : Int)).toNat) (dropO ((↑off : Int) + (↑m : Int) - (↑m : Int)).toNat B)), 1, true, 5⟩]
 := by kernel_rfl
noncomputable def R37e (B : List Int) (g gR off nB : Nat) (e : Int) : Res := runF eQ1 f47 [] 400 [.var 0 gR] [some ⟨.agg [.slice 1 1 g 0 nB none, .int .i64 (off : Nat), .int .i64 e], gR, true, 118⟩, some ⟨.ints .u8 B, g, false, 5⟩] [some false]
theorem R37e_ok {B : List Int} {g gR off nB : Nat} {e : Int} (h : allP [.eqN gR gR, .eqN gR gR, .eqN gR gR, .p ((e == 0) = false), .eqN gR gR, .eqN gR gR, .eqN gR gR]) : OkR (R37e B g gR off nB e) := OkR.dem (fl := [false, false, false, true, false, false, false, false, true]) (by kernel_rfl) (by kernel_rfl) (by kernel_rfl) h
theorem R37e_val {B : List Int} {g gR off nB : Nat} {e : Int} : (R37e B g gR off nB e).val = .int .i64 e := by kernel_rfl
theorem R37e_tab {B : List Int} {g gR off nB : Nat} {e : Int} : (R37e B g gR off nB e).tab = [some ⟨.agg [.slice 1 1 g 0 nB none, .int .i64 (↑off : Int), .int .i64 e], gR, true, 118⟩, some ⟨.ints .u8 B, g, false, 5⟩] := by kernel_rfl
noncomputable def R37m (B : List Int) (g gR off nB : Nat) : Res := runF eQ1 f47 [] 400 [.var 0 gR] [some ⟨.agg [.slice 1 1 g 0 nB none, .int .i64 (off : Nat), .int .i64 0], gR, true, 118⟩, some ⟨.ints .u8 B, g, false, 5⟩] [none, some true]
theorem R37m_ok {B : List Int} {g gR off nB : Nat} (h : allP [.eqN gR gR, .eqN gR gR, .eqN gR gR, .eqN gR gR, .eqN g g, .leN off nB, .leN nB 140737488355000, .p (decide (0 < (↑(nB - off) : Int)) = true)]) : OkR (R37m B g gR off nB) := OkR.dem (fl := [false, false, false, true, false, false, false, false, false, false, false]) (by kernel_rfl) (by kernel_rfl) (by kernel_rfl) h
theorem R37m_val {B : List Int} {g gR off nB : Nat} : (R37m B g gR off nB).val = .int .i64 21 := by kernel_rfl
theorem R37m_tab {B : List Int} {g gR off nB : Nat} : (R37m B g gR off nB).tab = [some ⟨.agg [.slice 1 1 g 0 nB none, .int .i64 (↑off : Int), .int .i64 0], gR, true, 118⟩, some ⟨.ints .u8 B, g, false, 5⟩] := by kernel_rfl
noncomputable def R37z (B : List Int) (g gR off nB : Nat) : Res := runF eQ1 f47 [] 400 [.var 0 gR] [some ⟨.agg [.slice 1 1 g 0 nB none, .int .i64 (off : Nat), .int .i64 0], gR, true, 118⟩, some ⟨.ints .u8 B, g, false, 5⟩] [none, some false]
theorem R37z_ok {B : List Int} {g gR off nB : Nat} (h : allP [.eqN gR gR, .eqN gR gR, .eqN gR gR, .eqN gR gR, .eqN g g, .leN off nB, .leN nB 140737488355000, .p (decide (0 < (↑(nB - off) : Int)) = false), .eqN gR gR, .eqN gR gR, .eqN gR gR]) : OkR (R37z B g gR off nB) := OkR.dem (fl := bitsF 15 16392) (by kernel_rfl) (by kernel_rfl) (by kernel_rfl) h
theorem R37z_val {B : List Int} {g gR off nB : Nat} : (R37z B g gR off nB).val = .int .i64 0 := by kernel_rfl
theorem R37z_tab {B : List Int} {g gR off nB : Nat} : (R37z B g gR off nB).tab = [some ⟨.agg [.slice 1 1 g 0 nB none, .int .i64 (↑off : Int), .int .i64 0], gR, true, 118⟩, some ⟨.ints .u8 B, g, false, 5⟩] := by kernel_rfl
end Go.Abs

set_option linter.unusedVariables false
set_option linter.unusedSimpArgs false
set_option maxRecDepth 100000
set_option maxHeartbeats 4000000
namespace Go.Abs
open Go.Proofs Go.Proofs.Try
/-! ### the document: the reader: what it answers -/
noncomputable def sm26c (args : List AVal) (T : Tab) (B : List Int) (g : Nat) (gR : Nat) (off : Nat) (nB : Nat) (e : Int) (size : Int) : Res := ⟨[.tab T [some ⟨.agg [.slice 1 1 g 0 nB none, .int .i64 (off : Nat), .int .i64 e], gR, true, 118⟩, some ⟨.ints .u8 B, g, false, 5⟩], .val (.tuple args) (.tuple [.var 0 gR, .int .i64 size]), .eqN nB B.length, .leN off B.length, .p (ByLaw B), .leN B.length 140737488355000], .int .i64 (rnVLaw B off e size), [some ⟨.agg [.slice 1 1 g 0 nB none, .int .i64 (rnOLaw B off e size : Nat), .int .i64 (rnELaw B off e size)], gR, true, 118⟩, some ⟨.ints .u8 B, g, false, 5⟩]⟩
theorem sm26c_ok {args : List AVal} {T : Tab} {B : List Int} {g : Nat} {gR : Nat} {off : Nat} {nB : Nat} {e : Int} {size : Int} (h : allP (sm26c args T B g gR off nB e size).cs) : Small prog (fun _ => none) 63 args T (sm26c args T B g gR off nB e size).val (sm26c args T B g gR off nB e size).tab := by
  obtain ⟨hT, hv, h1, h2, h3, h4, _⟩ := h
  simp only [Con.h] at hT hv h1 h2 h3 h4
  injection hv with hv
  subst hT hv
  show Small prog (fun _ => none) 63 [.var 0 gR, .int .i64 size] [some ⟨.agg [.slice 1 1 g 0 nB none, .int .i64 (off : Nat), .int .i64 e], gR, true, 118⟩, some ⟨.ints .u8 B, g, false, 5⟩] (.int .i64 (rnVLaw B off e size)) [some ⟨.agg [.slice 1 1 g 0 nB none, .int .i64 (rnOLaw B off e size : Nat), .int .i64 (rnELaw B off e size)], gR, true, 118⟩, some ⟨.ints .u8 B, g, false, 5⟩]
  have hb : ByLaw B := h3
  subst h1
  by_cases he : e = 0
  rotate_left
  · have hr := rn_e (B := B) (off := off) size he
    have hne : (e != 0) = true := bne_iff_ne.2 he
    simp only [rnVLaw, rnOLaw, rnELaw, hr]
    refine small_of (R := R26e B g gR off B.length e size) eQ1_ok hmN (f := 63) (fn := f63) (by kernel_rfl) (by kernel_rfl) FnOrc.nil rfl (R26e_ok ?_) R26e_val R26e_tab
    simp only [allP, Con.h, hne, not_false_eq_true, eq_self, true_and, and_true]
  subst he
  by_cases hs : sizedLaw size
  rotate_left
  · have hr := rn_x (B := B) (off := off) hs
    obtain ⟨u1, u2, u3, u4⟩ := unsz hs
    simp only [rnVLaw, rnOLaw, rnELaw, hr]
    refine small_of (R := R26x B g gR off B.length size) eQ1x_ok hmN (f := 63) (fn := f63) (by kernel_rfl) (by kernel_rfl) FnOrc.nil rfl (R26x_ok ?_) R26x_val R26x_tab
    simp only [allP, Con.h, u1, u2, u3, u4, not_false_eq_true, eq_self, true_and, and_true]
  by_cases hl : ((B.length - off : Nat) : Int) < size
  · have hr := rn_s hs hl
    simp only [rnVLaw, rnOLaw, rnELaw, hr]
    rcases hs with rfl | rfl | rfl | rfl
    · refine small_of (R := R26s1 B g gR off B.length) eQ1_ok hmN (f := 63) (fn := f63) (by kernel_rfl) (by kernel_rfl) FnOrc.nil rfl (R26s1_ok ?_) R26s1_val R26s1_tab
      simp only [allP, Con.h, decide_eq_true_eq, decide_eq_false_iff_not, not_false_eq_true, eq_self, true_and, and_true]
      omega
    · refine small_of (R := R26s2 B g gR off B.length) eQ1_ok hmN (f := 63) (fn := f63) (by kernel_rfl) (by kernel_rfl) FnOrc.nil rfl (R26s2_ok ?_) R26s2_val R26s2_tab
      simp only [allP, Con.h, decide_eq_true_eq, decide_eq_false_iff_not, not_false_eq_true, eq_self, true_and, and_true]
      omega
    · refine small_of (R := R26s4 B g gR off B.length) eQ1_ok hmN (f := 63) (fn := f63) (by kernel_rfl) (by kernel_rfl) FnOrc.nil rfl (R26s4_ok ?_) R26s4_val R26s4_tab
      simp only [allP, Con.h, decide_eq_true_eq, decide_eq_false_iff_not, not_false_eq_true, eq_self, true_and, and_true]
      omega
    · refine small_of (R := R26s8 B g gR off B.length) eQ1_ok hmN (f := 63) (fn := f63) (by kernel_rfl) (by kernel_rfl) FnOrc.nil rfl (R26s8_ok ?_) R26s8_val R26s8_tab
      simp only [allP, Con.h, decide_eq_true_eq, decide_eq_false_iff_not, not_false_eq_true, eq_self, true_and, and_true]
      omega
  by_cases hr8 : size = 8 ∧ 64 ≤ B.getD off 0
  · obtain ⟨rfl, h8⟩ := hr8
    have hr := rn_r hl h8
    simp only [rnVLaw, rnOLaw, rnELaw, hr]
    refine small_of (R := R26r B g gR off B.length) eQ1_ok hmN (f := 63) (fn := f63) (by kernel_rfl) (by kernel_rfl) FnOrc.nil rfl (R26r_ok ?_) R26r_val R26r_tab
    simp only [allP, Con.h, h8, decide_eq_true_eq, decide_eq_false_iff_not, not_false_eq_true, eq_self, true_and, and_true]
    omega
  have hlow : LowLaw B off size := fun h => by omega
  have hr := rn_g hs hl hlow
  simp only [rnVLaw, rnOLaw, rnELaw, hr]
  rcases hs with rfl | rfl | rfl | rfl
  · have hz : sizedLaw (OfNat.ofNat 1) := by unfold sizedLaw; decide
    have hlow' : LowLaw B off (OfNat.ofNat 1) := hlow
    refine small_of (R := R26g1 B g gR off B.length) eQ1_ok hmN (f := 63) (fn := f63) (by kernel_rfl) (by kernel_rfl) FnOrc.nil rfl (R26g1_ok ?_) R26g1_val R26g1_tab
    simp only [allP, Con.h, hb, hz, hlow', decide_eq_true_eq, decide_eq_false_iff_not, not_false_eq_true, eq_self, true_and, and_true]
    omega
  · have hz : sizedLaw (OfNat.ofNat 2) := by unfold sizedLaw; decide
    have hlow' : LowLaw B off (OfNat.ofNat 2) := hlow
    refine small_of (R := R26g2 B g gR off B.length) eQ1_ok hmN (f := 63) (fn := f63) (by kernel_rfl) (by kernel_rfl) FnOrc.nil rfl (R26g2_ok ?_) R26g2_val R26g2_tab
    simp only [allP, Con.h, hb, hz, hlow', decide_eq_true_eq, decide_eq_false_iff_not, not_false_eq_true, eq_self, true_and, and_true]
    omega
  · have hz : sizedLaw (OfNat.ofNat 4) := by unfold sizedLaw; decide
    have hlow' : LowLaw B off (OfNat.ofNat 4) := hlow
    refine small_of (R := R26g4 B g gR off B.length) eQ1_ok hmN (f := 63) (fn := f63) (by kernel_rfl) (by kernel_rfl) FnOrc.nil rfl (R26g4_ok ?_) R26g4_val R26g4_tab
    simp only [allP, Con.h, hb, hz, hlow', decide_eq_true_eq, decide_eq_false_iff_not, not_false_eq_true, eq_self, true_and, and_true]
    omega
  · have hz : sizedLaw (OfNat.ofNat 8) := by unfold sizedLaw; decide
    have hlow' : LowLaw B off (OfNat.ofNat 8) := hlow
    have h8 : ¬ 64 ≤ B.getD off 0 := by have := hlow rfl; omega
    refine small_of (R := R26g8 B g gR off B.length) eQ1_ok hmN (f := 63) (fn := f63) (by kernel_rfl) (by kernel_rfl) FnOrc.nil rfl (R26g8_ok ?_) R26g8_val R26g8_tab
    simp only [allP, Con.h, hb, hz, hlow', h8, decide_eq_true_eq, decide_eq_false_iff_not, not_false_eq_true, eq_self, true_and, and_true]
    omega
noncomputable def sm26 : Summary := fun args T => sm26c args T (xsAt T 1) (gAt T 1) (gAt T 0) ((iOf (cAt T 0 1)).toNat) (lenOf (cAt T 0 0)) (iOf (cAt T 0 2)) (iOf (vAt args 1))
theorem sm26_ok : SmOk prog (fun _ => none) 63 sm26 := fun args T h => sm26c_ok h
noncomputable def S26r : Summary := callR sm26 [true]
theorem S26r_ok : SumOk prog (fun _ => none) 63 S26r := callR_ok sm26_ok [true]
noncomputable def sm28c (args : List AVal) (T : Tab) (B : List Int) (g : Nat) (gR : Nat) (off : Nat) (nB : Nat) (e : Int) : Res := ⟨[.tab T [some ⟨.agg [.slice 1 1 g 0 nB none, .int .i64 (off : Nat), .int .i64 e], gR, true, 118⟩, some ⟨.ints .u8 B, g, false, 5⟩], .val (.tuple args) (.tuple [.var 0 gR]), .eqN nB B.length, .leN off B.length, .p (ByLaw B), .leN B.length 140737488355000], .int .i64 (rlVLaw B off e), [some ⟨.agg [.slice 1 1 g 0 nB none, .int .i64 (rlOLaw B off e : Nat), .int .i64 (rlELaw B off e)], gR, true, 118⟩, some ⟨.ints .u8 B, g, false, 5⟩]⟩
theorem sm28c_ok {args : List AVal} {T : Tab} {B : List Int} {g : Nat} {gR : Nat} {off : Nat} {nB : Nat} {e : Int} (h : allP (sm28c args T B g gR off nB e).cs) : Small prog (fun _ => none) 86 args T (sm28c args T B g gR off nB e).val (sm28c args T B g gR off nB e).tab := by
  obtain ⟨hT, hv, h1, h2, h3, h4, _⟩ := h
  simp only [Con.h] at hT hv h1 h2 h3 h4
  injection hv with hv
  subst hT hv
  show Small prog (fun _ => none) 86 [.var 0 gR] [some ⟨.agg [.slice 1 1 g 0 nB none, .int .i64 (off : Nat), .int .i64 e], gR, true, 118⟩, some ⟨.ints .u8 B, g, false, 5⟩] (.int .i64 (rlVLaw B off e)) [some ⟨.agg [.slice 1 1 g 0 nB none, .int .i64 (rlOLaw B off e : Nat), .int .i64 (rlELaw B off e)], gR, true, 118⟩, some ⟨.ints .u8 B, g, false, 5⟩]
  have hb : ByLaw B := h3
  subst h1
  by_cases he : e = 0
  rotate_left
  · have hr := rl_e (B := B) (off := off) he
    have hne : (e != 0) = true := bne_iff_ne.2 he
    simp only [rlVLaw, rlOLaw, rlELaw, hr]
    refine small_of (R := R28e B g gR off B.length e) eQ1_ok hmN (f := 86) (fn := f86) (by kernel_rfl) (by kernel_rfl) FnOrc.nil rfl (R28e_ok ?_) R28e_val R28e_tab
    simp only [allP, Con.h, hne, not_false_eq_true, eq_self, true_and, and_true]
  subst he
  have hB := hb off
  by_cases hn : B.length - off = 0
  · have hr := rl_z hn
    have hq : (((B.length - off : Nat) : Int) == 0) = true := by rw [beq_iff_eq]; omega
    simp only [rlVLaw, rlOLaw, rlELaw, hr]
    refine small_of (R := R28z B g gR off B.length) eQ1_ok hmN (f := 86) (fn := f86) (by kernel_rfl) (by kernel_rfl) FnOrc.nil rfl (R28z_ok ?_) R28z_val R28z_tab
    simp only [allP, Con.h, hq, h2, h4, Nat.le_refl, not_false_eq_true, eq_self, true_and, and_true]
  have hq : (((B.length - off : Nat) : Int) == 0) = false := by rw [beq_eq_false_iff_ne]; omega
  by_cases ht : B.getD off 0 / 64 = 3
  · have hr := rl_f hn ht
    simp only [rlVLaw, rlOLaw, rlELaw, hr]
    refine small_of (R := R28f B g gR off B.length) eQ1_ok hmN (f := 86) (fn := f86) (by kernel_rfl) (by kernel_rfl) FnOrc.nil rfl (R28f_ok ?_) R28f_val R28f_tab
    simp only [allP, Con.h, ht, nonneg, hq, Int.reduceMul, Int.reducePow, Int.reduceSub, Int.reduceAdd, Int.reduceToNat, Nat.reducePow, Nat.reduceMul, Nat.reduceSub, Int.reduceLT, Int.reduceLE, Nat.reduceLT, Nat.reduceLeDiff, Int.one_mul, Nat.one_mul, decide_true, decide_false, decide_eq_true_eq, decide_eq_false_iff_not, beq_iff_eq, beq_eq_false_iff_ne, ne_eq, not_false_eq_true, eq_self, true_and, and_true]
    omega
  have htt : B.getD off 0 / 64 = 0 ∨ B.getD off 0 / 64 = 1 ∨ B.getD off 0 / 64 = 2 := by omega
  clear ht
  rcases htt with ht | ht | ht
  · have hz : sizedLaw 1 := by unfold sizedLaw; decide
    have hlow : LowLaw B off 1 := fun h => absurd h (by decide)
    have hrg := beN_rng hb off 1
    have hrg1 : 0 ≤ numAtLaw 1 B off := hrg.1
    have hrg2 : numAtLaw 1 B off < 256 := hrg.2
    have hip := iand_pos (numAtLaw 1 B off) 63
    by_cases hl : B.length - off < 1
    · have hr := (rl_0 hn ht).trans (rlT_s hl)
      simp only [rlVLaw, rlOLaw, rlELaw, hr]
      refine small_of (R := R28s B g gR off B.length) eQ1_ok hmN (f := 86) (fn := f86) (by kernel_rfl) (by kernel_rfl) FnOrc.nil rfl (R28s_ok ?_) R28s_val R28s_tab
      simp only [allP, Con.h, ht, nonneg, hq, Int.reduceMul, Int.reducePow, Int.reduceSub, Int.reduceAdd, Int.reduceToNat, Nat.reducePow, Nat.reduceMul, Nat.reduceSub, Int.reduceLT, Int.reduceLE, Nat.reduceLT, Nat.reduceLeDiff, Int.one_mul, Nat.one_mul, decide_true, decide_false, decide_eq_true_eq, decide_eq_false_iff_not, beq_iff_eq, beq_eq_false_iff_ne, ne_eq, not_false_eq_true, eq_self, true_and, and_true]
      omega
    have hv : ¬ iand (numAtLaw 1 B off) 63 < 0 := by omega
    have hr := (rl_0 hn ht).trans (rlT_g hl hv)
    simp only [rlVLaw, rlOLaw, rlELaw, hr]
    refine small_of (R := R28g B g gR off B.length) eQ1_ok hmN (f := 86) (fn := f86) (by kernel_rfl) (by kernel_rfl) FnOrc.nil rfl (R28g_ok ?_) (by rw [R28g_val]; simp only [ht]; rfl) (by rw [R28g_tab]; simp only [ht]; rfl)
    simp only [allP, Con.h, ht, nonneg, hq, hz, hb, hlow, hv, Int.reduceMul, Int.reducePow, Int.reduceSub, Int.reduceAdd, Int.reduceToNat, Nat.reducePow, Nat.reduceMul, Nat.reduceSub, Int.reduceLT, Int.reduceLE, Nat.reduceLT, Nat.reduceLeDiff, Int.one_mul, Nat.one_mul, decide_true, decide_false, decide_eq_true_eq, decide_eq_false_iff_not, beq_iff_eq, beq_eq_false_iff_ne, ne_eq, not_false_eq_true, eq_self, true_and, and_true]
    omega
  · have hz : sizedLaw 2 := by unfold sizedLaw; decide
    have hlow : LowLaw B off 2 := fun h => absurd h (by decide)
    have hrg := beN_rng hb off 2
    have hrg1 : 0 ≤ numAtLaw 2 B off := hrg.1
    have hrg2 : numAtLaw 2 B off < 65536 := hrg.2
    have hip := iand_pos (numAtLaw 2 B off) 16383
    by_cases hl : B.length - off < 2
    · have hr := (rl_1 hn ht).trans (rlT_s hl)
      simp only [rlVLaw, rlOLaw, rlELaw, hr]
      refine small_of (R := R28s B g gR off B.length) eQ1_ok hmN (f := 86) (fn := f86) (by kernel_rfl) (by kernel_rfl) FnOrc.nil rfl (R28s_ok ?_) R28s_val R28s_tab
      simp only [allP, Con.h, ht, nonneg, hq, Int.reduceMul, Int.reducePow, Int.reduceSub, Int.reduceAdd, Int.reduceToNat, Nat.reducePow, Nat.reduceMul, Nat.reduceSub, Int.reduceLT, Int.reduceLE, Nat.reduceLT, Nat.reduceLeDiff, Int.one_mul, Nat.one_mul, decide_true, decide_false, decide_eq_true_eq, decide_eq_false_iff_not, beq_iff_eq, beq_eq_false_iff_ne, ne_eq, not_false_eq_true, eq_self, true_and, and_true]
      omega
    by_cases hv : iand (numAtLaw 2 B off) 16383 < 64
    · have hr := (rl_1 hn ht).trans (rlT_b hl hv)
      simp only [rlVLaw, rlOLaw, rlELaw, hr]
      refine small_of (R := R28b1 B g gR off B.length) eQ1_ok hmN (f := 86) (fn := f86) (by kernel_rfl) (by kernel_rfl) FnOrc.nil rfl (R28b1_ok ?_) R28b1_val R28b1_tab
      simp only [allP, Con.h, ht, nonneg, hq, hz, hb, hlow, hv, Int.reduceMul, Int.reducePow, Int.reduceSub, Int.reduceAdd, Int.reduceToNat, Nat.reducePow, Nat.reduceMul, Nat.reduceSub, Int.reduceLT, Int.reduceLE, Nat.reduceLT, Nat.reduceLeDiff, Int.one_mul, Nat.one_mul, decide_true, decide_false, decide_eq_true_eq, decide_eq_false_iff_not, beq_iff_eq, beq_eq_false_iff_ne, ne_eq, not_false_eq_true, eq_self, true_and, and_true]
      omega
    have hr := (rl_1 hn ht).trans (rlT_g hl hv)
    simp only [rlVLaw, rlOLaw, rlELaw, hr]
    refine small_of (R := R28g1 B g gR off B.length) eQ1_ok hmN (f := 86) (fn := f86) (by kernel_rfl) (by kernel_rfl) FnOrc.nil rfl (R28g1_ok ?_) (by rw [R28g1_val]; simp only [ht]; rfl) (by rw [R28g1_tab]; simp only [ht]; rfl)
    simp only [allP, Con.h, ht, nonneg, hq, hz, hb, hlow, hv, Int.reduceMul, Int.reducePow, Int.reduceSub, Int.reduceAdd, Int.reduceToNat, Nat.reducePow, Nat.reduceMul, Nat.reduceSub, Int.reduceLT, Int.reduceLE, Nat.reduceLT, Nat.reduceLeDiff, Int.one_mul, Nat.one_mul, decide_true, decide_false, decide_eq_true_eq, decide_eq_false_iff_not, beq_iff_eq, beq_eq_false_iff_ne, ne_eq, not_false_eq_true, eq_self, true_and, and_true]
    omega
  · have hz : sizedLaw 4 := by unfold sizedLaw; decide
    have hlow : LowLaw B off 4 := fun h => absurd h (by decide)
    have hrg := beN_rng hb off 4
    have hrg1 : 0 ≤ numAtLaw 4 B off := hrg.1
    have hrg2 : numAtLaw 4 B off < 4294967296 := hrg.2
    have hip := iand_pos (numAtLaw 4 B off) 1073741823
    by_cases hl : B.length - off < 4
    · have hr := (rl_2 hn ht).trans (rlT_s hl)
      simp only [rlVLaw, rlOLaw, rlELaw, hr]
      refine small_of (R := R28s B g gR off B.length) eQ1_ok hmN (f := 86) (fn := f86) (by kernel_rfl) (by kernel_rfl) FnOrc.nil rfl (R28s_ok ?_) R28s_val R28s_tab
      simp only [allP, Con.h, ht, nonneg, hq, Int.reduceMul, Int.reducePow, Int.reduceSub, Int.reduceAdd, Int.reduceToNat, Nat.reducePow, Nat.reduceMul, Nat.reduceSub, Int.reduceLT, Int.reduceLE, Nat.reduceLT, Nat.reduceLeDiff, Int.one_mul, Nat.one_mul, decide_true, decide_false, decide_eq_true_eq, decide_eq_false_iff_not, beq_iff_eq, beq_eq_false_iff_ne, ne_eq, not_false_eq_true, eq_self, true_and, and_true]
      omega
    by_cases hv : iand (numAtLaw 4 B off) 1073741823 < 16384
    · have hr := (rl_2 hn ht).trans (rlT_b hl hv)
      simp only [rlVLaw, rlOLaw, rlELaw, hr]
      refine small_of (R := R28b2 B g gR off B.length) eQ1_ok hmN (f := 86) (fn := f86) (by kernel_rfl) (by kernel_rfl) FnOrc.nil rfl (R28b2_ok ?_) R28b2_val R28b2_tab
      simp only [allP, Con.h, ht, nonneg, hq, hz, hb, hlow, hv, Int.reduceMul, Int.reducePow, Int.reduceSub, Int.reduceAdd, Int.reduceToNat, Nat.reducePow, Nat.reduceMul, Nat.reduceSub, Int.reduceLT, Int.reduceLE, Nat.reduceLT, Nat.reduceLeDiff, Int.one_mul, Nat.one_mul, decide_true, decide_false, decide_eq_true_eq, decide_eq_false_iff_not, beq_iff_eq, beq_eq_false_iff_ne, ne_eq, not_false_eq_true, eq_self, true_and, and_true]
      omega
    have hr := (rl_2 hn ht).trans (rlT_g hl hv)
    simp only [rlVLaw, rlOLaw, rlELaw, hr]
    refine small_of (R := R28g2 B g gR off B.length) eQ1_ok hmN (f := 86) (fn := f86) (by kernel_rfl) (by kernel_rfl) FnOrc.nil rfl (R28g2_ok ?_) (by rw [R28g2_val]; simp only [ht]; rfl) (by rw [R28g2_tab]; simp only [ht]; rfl)
    simp only [allP, Con.h, ht, nonneg, hq, hz, hb, hlow, hv, Int.reduceMul, Int.reducePow, Int.reduceSub, Int.reduceAdd, Int.reduceToNat, Nat.reducePow, Nat.reduceMul, Nat.reduceSub, Int.reduceLT, Int.reduceLE, Nat.reduceLT, Nat.reduceLeDiff, Int.one_mul, Nat.one_mul, decide_true, decide_false, decide_eq_true_eq, decide_eq_false_iff_not, beq_iff_eq, beq_eq_false_iff_ne, ne_eq, not_false_eq_true, eq_self, true_and, and_true]
    omega
noncomputable def sm28 : Summary := fun args T => sm28c args T (xsAt T 1) (gAt T 1) (gAt T 0) ((iOf (cAt T 0 1)).toNat) (lenOf (cAt T 0 0)) (iOf (cAt T 0 2))
theorem sm28_ok : SmOk prog (fun _ => none) 86 sm28 := fun args T h => sm28c_ok h
noncomputable def S28r : Summary := callR sm28 [true]
theorem S28r_ok : SumOk prog (fun _ => none) 86 S28r := callR_ok sm28_ok [true]
noncomputable def sm32c (args : List AVal) (T : Tab) (B : List Int) (g : Nat) (gR : Nat) (off : Nat) (nB : Nat) (e : Int) (m : Int) : Res := ⟨[.tab T [some ⟨.agg [.slice 1 1 g 0 nB none, .int .i64 (off : Nat), .int .i64 e], gR, true, 118⟩, some ⟨.ints .u8 B, g, false, 5⟩], .val (.tuple args) (.tuple [.var 0 gR, .int .i64 m]), .eqN nB B.length, .leN off B.length, .p (ByLaw B), .leN B.length 140737488355000], .slice 1 2 1 0 (rtVLaw B off e m).length none, [some ⟨.agg [.slice 1 1 g 0 nB none, .int .i64 (rtOLaw B off e m : Nat), .int .i64 (rtELaw B off e m)], gR, true, 118⟩, some ⟨.ints .u8 B, g, false, 5⟩, some ⟨.ints .u8 (rtVLaw B off e m), 1, true, 5⟩]⟩
theorem sm32c_ok {args : List AVal} {T : Tab} {B : List Int} {g : Nat} {gR : Nat} {off : Nat} {nB : Nat} {e : Int} {m : Int} (h : allP (sm32c args T B g gR off nB e m).cs) : Small prog (fun _ => none) 87 args T (sm32c args T B g gR off nB e m).val (sm32c args T B g gR off nB e m).tab := by
  obtain ⟨hT, hv, h1, h2, h3, h4, _⟩ := h
  simp only [Con.h] at hT hv h1 h2 h3 h4
  injection hv with hv
  subst hT hv
  show Small prog (fun _ => none) 87 [.var 0 gR, .int .i64 m] [some ⟨.agg [.slice 1 1 g 0 nB none, .int .i64 (off : Nat), .int .i64 e], gR, true, 118⟩, some ⟨.ints .u8 B, g, false, 5⟩] (.slice 1 2 1 0 (rtVLaw B off e m).length none) [some ⟨.agg [.slice 1 1 g 0 nB none, .int .i64 (rtOLaw B off e m : Nat), .int .i64 (rtELaw B off e m)], gR, true, 118⟩, some ⟨.ints .u8 B, g, false, 5⟩, some ⟨.ints .u8 (rtVLaw B off e m), 1, true, 5⟩]
  have hb : ByLaw B := h3
  subst h1
  by_cases he : e = 0
  rotate_left
  · have hr := rt_e (B := B) (off := off) m he
    have hne : (e != 0) = true := bne_iff_ne.2 he
    simp only [rtVLaw, rtOLaw, rtELaw, hr]
    have hc : Small prog (fun _ => none) 87 [.var 0 gR, .int .i64 m] [some ⟨.agg [.slice 1 1 g 0 B.length none, .int .i64 (off : Nat), .int .i64 e], gR, true, 118⟩, some ⟨.ints .u8 B, g, false, 5⟩] .nilSlice [some ⟨.agg [.slice 1 1 g 0 B.length none, .int .i64 (off : Nat), .int .i64 e], gR, true, 118⟩, some ⟨.ints .u8 B, g, false, 5⟩] := by
      refine small_of (R := R32e B g gR off B.length e m) eQ1_ok hmN (f := 87) (fn := f87) (by kernel_rfl) (by kernel_rfl) FnOrc.nil rfl (R32e_ok ?_) R32e_val R32e_tab
      simp only [allP, Con.h, hne, not_false_eq_true, eq_self, true_and, and_true]
    exact small_nilG .u8 5 1 hc (Nat.le_refl 2)
  subst he
  by_cases hm : m < 0
  · have hr := rt_a (B := B) (off := off) hm
    simp only [rtVLaw, rtOLaw, rtELaw, hr]
    have hc : Small prog (fun _ => none) 87 [.var 0 gR, .int .i64 m] [some ⟨.agg [.slice 1 1 g 0 B.length none, .int .i64 (off : Nat), .int .i64 0], gR, true, 118⟩, some ⟨.ints .u8 B, g, false, 5⟩] .nilSlice [some ⟨.agg [.slice 1 1 g 0 B.length none, .int .i64 (off : Nat), .int .i64 1], gR, true, 118⟩, some ⟨.ints .u8 B, g, false, 5⟩] := by
      refine small_of (R := R32a B g gR off B.length m) eQ1_ok hmN (f := 87) (fn := f87) (by kernel_rfl) (by kernel_rfl) FnOrc.nil rfl (R32a_ok ?_) R32a_val R32a_tab
      simp only [allP, Con.h, hm, decide_eq_true_eq, decide_eq_false_iff_not, not_false_eq_true, eq_self, true_and, and_true]
    exact small_nilG .u8 5 1 hc (Nat.le_refl 2)
  by_cases hl : ((B.length - off : Nat) : Int) < m
  · have hr := rt_s hm hl
    simp only [rtVLaw, rtOLaw, rtELaw, hr]
    have hc : Small prog (fun _ => none) 87 [.var 0 gR, .int .i64 m] [some ⟨.agg [.slice 1 1 g 0 B.length none, .int .i64 (off : Nat), .int .i64 0], gR, true, 118⟩, some ⟨.ints .u8 B, g, false, 5⟩] .nilSlice [some ⟨.agg [.slice 1 1 g 0 B.length none, .int .i64 (off : Nat), .int .i64 20], gR, true, 118⟩, some ⟨.ints .u8 B, g, false, 5⟩] := by
      refine small_of (R := R32s B g gR off B.length m) eQ1_ok hmN (f := 87) (fn := f87) (by kernel_rfl) (by kernel_rfl) FnOrc.nil rfl (R32s_ok ?_) R32s_val R32s_tab
      simp only [allP, Con.h, hm, hl, h2, h4, decide_eq_true_eq, decide_eq_false_iff_not, not_false_eq_true, eq_self, true_and, and_true]
    exact small_nilG .u8 5 1 hc (Nat.le_refl 2)
  obtain ⟨k, rfl⟩ : ∃ k : Nat, m = (k : Nat) := ⟨m.toNat, by omega⟩
  have hr := rt_g hl
  have hk : (subLaw B off k).length = k := subLaw_len (by omega)
  have e1 : ((off : Int) + (k : Int) - (k : Int)).toNat = off := by omega
  have e2 : off + k - off = k := by omega
  have e3 : (off : Int) + (k : Int) = ((off + k : Nat) : Int) := by omega
  simp only [rtVLaw, rtOLaw, rtELaw, hr]
  refine small_ofG (R := R32g B g gR off B.length k) (keep := [0,1,2]) eQ1_ok hmN (f := 87) (fn := f87) (by kernel_rfl) (by kernel_rfl) FnOrc.nil rfl (R32g_ok ?_) (by rw [R32g_val, e1, subO_eq, e2, hk]) (by rw [R32g_tab, e1, subO_eq, e2, dropO_eq, e3]; rfl)
  rw [e1]
  simp only [allP, Con.h, subO_eq, e2, hl, h2, h4, decide_eq_true_eq, decide_eq_false_iff_not, not_false_eq_true, eq_self, true_and, and_true]
  omega
noncomputable def sm32 : Summary := fun args T => sm32c args T (xsAt T 1) (gAt T 1) (gAt T 0) ((iOf (cAt T 0 1)).toNat) (lenOf (cAt T 0 0)) (iOf (cAt T 0 2)) (iOf (vAt args 1))
theorem sm32_ok : SmOk prog (fun _ => none) 87 sm32 := fun args T h => sm32c_ok h
noncomputable def S32r : Summary := callR sm32 [true]
theorem S32r_ok : SumOk prog (fun _ => none) 87 S32r := callR_ok sm32_ok [true]
noncomputable def sm37c (args : List AVal) (T : Tab) (B : List Int) (g : Nat) (gR : Nat) (off : Nat) (nB : Nat) (e : Int) : Res := ⟨[.tab T [some ⟨.agg [.slice 1 1 g 0 nB none, .int .i64 (off : Nat), .int .i64 e], gR, true, 118⟩, some ⟨.ints .u8 B, g, false, 5⟩], .val (.tuple args) (.tuple [.var 0 gR]), .eqN nB B.length, .leN off B.length, .p (ByLaw B), .leN B.length 140737488355000], .int .i64 (reLaw B off e), [some ⟨.agg [.slice 1 1 g 0 nB none, .int .i64 (off : Nat), .int .i64 e], gR, true, 118⟩, some ⟨.ints .u8 B, g, false, 5⟩]⟩
theorem sm37c_ok {args : List AVal} {T : Tab} {B : List Int} {g : Nat} {gR : Nat} {off : Nat} {nB : Nat} {e : Int} (h : allP (sm37c args T B g gR off nB e).cs) : Small prog (fun _ => none) 47 args T (sm37c args T B g gR off nB e).val (sm37c args T B g gR off nB e).tab := by
  obtain ⟨hT, hv, h1, h2, h3, h4, _⟩ := h
  simp only [Con.h] at hT hv h1 h2 h3 h4
  injection hv with hv
  subst hT hv
  show Small prog (fun _ => none) 47 [.var 0 gR] [some ⟨.agg [.slice 1 1 g 0 nB none, .int .i64 (off : Nat), .int .i64 e], gR, true, 118⟩, some ⟨.ints .u8 B, g, false, 5⟩] (.int .i64 (reLaw B off e)) [some ⟨.agg [.slice 1 1 g 0 nB none, .int .i64 (off : Nat), .int .i64 e], gR, true, 118⟩, some ⟨.ints .u8 B, g, false, 5⟩]
  subst h1
  by_cases he : e = 0
  rotate_left
  · have hne : (e == 0) = false := beq_eq_false_iff_ne.2 he
    rw [show reLaw B off e = e from if_pos he]
    refine small_of (R := R37e B g gR off B.length e) eQ1_ok hmN (f := 47) (fn := f47) (by kernel_rfl) (by kernel_rfl) FnOrc.nil rfl (R37e_ok ?_) R37e_val R37e_tab
    simp only [allP, Con.h, hne, not_false_eq_true, eq_self, true_and, and_true]
  subst he
  by_cases hl : 0 < B.length - off
  · rw [show reLaw B off 0 = 21 by unfold reLaw; rw [if_neg (by decide), if_pos hl]]
    refine small_of (R := R37m B g gR off B.length) eQ1_ok hmN (f := 47) (fn := f47) (by kernel_rfl) (by kernel_rfl) FnOrc.nil rfl (R37m_ok ?_) R37m_val R37m_tab
    simp only [allP, Con.h, decide_eq_true_eq, decide_eq_false_iff_not, not_false_eq_true, eq_self, true_and, and_true]
    omega
  · rw [show reLaw B off 0 = 0 by unfold reLaw; rw [if_neg (by decide), if_neg hl]]
    refine small_of (R := R37z B g gR off B.length) eQ1_ok hmN (f := 47) (fn := f47) (by kernel_rfl) (by kernel_rfl) FnOrc.nil rfl (R37z_ok ?_) R37z_val R37z_tab
    simp only [allP, Con.h, decide_eq_true_eq, decide_eq_false_iff_not, not_false_eq_true, eq_self, true_and, and_true]
    omega
noncomputable def sm37 : Summary := fun args T => sm37c args T (xsAt T 1) (gAt T 1) (gAt T 0) ((iOf (cAt T 0 1)).toNat) (lenOf (cAt T 0 0)) (iOf (cAt T 0 2))
theorem sm37_ok : SmOk prog (fun _ => none) 47 sm37 := fun args T h => sm37c_ok h
noncomputable def S37r : Summary := callR sm37 [true]
theorem S37r_ok : SumOk prog (fun _ => none) 47 S37r := callR_ok sm37_ok [true]
end Go.Abs

set_option linter.unusedVariables false
set_option linter.unusedSimpArgs false
set_option maxRecDepth 100000
set_option maxHeartbeats 4000000
namespace Go.Abs
open Go.Proofs Go.Proofs.Try
/-! ### the document: the reader: Vector -/
noncomputable def eQ2 : Env := eN0 [(86, S28r), (87, S32r)]
theorem eQ2_ok : EnvOk eQ2 := envOf_ok tysN_ok (SumsOk.cons (fn := f86) S28r_ok (by kernel_rfl) (by kernel_rfl) (by kernel_rfl) (SumsOk.cons (fn := f87) S32r_ok (by kernel_rfl) (by kernel_rfl) (by kernel_rfl) trivial))
noncomputable def R30a (B : List Int) (g gR off nB : Nat) (e : Int) : Res := resG 2 [0,1] (runF eQ2 f64 [] 400 [.var 0 gR] [some ⟨.agg [.slice 1 1 g 0 nB none, .int .i64 (off : Nat), .int .i64 e], gR, true, 118⟩, some ⟨.ints .u8 B, g, false, 5⟩] [some false, some true])
theorem R30a_ok {B : List Int} {g gR off nB : Nat} {e : Int} (h : allP [.eqN gR gR, .eqN gR gR, .eqN gR gR, .eqN g g, .eqN nB B.length, .leN off B.length, .p (ByLaw B), .leN B.length 140737488355000, .eqN gR gR, .eqN gR gR, .eqN gR gR, .p ((rlELaw B off e == 0) = false), .eqN g g, .eqN nB B.length, .leN (rlOLaw B off e) B.length, .p (ByLaw B), .leN B.length 140737488355000, .eqN gR gR, .eqN gR gR,
 .eqN gR gR, .p ((rtELaw B (rlOLaw B off e) (rlELaw B off e) (rlVLaw B off e) != 0) = true), .eqN gR gR, .eqN gR gR, .eqN gR gR]) : OkR (R30a B g gR off nB e) := OkR.dem (fl := bitsF 34 15099510792) (by kernel_rfl) (by kernel_rfl) (by kernel_rfl) h
theorem R30a_val {B : List Int} {g gR off nB : Nat} {e : Int} : (R30a B g gR off nB e).val = .nilSlice := by kernel_rfl
theorem R30a_tab {B : List Int} {g gR off nB : Nat} {e : Int} : (R30a B g gR off nB e).tab = [some ⟨.agg [.slice 1 1 g 0 nB none, .int .i64 (↑off : Int), .int .i64 (rtELaw B (rlOLaw B off e) (rlELaw B off e) (rlVLaw B off e))], gR, true, 118⟩, some ⟨.ints .u8 B, g, false, 5⟩] := by kernel_rfl
noncomputable def R30b (B : List Int) (g gR off nB : Nat) : Res := resG 2 [0,1] (runF eQ2 f64 [] 400 [.var 0 gR] [some ⟨.agg [.slice 1 1 g 0 nB none, .int .i64 (off : Nat), .int .i64 0], gR, true, 118⟩, some ⟨.ints .u8 B, g, false, 5⟩] [some true, some true, some true])
theorem R30b_ok {B : List Int} {g gR off nB : Nat} (h : allP [.eqN gR gR, .eqN gR gR, .eqN gR gR, .eqN g g, .eqN nB B.length, .leN off B.length, .p (ByLaw B), .leN B.length 140737488355000, .eqN gR gR, .eqN gR gR, .eqN gR gR, .p ((rlELaw B off (OfNat.ofNat 0) == 0) = true), .p (decide (65536 < rlVLaw B off (OfNat.ofNat 0)) = true), .eqN gR gR, .eqN gR gR, .eqN gR gR, .eqN g g, .eqN nB B.length,
 .leN (rlOLaw B off (OfNat.ofNat 0)) B.length, .p (ByLaw B), .leN B.length 140737488355000, .eqN gR gR, .eqN gR gR, .eqN gR gR, .p (true = true), .eqN gR gR, .eqN gR gR, .eqN gR gR]) : OkR (R30b B g gR off nB) := OkR.dem (fl := bitsF 41 1932742639624) (by kernel_rfl) (by kernel_rfl) (by kernel_rfl) h
theorem R30b_val {B : List Int} {g gR off nB : Nat} : (R30b B g gR off nB).val = .nilSlice := by kernel_rfl
theorem R30b_tab {B : List Int} {g gR off nB : Nat} : (R30b B g gR off nB).tab = [some ⟨.agg [.slice 1 1 g 0 nB none, .int .i64 (↑off : Int), .int .i64 (rtELaw B (rlOLaw B off (OfNat.ofNat 0)) (OfNat.ofNat 21) (rlVLaw B off (OfNat.ofNat 0)))], gR, true, 118⟩, some ⟨.ints .u8 B, g, false, 5⟩] := by kernel_rfl
noncomputable def R30c (B : List Int) (g gR off nB : Nat) : Res := resG 2 [0,1] (runF eQ2 f64 [] 400 [.var 0 gR] [some ⟨.agg [.slice 1 1 g 0 nB none, .int .i64 (off : Nat), .int .i64 0], gR, true, 118⟩, some ⟨.ints .u8 B, g, false, 5⟩] [some true, some false, some true])
theorem R30c_ok {B : List Int} {g gR off nB : Nat} (h : allP [.eqN gR gR, .eqN gR gR, .eqN gR gR, .eqN g g, .eqN nB B.length, .leN off B.length, .p (ByLaw B), .leN B.length 140737488355000, .eqN gR gR, .eqN gR gR, .eqN gR gR, .p ((rlELaw B off (OfNat.ofNat 0) == 0) = true), .p (decide (65536 < rlVLaw B off (OfNat.ofNat 0)) = false), .eqN g g, .eqN nB B.length, .leN (rlOLaw B off (OfNat.ofNat 0))
 B.length, .p (ByLaw B), .leN B.length 140737488355000, .eqN gR gR, .eqN gR gR, .eqN gR gR, .p ((rtELaw B (rlOLaw B off (OfNat.ofNat 0)) (rlELaw B off (OfNat.ofNat 0)) (rlVLaw B off (OfNat.ofNat 0)) != 0) = true), .eqN gR gR, .eqN gR gR, .eqN gR gR]) : OkR (R30c B g gR off nB) := OkR.dem (fl := bitsF 35 30199005192) (by kernel_rfl) (by kernel_rfl) (by kernel_rfl) h
theorem R30c_val {B : List Int} {g gR off nB : Nat} : (R30c B g gR off nB).val = .nilSlice := by kernel_rfl
theorem R30c_tab {B : List Int} {g gR off nB : Nat} : (R30c B g gR off nB).tab = [some ⟨.agg [.slice 1 1 g 0 nB none, .int .i64 (↑off : Int), .int .i64 (rtELaw B (rlOLaw B off (OfNat.ofNat 0)) (rlELaw B off (OfNat.ofNat 0)) (rlVLaw B off (OfNat.ofNat 0)))], gR, true, 118⟩, some ⟨.ints .u8 B, g, false, 5⟩] := by kernel_rfl
noncomputable def R30d (B : List Int) (g gR off nB : Nat) : Res := resG 2 [0,1,2] (runF eQ2 f64 [] 400 [.var 0 gR] [some ⟨.agg [.slice 1 1 g 0 nB none, .int .i64 (off : Nat), .int .i64 0], gR, true, 118⟩, some ⟨.ints .u8 B, g, false, 5⟩] [some true, some false, some false])
theorem R30d_ok {B : List Int} {g gR off nB : Nat} (h : allP [.eqN gR gR, .eqN gR gR, .eqN gR gR, .eqN g g, .eqN nB B.length, .leN off B.length, .p (ByLaw B), .leN B.length 140737488355000, .eqN gR gR, .eqN gR gR, .eqN gR gR, .p ((rlELaw B off (OfNat.ofNat 0) == 0) = true), .p (decide (65536 < rlVLaw B off (OfNat.ofNat 0)) = false), .eqN g g, .eqN nB B.length, .leN (rlOLaw B off (OfNat.ofNat 0))
 B.length, .p (ByLaw B), .leN B.length 140737488355000, .eqN gR gR, .eqN gR gR, .eqN gR gR, .p ((rtELaw B (rlOLaw B off (OfNat.ofNat 0)) (rlELaw B off (OfNat.ofNat 0)) (rlVLaw B off (OfNat.ofNat 0)) != 0) = false)]) : OkR (R30d B g gR off nB) := OkR.dem (fl := bitsF 29 134234120) (by kernel_rfl) (by kernel_rfl) (by kernel_rfl) h
theorem R30d_val {B : List Int} {g gR off nB : Nat} : (R30d B g gR off nB).val = .slice 1 2 1 0 (rtVLaw B (rlOLaw B off (OfNat.ofNat 0)) (rlELaw B off (OfNat.ofNat 0)) (rlVLaw B off (OfNat.ofNat 0))).length none := by kernel_rfl
theorem R30d_tab {B : List Int} {g gR off nB : Nat} : (R30d B g gR off nB).tab = [some ⟨.agg [.slice 1 1 g 0 nB none, .int .i64 (↑(rtOLaw B (rlOLaw B off (OfNat.ofNat 0)) (rlELaw B off (OfNat.ofNat 0)) (rlVLaw B off (OfNat.ofNat 0))) : Int), .int .i64 (rtELaw B (rlOLaw B off (OfNat.ofNat 0)) (rlELaw B off (OfNat.ofNat 0)) (rlVLaw B off (OfNat.ofNat 0)))], gR, true, 118⟩, some ⟨.ints .u8 B, g,
 false, 5⟩, some ⟨.ints .u8 (rtVLaw B (rlOLaw B off (OfNat.ofNat 0)) (rlELaw B off (OfNat.ofNat 0)) (rlVLaw B off (OfNat.ofNat 0))), 1, true, 5⟩] := by kernel_rfl
end Go.Abs

set_option linter.unusedVariables false
set_option linter.unusedSimpArgs false
set_option maxRecDepth 100000
set_option maxHeartbeats 4000000
namespace Go.Abs
open Go.Proofs Go.Proofs.Try
/-! ### the document: the reader: Vector answers -/
theorem rtV_err {B : List Int} {off : Nat} {e m : Int} (h : rtELaw B off e m ≠ 0) : rtVLaw B off e m = [] := by
  unfold rtELaw at h
  unfold rtVLaw
  unfold rtP at h ⊢
  split
  · rfl
  split
  · rfl
  split
  · rfl
  · rename_i a b c
    rw [if_neg a, if_neg b, if_neg c] at h
    exact absurd rfl h
noncomputable def sm30c (args : List AVal) (T : Tab) (B : List Int) (g : Nat) (gR : Nat) (off : Nat) (nB : Nat) (e : Int) : Res := ⟨[.tab T [some ⟨.agg [.slice 1 1 g 0 nB none, .int .i64 (off : Nat), .int .i64 e], gR, true, 118⟩, some ⟨.ints .u8 B, g, false, 5⟩], .val (.tuple args) (.tuple [.var 0 gR]), .eqN nB B.length, .leN off B.length, .p (ByLaw B), .leN B.length 140737488355000], .slice 1 2 1 0 (rvVLaw B off e).length none, [some ⟨.agg [.slice 1 1 g 0 nB none, .int .i64 (rvOLaw B off e : Nat), .int .i64 (rvELaw B off e)], gR, true, 118⟩, some ⟨.ints .u8 B, g, false, 5⟩, some ⟨.ints .u8 (rvVLaw B off e), 1, true, 5⟩]⟩
theorem sm30c_ok {args : List AVal} {T : Tab} {B : List Int} {g : Nat} {gR : Nat} {off : Nat} {nB : Nat} {e : Int} (h : allP (sm30c args T B g gR off nB e).cs) : Small prog (fun _ => none) 64 args T (sm30c args T B g gR off nB e).val (sm30c args T B g gR off nB e).tab := by
  obtain ⟨hT, hv, h1, h2, h3, h4, _⟩ := h
  simp only [Con.h] at hT hv h1 h2 h3 h4
  injection hv with hv
  subst hT hv
  show Small prog (fun _ => none) 64 [.var 0 gR] [some ⟨.agg [.slice 1 1 g 0 nB none, .int .i64 (off : Nat), .int .i64 e], gR, true, 118⟩, some ⟨.ints .u8 B, g, false, 5⟩] (.slice 1 2 1 0 (rvVLaw B off e).length none) [some ⟨.agg [.slice 1 1 g 0 nB none, .int .i64 (rvOLaw B off e : Nat), .int .i64 (rvELaw B off e)], gR, true, 118⟩, some ⟨.ints .u8 B, g, false, 5⟩, some ⟨.ints .u8 (rvVLaw B off e), 1, true, 5⟩]
  have hb : ByLaw B := h3
  subst h1
  by_cases he : e = 0
  rotate_left
  · have hr := rv_e (B := B) (off := off) he
    have hl := rl_e (B := B) (off := off) he
    have q0 : rlELaw B off e = e := by unfold rlELaw; rw [hl]
    have q3 : rlOLaw B off e = off := by unfold rlOLaw; rw [hl]
    have q4 := rtE_e (B := B) (off := off) (rlVLaw B off e) he
    have q1 : (e == 0) = false := beq_eq_false_iff_ne.2 he
    have q2 : (e != 0) = true := bne_iff_ne.2 he
    simp only [rvVLaw, rvOLaw, rvELaw, hr]
    have hc : Small prog (fun _ => none) 64 [.var 0 gR] [some ⟨.agg [.slice 1 1 g 0 B.length none, .int .i64 (off : Nat), .int .i64 e], gR, true, 118⟩, some ⟨.ints .u8 B, g, false, 5⟩] .nilSlice [some ⟨.agg [.slice 1 1 g 0 B.length none, .int .i64 (off : Nat), .int .i64 e], gR, true, 118⟩, some ⟨.ints .u8 B, g, false, 5⟩] := by
      refine small_ofG (R := R30a B g gR off B.length e) (keep := [0,1]) eQ2_ok hmN (f := 64) (fn := f64) (by kernel_rfl) (by kernel_rfl) FnOrc.nil rfl (R30a_ok ?_) R30a_val (by rw [R30a_tab, q0, q3, q4])
      simp only [allP, Con.h, hb, q0, q1, q3, q4, q2, h2, h4, not_false_eq_true, eq_self, true_and, and_true]
    exact small_nilG .u8 5 1 hc (Nat.le_refl 2)
  subst he
  have ho := rl_off h2 0
  by_cases h0 : rlELaw B off 0 = 0
  rotate_left
  · have e1 : rvE1 B off = rlELaw B off 0 := if_neg (fun k => h0 k.1)
    have hE := rtE_e (B := B) (off := rlOLaw B off 0) (rlVLaw B off 0) h0
    have hN : rtELaw B (rlOLaw B off 0) (rlELaw B off 0) (rlVLaw B off 0) ≠ 0 := by rw [hE]; exact h0
    have hr := rv_w e1 hN
    have hn := rtV_err hN
    have q1 : (rlELaw B off 0 == 0) = false := beq_eq_false_iff_ne.2 h0
    have q2 : (rlELaw B off 0 != 0) = true := bne_iff_ne.2 h0
    simp only [rvVLaw, rvOLaw, rvELaw, hr]
    rw [hn]
    have hc : Small prog (fun _ => none) 64 [.var 0 gR] [some ⟨.agg [.slice 1 1 g 0 B.length none, .int .i64 (off : Nat), .int .i64 0], gR, true, 118⟩, some ⟨.ints .u8 B, g, false, 5⟩] .nilSlice [some ⟨.agg [.slice 1 1 g 0 B.length none, .int .i64 (off : Nat), .int .i64 (rtELaw B (rlOLaw B off 0) (rlELaw B off 0) (rlVLaw B off 0))], gR, true, 118⟩, some ⟨.ints .u8 B, g, false, 5⟩] := by
      refine small_ofG (R := R30a B g gR off B.length 0) (keep := [0,1]) eQ2_ok hmN (f := 64) (fn := f64) (by kernel_rfl) (by kernel_rfl) FnOrc.nil rfl (R30a_ok ?_) R30a_val R30a_tab
      simp only [allP, Con.h, hb, q1, hE, q2, ho.2, h2, h4, not_false_eq_true, eq_self, true_and, and_true]
    exact small_nilG .u8 5 1 hc (Nat.le_refl 2)
  have q1 : (rlELaw B off 0 == 0) = true := beq_iff_eq.2 h0
  by_cases hv : 65536 < rlVLaw B off 0
  · have e1 : rvE1 B off = 21 := if_pos ⟨h0, hv⟩
    have hE := rtE_e (B := B) (off := rlOLaw B off 0) (e := 21) (rlVLaw B off 0) (by decide)
    have hN : rtELaw B (rlOLaw B off 0) 21 (rlVLaw B off 0) ≠ 0 := by rw [hE]; decide
    have hr := rv_w e1 hN
    have hn := rtV_err hN
    simp only [rvVLaw, rvOLaw, rvELaw, hr]
    rw [hn]
    have hc : Small prog (fun _ => none) 64 [.var 0 gR] [some ⟨.agg [.slice 1 1 g 0 B.length none, .int .i64 (off : Nat), .int .i64 0], gR, true, 118⟩, some ⟨.ints .u8 B, g, false, 5⟩] .nilSlice [some ⟨.agg [.slice 1 1 g 0 B.length none, .int .i64 (off : Nat), .int .i64 (rtELaw B (rlOLaw B off 0) 21 (rlVLaw B off 0))], gR, true, 118⟩, some ⟨.ints .u8 B, g, false, 5⟩] := by
      refine small_ofG (R := R30b B g gR off B.length) (keep := [0,1]) eQ2_ok hmN (f := 64) (fn := f64) (by kernel_rfl) (by kernel_rfl) FnOrc.nil rfl (R30b_ok ?_) R30b_val R30b_tab
      simp only [allP, Con.h, hb, q1, hv, ho.2, h2, h4, decide_eq_true_eq, not_false_eq_true, eq_self, true_and, and_true]
    exact small_nilG .u8 5 1 hc (Nat.le_refl 2)
  have e1 : rvE1 B off = rlELaw B off 0 := if_neg (fun k => hv k.2)
  by_cases hE : rtELaw B (rlOLaw B off 0) (rlELaw B off 0) (rlVLaw B off 0) = 0
  · have hr := rv_g e1 hE
    have q2 : (rtELaw B (rlOLaw B off 0) (rlELaw B off 0) (rlVLaw B off 0) != 0) = false := bne_eq_false_iff_eq.2 hE
    simp only [rvVLaw, rvOLaw, rvELaw, hr]
    refine small_ofG (R := R30d B g gR off B.length) (keep := [0,1,2]) eQ2_ok hmN (f := 64) (fn := f64) (by kernel_rfl) (by kernel_rfl) FnOrc.nil rfl (R30d_ok ?_) R30d_val R30d_tab
    simp only [allP, Con.h, hb, q1, q2, hv, ho.2, h2, h4, decide_eq_true_eq, decide_eq_false_iff_not, not_false_eq_true, eq_self, true_and, and_true]
  · have hr := rv_w e1 hE
    have hn := rtV_err hE
    have q2 : (rtELaw B (rlOLaw B off 0) (rlELaw B off 0) (rlVLaw B off 0) != 0) = true := bne_iff_ne.2 hE
    simp only [rvVLaw, rvOLaw, rvELaw, hr]
    rw [hn]
    have hc : Small prog (fun _ => none) 64 [.var 0 gR] [some ⟨.agg [.slice 1 1 g 0 B.length none, .int .i64 (off : Nat), .int .i64 0], gR, true, 118⟩, some ⟨.ints .u8 B, g, false, 5⟩] .nilSlice [some ⟨.agg [.slice 1 1 g 0 B.length none, .int .i64 (off : Nat), .int .i64 (rtELaw B (rlOLaw B off 0) (rlELaw B off 0) (rlVLaw B off 0))], gR, true, 118⟩, some ⟨.ints .u8 B, g, false, 5⟩] := by
      refine small_ofG (R := R30c B g gR off B.length) (keep := [0,1]) eQ2_ok hmN (f := 64) (fn := f64) (by kernel_rfl) (by kernel_rfl) FnOrc.nil rfl (R30c_ok ?_) R30c_val R30c_tab
      simp only [allP, Con.h, hb, q1, q2, hv, ho.2, h2, h4, decide_eq_true_eq, decide_eq_false_iff_not, not_false_eq_true, eq_self, true_and, and_true]
    exact small_nilG .u8 5 1 hc (Nat.le_refl 2)
noncomputable def sm30 : Summary := fun args T => sm30c args T (xsAt T 1) (gAt T 1) (gAt T 0) ((iOf (cAt T 0 1)).toNat) (lenOf (cAt T 0 0)) (iOf (cAt T 0 2))
theorem sm30_ok : SmOk prog (fun _ => none) 64 sm30 := fun args T h => sm30c_ok h
noncomputable def S30r : Summary := callR sm30 [true]
theorem S30r_ok : SumOk prog (fun _ => none) 64 S30r := callR_ok sm30_ok [true]
end Go.Abs

set_option linter.unusedVariables false
set_option linter.unusedSimpArgs false
set_option maxRecDepth 100000
set_option maxHeartbeats 4000000
namespace Go.Abs
open Go.Proofs Go.Proofs.Try
end Go.Abs

set_option linter.unusedVariables false
set_option linter.unusedSimpArgs false
set_option maxRecDepth 100000
set_option maxHeartbeats 4000000
namespace Go.Abs
open Go.Proofs Go.Proofs.Try
/-! ### demands -/
noncomputable def nS48 : Summary := sumI modeO (eN0 []) f48 [] 100 [] []
theorem nS48_ok : SumOk prog (fun _ => none) 48 nS48 := sumI_ok eN0_ok hmN (fn := f48) (by kernel_rfl) (by kernel_rfl) [] FnOrc.nil 100 [] []
noncomputable def nP48 : Summary := sumP modeO (eN0 []) [] f48 100 1 [] []
theorem nP48_ok : SumOkP prog (fun _ => none) 48 nP48 := sumP_ok eN0_ok hmN PsOk.nil (fn := f48) (by kernel_rfl) 100 1 [] []
noncomputable def psN0 : List (Nat × Summary) := [(48, nP48)]
theorem psN0_ok : PsOk prog (fun _ => none) psN0 := PsOk.cons (fn := f48) nP48_ok (by kernel_rfl) (by kernel_rfl) (by kernel_rfl) PsOk.nil
noncomputable def eM0 : Env := eN0 [(48, nS48)]
theorem eM0_ok : EnvOk eM0 := envOf_ok tysN_ok (SumsOk.cons (fn := f48) nS48_ok (by kernel_rfl) (by kernel_rfl) (by kernel_rfl) trivial)
noncomputable def nS69 : Summary := sumI modeO eM0 f69 [] 100 [some true] []
theorem nS69_ok : SumOk prog (fun _ => none) 69 nS69 := sumI_ok eM0_ok hmN (fn := f69) (by kernel_rfl) (by kernel_rfl) [] FnOrc.nil 100 [some true] []
noncomputable def nP69 : Summary := sumP modeO (eN0 []) psN0 f69 100 0 [some false] []
theorem nP69_ok : SumOkP prog (fun _ => none) 69 nP69 := sumP_ok eN0_ok hmN psN0_ok (fn := f69) (by kernel_rfl) 100 0 [some false] []
noncomputable def psN1 : List (Nat × Summary) := [(48, nP48), (69, nP69)]
theorem psN1_ok : PsOk prog (fun _ => none) psN1 := PsOk.cons (fn := f48) nP48_ok (by kernel_rfl) (by kernel_rfl) (by kernel_rfl) (PsOk.cons (fn := f69) nP69_ok (by kernel_rfl) (by kernel_rfl) (by kernel_rfl) PsOk.nil)
noncomputable def eM1 : Env := eN0 [(48, nS48), (69, nS69)]
theorem eM1_ok : EnvOk eM1 := envOf_ok tysN_ok (SumsOk.cons (fn := f48) nS48_ok (by kernel_rfl) (by kernel_rfl) (by kernel_rfl) (SumsOk.cons (fn := f69) nS69_ok (by kernel_rfl) (by kernel_rfl) (by kernel_rfl) trivial))
end Go.Abs

set_option linter.unusedVariables false
set_option linter.unusedSimpArgs false
set_option maxRecDepth 100000
set_option maxHeartbeats 4000000
namespace Go.Abs
open Go.Proofs Go.Proofs.Try
/-! ### may a leaf be? -/
def RightN (n1 n2 n3 : Nat) (s : Int) (n4 n5 : Nat) : Prop := n1 = 32 ∧ n2 = 32 ∧ n5 = 64 ∧ 1 ≤ n3 ∧ n3 ≤ 64 ∧ 1 ≤ s ∧ s ≤ 3 ∧ (n4 = 0 ∨ n4 = 32 ∧ s = 3)
instance (n1 n2 n3 : Nat) (s : Int) (n4 n5 : Nat) : Decidable (RightN n1 n2 n3 s n4 n5) := by unfold RightN; exact inferInstance
end Go.Abs

set_option linter.unusedVariables false
set_option linter.unusedSimpArgs false
set_option maxRecDepth 100000
set_option maxHeartbeats 4000000
namespace Go.Abs
open Go.Proofs Go.Proofs.Try
end Go.Abs

set_option linter.unusedVariables false
set_option linter.unusedSimpArgs false
set_option maxRecDepth 100000
set_option maxHeartbeats 4000000
namespace Go.Abs
open Go.Proofs Go.Proofs.Try
end Go.Abs

set_option linter.unusedVariables false
set_option linter.unusedSimpArgs false
set_option maxRecDepth 100000
namespace Go.Abs
open Go.Proofs Go.Proofs.Try
/-! ### CodecNumbers: what was written is read back -/
theorem mid_get {P x S : List Int} {i : Nat} (h : i < x.length) : (P ++ x ++ S).getD (P.length + i) 0 = x.getD i 0 := by
  rw [List.getD_eq_getElem?_getD, List.getD_eq_getElem?_getD, List.append_assoc, List.getElem?_append_right (by omega), show P.length + i - P.length = i by omega, List.getElem?_append_left h]
theorem iand_mod {a : Int} (k : Nat) (ha : 0 ≤ a) : iand a ((2 : Int) ^ k - 1) = a % 2 ^ k := by
  obtain ⟨n, rfl⟩ := Int.eq_ofNat_of_zero_le ha
  have e : ((2 : Int) ^ k - 1) = ((2 ^ k - 1 : Nat) : Int) := by
    have : 1 ≤ 2 ^ k := Nat.one_le_two_pow
    rw [Int.ofNat_sub this]
    simp
  unfold iand
  rw [e, Int.toNat_natCast, Int.toNat_natCast, Nat.and_two_pow_sub_one_eq_mod]
  simp
theorem rl_back {P S : List Int} {n : Int} (h0 : 0 ≤ n) (h1 : n < 1073741824) : rlP (P ++ lenLaw n ++ S) P.length 0 = (n, P.length + (lenLaw n).length, 0) := by
  by_cases ha : n < 64
  · rw [(len_a h0 ha).1]
    have g0 : (P ++ [n / 1 % 256] ++ S).getD (P.length + 0) 0 = n / 1 % 256 := mid_get (by show 0 < 1; decide)
    rw [Nat.add_zero] at g0
    have hl : (P ++ [n / 1 % 256] ++ S).length = P.length + 1 + S.length := by simp; omega
    have hv : iand (numAtLaw 1 (P ++ [n / 1 % 256] ++ S) P.length) 63 = n := by
      have e : numAtLaw 1 (P ++ [n / 1 % 256] ++ S) P.length = n := by
        show beN 1 _ _ = n
        unfold beN beN
        rw [Nat.add_zero, g0]
        omega
      rw [e]
      have := iand_mod 6 h0
      rw [show ((2 : Int) ^ 6 - 1) = 63 by decide, show ((2 : Int) ^ 6) = 64 by decide] at this
      rw [this]
      omega
    rw [rl_0 (by rw [hl]; omega) (by rw [g0]; omega), rlT_g (by rw [hl]; omega) (by rw [hv]; omega), hv]
    rfl
  by_cases hb : n < 16384
  · rw [(len_b (by omega) hb).1]
    have g0 : (P ++ [(n + 16384) / 256 % 256, (n + 16384) / 1 % 256] ++ S).getD (P.length + 0) 0 = (n + 16384) / 256 % 256 := mid_get (by show 0 < 2; decide)
    have g1 : (P ++ [(n + 16384) / 256 % 256, (n + 16384) / 1 % 256] ++ S).getD (P.length + 1) 0 = (n + 16384) / 1 % 256 := mid_get (by show 1 < 2; decide)
    rw [Nat.add_zero] at g0
    have hl : (P ++ [(n + 16384) / 256 % 256, (n + 16384) / 1 % 256] ++ S).length = P.length + 2 + S.length := by simp; omega
    have hv : iand (numAtLaw 2 (P ++ [(n + 16384) / 256 % 256, (n + 16384) / 1 % 256] ++ S) P.length) 16383 = n := by
      have e : numAtLaw 2 (P ++ [(n + 16384) / 256 % 256, (n + 16384) / 1 % 256] ++ S) P.length = n + 16384 := by
        show beN 2 _ _ = n + 16384
        unfold beN beN beN
        rw [Nat.add_zero, g0, g1]
        omega
      rw [e]
      have := iand_mod (a := n + 16384) 14 (by omega)
      rw [show ((2 : Int) ^ 14 - 1) = 16383 by decide, show ((2 : Int) ^ 14) = 16384 by decide] at this
      rw [this]
      omega
    rw [rl_1 (by rw [hl]; omega) (by rw [g0]; omega), rlT_g (by rw [hl]; omega) (by rw [hv]; omega), hv]
    rfl
  · rw [(len_c (by omega) h1).1]
    have g0 : (P ++ [(n + 2147483648) / 16777216 % 256, (n + 2147483648) / 65536 % 256, (n + 2147483648) / 256 % 256, (n + 2147483648) / 1 % 256] ++ S).getD (P.length + 0) 0 = (n + 2147483648) / 16777216 % 256 := mid_get (by show 0 < 4; decide)
    have g1 : (P ++ [(n + 2147483648) / 16777216 % 256, (n + 2147483648) / 65536 % 256, (n + 2147483648) / 256 % 256, (n + 2147483648) / 1 % 256] ++ S).getD (P.length + 1) 0 = (n + 2147483648) / 65536 % 256 := mid_get (by show 1 < 4; decide)
    have g2 : (P ++ [(n + 2147483648) / 16777216 % 256, (n + 2147483648) / 65536 % 256, (n + 2147483648) / 256 % 256, (n + 2147483648) / 1 % 256] ++ S).getD (P.length + 2) 0 = (n + 2147483648) / 256 % 256 := mid_get (by show 2 < 4; decide)
    have g3 : (P ++ [(n + 2147483648) / 16777216 % 256, (n + 2147483648) / 65536 % 256, (n + 2147483648) / 256 % 256, (n + 2147483648) / 1 % 256] ++ S).getD (P.length + 3) 0 = (n + 2147483648) / 1 % 256 := mid_get (by show 3 < 4; decide)
    rw [Nat.add_zero] at g0
    have hl : (P ++ [(n + 2147483648) / 16777216 % 256, (n + 2147483648) / 65536 % 256, (n + 2147483648) / 256 % 256, (n + 2147483648) / 1 % 256] ++ S).length = P.length + 4 + S.length := by simp; omega
    have hv : iand (numAtLaw 4 (P ++ [(n + 2147483648) / 16777216 % 256, (n + 2147483648) / 65536 % 256, (n + 2147483648) / 256 % 256, (n + 2147483648) / 1 % 256] ++ S) P.length) 1073741823 = n := by
      have e : numAtLaw 4 (P ++ [(n + 2147483648) / 16777216 % 256, (n + 2147483648) / 65536 % 256, (n + 2147483648) / 256 % 256, (n + 2147483648) / 1 % 256] ++ S) P.length = n + 2147483648 := by
        show beN 4 _ _ = n + 2147483648
        unfold beN beN beN beN beN
        rw [Nat.add_zero, g0, g1, g2, g3]
        omega
      rw [e]
      have := iand_mod (a := n + 2147483648) 30 (by omega)
      rw [show ((2 : Int) ^ 30 - 1) = 1073741823 by decide, show ((2 : Int) ^ 30) = 1073741824 by decide] at this
      rw [this]
      omega
    rw [rl_2 (by rw [hl]; omega) (by rw [g0]; omega), rlT_g (by rw [hl]; omega) (by rw [hv]; omega), hv]
    rfl
end Go.Abs

set_option linter.unusedVariables false
set_option linter.unusedSimpArgs false
set_option maxRecDepth 100000
set_option maxHeartbeats 4000000
namespace Go.Abs
open Go.Proofs Go.Proofs.Try
end Go.Abs

set_option linter.unusedVariables false
set_option linter.unusedSimpArgs false
set_option maxRecDepth 100000
set_option maxHeartbeats 4000000
namespace Go.Abs
open Go.Proofs Go.Proofs.Try
end Go.Abs

set_option linter.unusedVariables false
set_option linter.unusedSimpArgs false
set_option maxRecDepth 100000
set_option maxHeartbeats 4000000
namespace Go.Abs
open Go.Proofs Go.Proofs.Try
end Go.Abs

set_option linter.unusedVariables false
set_option linter.unusedSimpArgs false
set_option maxRecDepth 100000
set_option maxHeartbeats 4000000
namespace Go.Abs
open Go.Proofs Go.Proofs.Try
end Go.Abs

set_option linter.unusedVariables false
set_option linter.unusedSimpArgs false
set_option maxRecDepth 100000
namespace Go.Abs
open Go.Proofs Go.Proofs.Try
end Go.Abs

set_option linter.unusedVariables false
set_option linter.unusedSimpArgs false
set_option maxRecDepth 100000
set_option maxHeartbeats 4000000
namespace Go.Abs
open Go.Proofs Go.Proofs.Try
end Go.Abs

set_option linter.unusedVariables false
set_option linter.unusedSimpArgs false
set_option maxRecDepth 100000
set_option maxHeartbeats 4000000
namespace Go.Abs
open Go.Proofs Go.Proofs.Try
end Go.Abs

set_option linter.unusedVariables false
set_option linter.unusedSimpArgs false
set_option maxRecDepth 100000
set_option maxHeartbeats 4000000
namespace Go.Abs
open Go.Proofs Go.Proofs.Try
end Go.Abs

set_option linter.unusedVariables false
set_option linter.unusedSimpArgs false
set_option maxRecDepth 100000
set_option maxHeartbeats 4000000
namespace Go.Abs
open Go.Proofs Go.Proofs.Try
/-! ### Vectors: one behind the other -/
def vec1Law (bs : List Int) : List Int := lenLaw bs.length ++ bs
def FitZLaw (Y : List (List Int)) : Prop := ∀ b ∈ Y, b.length ≤ 65536
instance (Y : List (List Int)) : Decidable (FitZLaw Y) := by unfold FitZLaw; exact inferInstance
end Go.Abs

set_option linter.unusedVariables false
set_option linter.unusedSimpArgs false
set_option maxRecDepth 100000
set_option maxHeartbeats 4000000
namespace Go.Abs
open Go.Proofs Go.Proofs.Try
end Go.Abs

set_option linter.unusedVariables false
set_option linter.unusedSimpArgs false
set_option maxRecDepth 100000
set_option maxHeartbeats 4000000
namespace Go.Abs
open Go.Proofs Go.Proofs.Try
end Go.Abs

set_option linter.unusedVariables false
set_option linter.unusedSimpArgs false
set_option maxRecDepth 100000
set_option maxHeartbeats 4000000
namespace Go.Abs
open Go.Proofs Go.Proofs.Try
end Go.Abs

set_option linter.unusedVariables false
set_option linter.unusedSimpArgs false
set_option maxRecDepth 100000
set_option maxHeartbeats 4000000
namespace Go.Abs
open Go.Proofs Go.Proofs.Try
end Go.Abs

set_option linter.unusedVariables false
set_option linter.unusedSimpArgs false
set_option maxRecDepth 100000
set_option maxHeartbeats 4000000
namespace Go.Abs
open Go.Proofs Go.Proofs.Try
end Go.Abs

set_option linter.unusedVariables false
set_option linter.unusedSimpArgs false
set_option maxRecDepth 100000
set_option maxHeartbeats 4000000
namespace Go.Abs
open Go.Proofs Go.Proofs.Try
end Go.Abs

set_option linter.unusedVariables false
set_option linter.unusedSimpArgs false
set_option maxRecDepth 100000
set_option maxHeartbeats 4000000
namespace Go.Abs
open Go.Proofs Go.Proofs.Try
end Go.Abs

set_option linter.unusedVariables false
set_option linter.unusedSimpArgs false
set_option maxRecDepth 100000
set_option maxHeartbeats 4000000
namespace Go.Abs
open Go.Proofs Go.Proofs.Try
/-! ### vectors: what is read is what was written -/
theorem drop_get {B : List Int} {off : Nat} (h : off < B.length) : B.drop off = B.getD off 0 :: B.drop (off + 1) := by
  rw [List.drop_eq_getElem_cons h, List.getD_eq_getElem?_getD, List.getElem?_eq_getElem h]; rfl
theorem rl_canon {B : List Int} {off : Nat} (hb : ByLaw B) (he : rlELaw B off 0 = 0) :
    0 ≤ rlVLaw B off 0 ∧ off < rlOLaw B off 0 ∧ rlOLaw B off 0 ≤ B.length ∧ B.drop off = lenLaw (rlVLaw B off 0) ++ B.drop (rlOLaw B off 0) := by
  unfold rlELaw at he
  unfold rlVLaw rlOLaw
  by_cases hz : B.length - off = 0
  · rw [rl_z hz] at he; cases he
  have h0 := hb off
  have hlt : off < B.length := by omega
  have d0 := drop_get hlt
  by_cases t3 : B.getD off 0 / 64 = 3
  · rw [rl_f hz t3] at he; cases he
  by_cases t0 : B.getD off 0 / 64 = 0
  · rw [rl_0 hz t0] at he ⊢
    have hv : iand (numAtLaw 1 B off) 63 = B.getD off 0 := by
      have e : numAtLaw 1 B off = B.getD off 0 := by show beN 1 _ _ = _; unfold beN beN; rw [Nat.add_zero]; omega
      rw [e]
      have := iand_mod (a := B.getD off 0) 6 h0.1
      rw [show ((2 : Int) ^ 6 - 1) = 63 by decide, show ((2 : Int) ^ 6) = 64 by decide] at this
      rw [this]; omega
    rw [rlT_g (by omega) (by rw [hv]; omega), hv]
    simp only
    refine ⟨h0.1, by omega, by omega, ?_⟩
    rw [(len_a h0.1 (by omega)).1, d0]
    have : B.getD off 0 / 1 % 256 = B.getD off 0 := by omega
    rw [this]; rfl
  by_cases t1 : B.getD off 0 / 64 = 1
  · rw [rl_1 hz t1] at he ⊢
    by_cases hs : B.length - off < 2
    · rw [rlT_s hs] at he; cases he
    have h1 := hb (off + 1)
    have d1 := drop_get (B := B) (off := off + 1) (by omega)
    have hv : iand (numAtLaw 2 B off) 16383 = B.getD off 0 * 256 + B.getD (off + 1) 0 - 16384 := by
      have e : numAtLaw 2 B off = B.getD off 0 * 256 + B.getD (off + 1) 0 := by show beN 2 _ _ = _; unfold beN beN beN; rw [Nat.add_zero]; omega
      rw [e]
      have := iand_mod (a := B.getD off 0 * 256 + B.getD (off + 1) 0) 14 (by omega)
      rw [show ((2 : Int) ^ 14 - 1) = 16383 by decide, show ((2 : Int) ^ 14) = 16384 by decide] at this
      rw [this]; omega
    by_cases hl : iand (numAtLaw 2 B off) 16383 < 64
    · rw [rlT_b hs hl] at he; cases he
    rw [rlT_g hs hl]
    simp only
    rw [hv] at hl ⊢
    refine ⟨by omega, by omega, by omega, ?_⟩
    rw [(len_b (by omega) (by omega)).1, d0, d1]
    have e1 : (B.getD off 0 * 256 + B.getD (off + 1) 0 - 16384 + 16384) / 256 % 256 = B.getD off 0 := by omega
    have e2 : (B.getD off 0 * 256 + B.getD (off + 1) 0 - 16384 + 16384) / 1 % 256 = B.getD (off + 1) 0 := by omega
    rw [e1, e2]; rfl
  · have t2 : B.getD off 0 / 64 = 2 := by omega
    rw [rl_2 hz t2] at he ⊢
    by_cases hs : B.length - off < 4
    · rw [rlT_s hs] at he; cases he
    have h1 := hb (off + 1)
    have h2 := hb (off + 2)
    have h3 := hb (off + 3)
    have d1 := drop_get (B := B) (off := off + 1) (by omega)
    have d2 := drop_get (B := B) (off := off + 2) (by omega)
    have d3 := drop_get (B := B) (off := off + 3) (by omega)
    have e : numAtLaw 4 B off = ((B.getD off 0 * 256 + B.getD (off + 1) 0) * 256 + B.getD (off + 2) 0) * 256 + B.getD (off + 3) 0 := by show beN 4 _ _ = _; unfold beN beN beN beN beN; rw [Nat.add_zero]; omega
    have hv : iand (numAtLaw 4 B off) 1073741823 = ((B.getD off 0 * 256 + B.getD (off + 1) 0) * 256 + B.getD (off + 2) 0) * 256 + B.getD (off + 3) 0 - 2147483648 := by
      rw [e]
      have := iand_mod (a := ((B.getD off 0 * 256 + B.getD (off + 1) 0) * 256 + B.getD (off + 2) 0) * 256 + B.getD (off + 3) 0) 30 (by omega)
      rw [show ((2 : Int) ^ 30 - 1) = 1073741823 by decide, show ((2 : Int) ^ 30) = 1073741824 by decide] at this
      rw [this]; omega
    by_cases hl : iand (numAtLaw 4 B off) 1073741823 < 16384
    · rw [rlT_b hs hl] at he; cases he
    rw [rlT_g hs hl]
    simp only
    rw [hv] at hl ⊢
    refine ⟨by omega, by omega, by omega, ?_⟩
    rw [(len_c (by omega) (by omega)).1, d0, d1, d2, d3]
    generalize B.getD off 0 = b0 at *
    generalize B.getD (off + 1) 0 = b1 at *
    generalize B.getD (off + 2) 0 = b2 at *
    generalize B.getD (off + 3) 0 = b3 at *
    have e1 : (((b0 * 256 + b1) * 256 + b2) * 256 + b3 - 2147483648 + 2147483648) / 16777216 % 256 = b0 := by omega
    have e2 : (((b0 * 256 + b1) * 256 + b2) * 256 + b3 - 2147483648 + 2147483648) / 65536 % 256 = b1 := by omega
    have e3 : (((b0 * 256 + b1) * 256 + b2) * 256 + b3 - 2147483648 + 2147483648) / 256 % 256 = b2 := by omega
    have e4 : (((b0 * 256 + b1) * 256 + b2) * 256 + b3 - 2147483648 + 2147483648) / 1 % 256 = b3 := by omega
    rw [e1, e2, e3, e4]; rfl
theorem rv_canon {C : List Int} {off : Nat} (hb : ByLaw C) (he : rvELaw C off 0 = 0) :
    (rvVLaw C off 0).length ≤ 65536 ∧ off < rvOLaw C off 0 ∧ rvOLaw C off 0 ≤ C.length ∧ C.drop off = vec1Law (rvVLaw C off 0) ++ C.drop (rvOLaw C off 0) := by
  by_cases h2 : rtELaw C (rlOLaw C off 0) (rvE1 C off) (rlVLaw C off 0) ≠ 0
  · unfold rvELaw at he
    rw [rv_w rfl h2] at he
    exact absurd he h2
  have h2 : rtELaw C (rlOLaw C off 0) (rvE1 C off) (rlVLaw C off 0) = 0 := Classical.not_not.1 h2
  unfold rvVLaw rvOLaw
  rw [rv_g rfl h2]
  have e1 : rvE1 C off = 0 := by
    by_cases h : rvE1 C off = 0
    · exact h
    · rw [rtE_e _ h] at h2; exact h2
  have hE : rlELaw C off 0 = 0 ∧ rlVLaw C off 0 ≤ 65536 := by
    unfold rvE1 at e1
    split at e1
    · cases e1
    · rename_i hn
      refine ⟨e1, ?_⟩
      rw [e1] at hn
      omega
  obtain ⟨hE, hV⟩ := hE
  obtain ⟨c1, c2, c3, c4⟩ := rl_canon hb hE
  rw [e1] at h2 ⊢
  obtain ⟨m, hm⟩ := Int.eq_ofNat_of_zero_le c1
  rw [hm] at h2 hV c4 ⊢
  by_cases h3 : ((C.length - rlOLaw C off 0 : Nat) : Int) < m
  · unfold rtELaw at h2
    rw [rt_s (by omega) h3] at h2; cases h2
  unfold rtVLaw rtOLaw
  rw [rt_g h3]
  simp only
  have hl : (subLaw C (rlOLaw C off 0) m).length = m := by unfold subLaw; rw [List.length_take, List.length_drop]; omega
  refine ⟨by rw [hl]; omega, by omega, by omega, ?_⟩
  unfold vec1Law
  rw [hl, c4, List.append_assoc]
  congr 1
  unfold subLaw
  rw [← List.drop_drop, List.take_append_drop]
theorem rv_at {P row S : List Int} (h : row.length ≤ 65536) : rvP (P ++ (vec1Law row ++ S)) P.length 0 = (row, P.length + (vec1Law row).length, 0) := by
  have hr := rl_back (P := P) (S := row ++ S) (n := row.length) (by omega) (by omega)
  rw [List.append_assoc] at hr
  have hc : P ++ (vec1Law row ++ S) = P ++ (lenLaw row.length ++ (row ++ S)) := by unfold vec1Law; rw [List.append_assoc]
  rw [hc]
  generalize hC : P ++ (lenLaw row.length ++ (row ++ S)) = C at hr ⊢
  have hV : rlVLaw C P.length 0 = row.length := by unfold rlVLaw; rw [hr]
  have hO : rlOLaw C P.length 0 = P.length + (lenLaw row.length).length := by unfold rlOLaw; rw [hr]
  have hE : rlELaw C P.length 0 = 0 := by unfold rlELaw; rw [hr]
  have e1 : rvE1 C P.length = 0 := by unfold rvE1; rw [if_neg (by rw [hV]; omega), hE]
  have hlen : C.length = P.length + (lenLaw row.length).length + row.length + S.length := by rw [← hC]; simp; omega
  have hrt : rtP C (P.length + (lenLaw row.length).length) 0 (row.length : Int) = (row, P.length + (lenLaw row.length).length + row.length, 0) := by
    rw [rt_g (by rw [hlen]; omega)]
    have : subLaw C (P.length + (lenLaw row.length).length) row.length = row := by
      unfold subLaw
      rw [← hC, ← List.append_assoc, List.drop_left' (by simp), List.take_left' rfl]
    rw [this]
  have h2 : rtELaw C (rlOLaw C P.length 0) 0 (rlVLaw C P.length 0) = 0 := by unfold rtELaw; rw [hO, hV, hrt]
  rw [rv_g e1 h2]
  unfold rtVLaw rtOLaw rtELaw
  rw [hO, hV, hrt]
  simp only [vec1Law, List.length_append, Nat.add_assoc]
end Go.Abs

set_option linter.unusedVariables false
set_option linter.unusedSimpArgs false
set_option maxRecDepth 100000
set_option maxHeartbeats 4000000
namespace Go.Abs
open Go.Proofs Go.Proofs.Try
/-! ### vectors of one, and of three -/
noncomputable def eM2 : Env := eN0 [(89, S18c)]
theorem eM2_ok : EnvOk eM2 := envOf_ok tysN_ok (SumsOk.cons (fn := f89) S18c_ok (by kernel_rfl) (by kernel_rfl) (by kernel_rfl) trivial)
noncomputable def nR71a (a : List Int) (g1 n1 gO : Nat) (c1 : Option Nat) (ow ow1 : Bool) : Res := resG 2 [0, 1, 3] (runF eM2 f71 [] 400 [.slice 1 0 gO 0 1 (some 1)] [some ⟨.agg [.slice 1 1 g1 0 n1 c1], gO, ow, 22⟩, some ⟨.ints .u8 a, g1, ow1, 5⟩] [none, some false, none])
theorem nR71a_ok {a : List Int} {g1 n1 gO : Nat} {c1 : Option Nat} {ow ow1 : Bool} (h : allP [.eqN gO gO, .eqN gO gO, .eqN gO gO, .eqN g1 g1, .p (decide (65536 < (↑n1 : Int)) = false), .eqN g1 g1, .leN (lenLaw (↑n1 : Int)).length 140737488355328, .leN (0 + (lenLaw (↑n1 : Int)).length) (lenLaw (↑n1 : Int)).length, .leN (0 + (lenLaw (↑n1 : Int)).length) ([] ++ List.take (lenLaw (↑n1 : Int)).length
 (lenLaw (↑n1 : Int))).length, .leN (addO (lenLaw (↑n1 : Int)).length n1) 140737488355328, .eqN g1 g1, .leN (0 + n1) a.length]) : OkR (nR71a a g1 n1 gO c1 ow ow1) := OkR.dem (fl := bitsF 20 799788) (by kernel_rfl) (by kernel_rfl) (by kernel_rfl) h
theorem nR71a_val {a : List Int} {g1 n1 gO : Nat} {c1 : Option Nat} {ow ow1 : Bool} : (nR71a a g1 n1 gO c1 ow ow1).val = .tuple [.slice 1 2 1 0 (addO (lenLaw (↑n1 : Int)).length n1) none, .int .i64 0] := by kernel_rfl
theorem nR71a_tab {a : List Int} {g1 n1 gO : Nat} {c1 : Option Nat} {ow ow1 : Bool} : (nR71a a g1 n1 gO c1 ow ow1).tab = [some ⟨.agg [.slice 1 1 g1 0 n1 c1], gO, ow, 22⟩, some ⟨.ints .u8 a, g1, ow1, 5⟩, some ⟨.ints .u8 (List.take (lenLaw (↑n1 : Int)).length ([] ++ List.take (lenLaw (↑n1 : Int)).length (lenLaw (↑n1 : Int))) ++ List.take n1 a), 1, true, 5⟩] := by kernel_rfl
noncomputable def nR71c (a b c : List Int) (g1 g2 g3 n1 n2 n3 gO : Nat) (ow ow1 ow2 ow3 : Bool) : Res := resG 4 [0, 1, 2, 3, 5] (runF eM2 f71 [] 400 [.slice 1 0 gO 0 3 (some 3)] [some ⟨.agg [.slice 1 1 g1 0 n1 none, .slice 1 2 g2 0 n2 none, .slice 1 3 g3 0 n3 none], gO, ow, 22⟩, some ⟨.ints .u8 a, g1, ow1, 5⟩, some ⟨.ints .u8 b, g2, ow2, 5⟩, some ⟨.ints .u8 c, g3, ow3, 5⟩] [none, some false, none, some false, none, some false, none])
theorem nR71c_ok {a b c : List Int} {g1 g2 g3 n1 n2 n3 gO : Nat} {ow ow1 ow2 ow3 : Bool} (h : allP [.eqN gO gO, .eqN gO gO, .eqN gO gO, .eqN g1 g1, .p (decide (65536 < (↑n1 : Int)) = false), .eqN g1 g1, .leN (lenLaw (↑n1 : Int)).length 140737488355328, .leN (0 + (lenLaw (↑n1 : Int)).length) (lenLaw (↑n1 : Int)).length, .leN (0 + (lenLaw (↑n1 : Int)).length) ([] ++ List.take (lenLaw (↑n1 :
 Int)).length (lenLaw (↑n1 : Int))).length, .leN (addO (lenLaw (↑n1 : Int)).length n1) 140737488355328, .eqN g1 g1, .leN (0 + n1) a.length, .eqN gO gO, .eqN gO gO, .eqN g2 g2, .p (decide (65536 < (↑n2 : Int)) = false), .eqN g2 g2, .leN (0 + addO (lenLaw (↑n1 : Int)).length n1) (List.take (lenLaw (↑n1 : Int)).length ([] ++ List.take (lenLaw (↑n1 : Int)).length (lenLaw (↑n1 : Int))) ++ List.take n1
 a).length, .leN (addO (addO (lenLaw (↑n1 : Int)).length n1) (lenLaw (↑n2 : Int)).length) 140737488355328, .leN (0 + (lenLaw (↑n2 : Int)).length) (lenLaw (↑n2 : Int)).length, .leN (0 + addO (addO (lenLaw (↑n1 : Int)).length n1) (lenLaw (↑n2 : Int)).length) (List.take (addO (lenLaw (↑n1 : Int)).length n1) (List.take (lenLaw (↑n1 : Int)).length ([] ++ List.take (lenLaw (↑n1 : Int)).length (lenLaw (↑n1
 : Int))) ++ List.take n1 a) ++ List.take (lenLaw (↑n2 : Int)).length (lenLaw (↑n2 : Int))).length, .leN (addO (addO (addO (lenLaw (↑n1 : Int)).length n1) (lenLaw (↑n2 : Int)).length) n2) 140737488355328, .eqN g2 g2, .leN (0 + n2) b.length, .eqN gO gO, .eqN gO gO, .eqN g3 g3, .p (decide (65536 < (↑n3 : Int)) = false), .eqN g3 g3, .leN (0 + addO (addO (addO (lenLaw (↑n1 : Int)).length n1) (lenLaw
 (↑n2 : Int)).length) n2) (List.take (addO (addO (lenLaw (↑n1 : Int)).length n1) (lenLaw (↑n2 : Int)).length) (List.take (addO (lenLaw (↑n1 : Int)).length n1) (List.take (lenLaw (↑n1 : Int)).length ([] ++ List.take (lenLaw (↑n1 : Int)).length (lenLaw (↑n1 : Int))) ++ List.take n1 a) ++ List.take (lenLaw (↑n2 : Int)).length (lenLaw (↑n2 : Int))) ++ List.take n2 b).length, .leN (addO (addO (addO (addO
 (lenLaw (↑n1 : Int)).length n1) (lenLaw (↑n2 : Int)).length) n2) (lenLaw (↑n3 : Int)).length) 140737488355328, .leN (0 + (lenLaw (↑n3 : Int)).length) (lenLaw (↑n3 : Int)).length, .leN (0 + addO (addO (addO (addO (lenLaw (↑n1 : Int)).length n1) (lenLaw (↑n2 : Int)).length) n2) (lenLaw (↑n3 : Int)).length) (List.take (addO (addO (addO (lenLaw (↑n1 : Int)).length n1) (lenLaw (↑n2 : Int)).length) n2)
 (List.take (addO (addO (lenLaw (↑n1 : Int)).length n1) (lenLaw (↑n2 : Int)).length) (List.take (addO (lenLaw (↑n1 : Int)).length n1) (List.take (lenLaw (↑n1 : Int)).length ([] ++ List.take (lenLaw (↑n1 : Int)).length (lenLaw (↑n1 : Int))) ++ List.take n1 a) ++ List.take (lenLaw (↑n2 : Int)).length (lenLaw (↑n2 : Int))) ++ List.take n2 b) ++ List.take (lenLaw (↑n3 : Int)).length (lenLaw (↑n3 :
 Int))).length, .leN (addO (addO (addO (addO (addO (lenLaw (↑n1 : Int)).length n1) (lenLaw (↑n2 : Int)).length) n2) (lenLaw (↑n3 : Int)).length) n3) 140737488355328, .eqN g3 g3, .leN (0 + n3) c.length]) : OkR (nR71c a b c g1 g2 g3 n1 n2 n3 gO ow ow1 ow2 ow3) := OkR.dem (fl := bitsF 62 3517924314918433836) (by kernel_rfl) (by kernel_rfl) (by kernel_rfl) h
theorem nR71c_val {a b c : List Int} {g1 g2 g3 n1 n2 n3 gO : Nat} {ow ow1 ow2 ow3 : Bool} : (nR71c a b c g1 g2 g3 n1 n2 n3 gO ow ow1 ow2 ow3).val = .tuple [.slice 1 4 5 0 (addO (addO (addO (addO (addO (lenLaw (↑n1 : Int)).length n1) (lenLaw (↑n2 : Int)).length) n2) (lenLaw (↑n3 : Int)).length) n3) none, .int .i64 0] := by kernel_rfl
theorem nR71c_tab {a b c : List Int} {g1 g2 g3 n1 n2 n3 gO : Nat} {ow ow1 ow2 ow3 : Bool} : (nR71c a b c g1 g2 g3 n1 n2 n3 gO ow ow1 ow2 ow3).tab = [some ⟨.agg [.slice 1 1 g1 0 n1 none, .slice 1 2 g2 0 n2 none, .slice 1 3 g3 0 n3 none], gO, ow, 22⟩, some ⟨.ints .u8 a, g1, ow1, 5⟩, some ⟨.ints .u8 b, g2, ow2, 5⟩, some ⟨.ints .u8 c, g3, ow3, 5⟩, some ⟨.ints .u8 (List.take (addO (addO (addO (addO
 (lenLaw (↑n1 : Int)).length n1) (lenLaw (↑n2 : Int)).length) n2) (lenLaw (↑n3 : Int)).length) (List.take (addO (addO (addO (lenLaw (↑n1 : Int)).length n1) (lenLaw (↑n2 : Int)).length) n2) (List.take (addO (addO (lenLaw (↑n1 : Int)).length n1) (lenLaw (↑n2 : Int)).length) (List.take (addO (lenLaw (↑n1 : Int)).length n1) (List.take (lenLaw (↑n1 : Int)).length ([] ++ List.take (lenLaw (↑n1 :
 Int)).length (lenLaw (↑n1 : Int))) ++ List.take n1 a) ++ List.take (lenLaw (↑n2 : Int)).length (lenLaw (↑n2 : Int))) ++ List.take n2 b) ++ List.take (lenLaw (↑n3 : Int)).length (lenLaw (↑n3 : Int))) ++ List.take n3 c), 5, true, 5⟩] := by kernel_rfl
def v1Law (n : Nat) (a : List Int) : List Int := vec1Law (List.take n a)
def jn3Law (a b c : List Int) : List Int := vec1Law a ++ (vec1Law b ++ vec1Law c)
theorem v1_len {n : Nat} {a : List Int} (h : n ≤ a.length) : (v1Law n a).length = (lenLaw (n : Int)).length + n := by
  have hl : (List.take n a).length = n := by rw [List.length_take]; omega
  unfold v1Law vec1Law
  rw [hl, List.length_append, hl]
theorem jn3_len (a b c : List Int) : (jn3Law a b c).length = (lenLaw (a.length : Int)).length + a.length + (lenLaw (b.length : Int)).length + b.length + (lenLaw (c.length : Int)).length + c.length := by
  unfold jn3Law vec1Law
  simp only [List.length_append]
  omega
noncomputable def nsm71ac (args : List AVal) (T : Tab) (a : List Int) (g1 : Nat) (n1 : Nat) (c1 : Option Nat) (gO : Nat) (ow : Bool) (ow1 : Bool) : Res := ⟨[.tab T [some ⟨.agg [.slice 1 1 g1 0 n1 c1], gO, ow, 22⟩, some ⟨.ints .u8 a, g1, ow1, 5⟩], .val (.tuple args) (.tuple [.slice 1 0 gO 0 1 (some 1)]), .leN n1 a.length, .leN n1 65536], .tuple [.slice 1 2 1 0 (v1Law n1 a).length none, .int .i64 0], [some ⟨.agg [.slice 1 1 g1 0 n1 c1], gO, ow, 22⟩, some ⟨.ints .u8 a, g1, ow1, 5⟩, some ⟨.ints .u8 (v1Law n1 a), 1, true, 5⟩]⟩
theorem nsm71ac_ok {args : List AVal} {T : Tab} {a : List Int} {g1 : Nat} {n1 : Nat} {c1 : Option Nat} {gO : Nat} {ow : Bool} {ow1 : Bool} (h : allP (nsm71ac args T a g1 n1 c1 gO ow ow1).cs) : Small prog (fun _ => none) 71 args T (nsm71ac args T a g1 n1 c1 gO ow ow1).val (nsm71ac args T a g1 n1 c1 gO ow ow1).tab := by
  obtain ⟨hT, hv, h1, h2, _⟩ := h
  simp only [Con.h] at hT hv h1 h2
  injection hv with hv
  subst hT hv
  show Small prog (fun _ => none) 71 [.slice 1 0 gO 0 1 (some 1)] [some ⟨.agg [.slice 1 1 g1 0 n1 c1], gO, ow, 22⟩, some ⟨.ints .u8 a, g1, ow1, 5⟩] (.tuple [.slice 1 2 1 0 (v1Law n1 a).length none, .int .i64 0]) [some ⟨.agg [.slice 1 1 g1 0 n1 c1], gO, ow, 22⟩, some ⟨.ints .u8 a, g1, ow1, 5⟩, some ⟨.ints .u8 (v1Law n1 a), 1, true, 5⟩]
  have hl : (List.take n1 a).length = n1 := by rw [List.length_take]; omega
  have hL := lenLaw_len (n1 : Int)
  refine small_ofG (R := nR71a a g1 n1 gO c1 ow ow1) eM2_ok hmN (f := 71) (fn := f71) (by kernel_rfl) (by kernel_rfl) FnOrc.nil rfl (nR71a_ok ?_) ?_ ?_
  · simp (disch := (simp only [List.length_append, List.length_take, addO_eq, List.length_nil]; omega)) only [allP, Con.h, List.take_of_length_le, addO_eq, List.nil_append, Nat.zero_add, List.length_append, List.length_take, Nat.min_self, eq_self, true_and, and_true, decide_eq_true_eq, decide_eq_false_iff_not]
    omega
  · rw [nR71a_val, v1_len h1, addO_eq]
  · rw [nR71a_tab]
    unfold v1Law vec1Law
    rw [hl]
    simp (disch := (simp only [List.length_append, List.length_take, addO_eq, List.length_nil]; omega)) only [List.take_length, List.take_of_length_le, addO_eq, List.nil_append]
noncomputable def nsm71a : Summary := fun args T => nsm71ac args T (xsAt T 1) (gAt T 1) (lenOf ((dAt T 0).get 0)) (capOf ((dAt T 0).get 0)) (gAt T 0) (owAt T 0) (owAt T 1)
theorem nsm71a_ok : SmOk prog (fun _ => none) 71 nsm71a := fun args T h => nsm71ac_ok h
noncomputable def nsm71cc (args : List AVal) (T : Tab) (a : List Int) (b : List Int) (c : List Int) (g1 : Nat) (g2 : Nat) (g3 : Nat) (n1 : Nat) (n2 : Nat) (n3 : Nat) (gO : Nat) (ow : Bool) (ow1 : Bool) (ow2 : Bool) (ow3 : Bool) : Res := ⟨[.tab T [some ⟨.agg [.slice 1 1 g1 0 n1 none, .slice 1 2 g2 0 n2 none, .slice 1 3 g3 0 n3 none], gO, ow, 22⟩, some ⟨.ints .u8 a, g1, ow1, 5⟩, some ⟨.ints .u8 b, g2, ow2, 5⟩, some ⟨.ints .u8 c, g3, ow3, 5⟩], .val (.tuple args) (.tuple [.slice 1 0 gO 0 3 (some 3)]), .eqN n1 a.length, .eqN n2 b.length, .eqN n3 c.length, .leN n1 65536, .leN n2 65536, .leN n3 65536], .tuple [.slice 1 4 5 0 (jn3Law a b c).length none, .int .i64 0], [some ⟨.agg [.slice 1 1 g1 0 n1 none, .slice 1 2 g2 0 n2 none, .slice 1 3 g3 0 n3 none], gO, ow, 22⟩, some ⟨.ints .u8 a, g1, ow1, 5⟩, some ⟨.ints .u8 b, g2, ow2, 5⟩, some ⟨.ints .u8 c, g3, ow3, 5⟩, some ⟨.ints .u8 (jn3Law a b c), 5, true, 5⟩]⟩
theorem nsm71cc_ok {args : List AVal} {T : Tab} {a : List Int} {b : List Int} {c : List Int} {g1 : Nat} {g2 : Nat} {g3 : Nat} {n1 : Nat} {n2 : Nat} {n3 : Nat} {gO : Nat} {ow : Bool} {ow1 : Bool} {ow2 : Bool} {ow3 : Bool} (h : allP (nsm71cc args T a b c g1 g2 g3 n1 n2 n3 gO ow ow1 ow2 ow3).cs) : Small prog (fun _ => none) 71 args T (nsm71cc args T a b c g1 g2 g3 n1 n2 n3 gO ow ow1 ow2 ow3).val (nsm71cc args T a b c g1 g2 g3 n1 n2 n3 gO ow ow1 ow2 ow3).tab := by
  obtain ⟨hT, hv, h1, h2, h3, h4, h5, h6, _⟩ := h
  simp only [Con.h] at hT hv h1 h2 h3 h4 h5 h6
  injection hv with hv
  subst hT hv
  show Small prog (fun _ => none) 71 [.slice 1 0 gO 0 3 (some 3)] [some ⟨.agg [.slice 1 1 g1 0 n1 none, .slice 1 2 g2 0 n2 none, .slice 1 3 g3 0 n3 none], gO, ow, 22⟩, some ⟨.ints .u8 a, g1, ow1, 5⟩, some ⟨.ints .u8 b, g2, ow2, 5⟩, some ⟨.ints .u8 c, g3, ow3, 5⟩] (.tuple [.slice 1 4 5 0 (jn3Law a b c).length none, .int .i64 0]) [some ⟨.agg [.slice 1 1 g1 0 n1 none, .slice 1 2 g2 0 n2 none, .slice 1 3 g3 0 n3 none], gO, ow, 22⟩, some ⟨.ints .u8 a, g1, ow1, 5⟩, some ⟨.ints .u8 b, g2, ow2, 5⟩, some ⟨.ints .u8 c, g3, ow3, 5⟩, some ⟨.ints .u8 (jn3Law a b c), 5, true, 5⟩]
  subst h1 h2 h3
  have hA := lenLaw_len (a.length : Int)
  have hB := lenLaw_len (b.length : Int)
  have hC := lenLaw_len (c.length : Int)
  refine small_ofG (R := nR71c a b c g1 g2 g3 a.length b.length c.length gO ow ow1 ow2 ow3) eM2_ok hmN (f := 71) (fn := f71) (by kernel_rfl) (by kernel_rfl) FnOrc.nil rfl (nR71c_ok ?_) ?_ ?_
  · simp (disch := (simp only [List.length_append, List.length_take, addO_eq, List.length_nil]; omega)) only [allP, Con.h, List.take_of_length_le, addO_eq, List.nil_append, Nat.zero_add, List.length_append, List.length_take, Nat.min_self, eq_self, true_and, and_true, decide_eq_true_eq, decide_eq_false_iff_not]
    omega
  · rw [nR71c_val, jn3_len]
    simp only [addO_eq, Nat.add_assoc]
  · rw [nR71c_tab]
    unfold jn3Law vec1Law
    simp (disch := (simp only [List.length_append, List.length_take, addO_eq, List.length_nil]; omega)) only [List.take_length, List.take_of_length_le, addO_eq, List.nil_append]
    simp only [List.append_assoc]
noncomputable def nsm71c : Summary := fun args T => nsm71cc args T (xsAt T 1) (xsAt T 2) (xsAt T 3) (gAt T 1) (gAt T 2) (gAt T 3) (lenOf ((dAt T 0).get 0)) (lenOf ((dAt T 0).get 1)) (lenOf ((dAt T 0).get 2)) (gAt T 0) (owAt T 0) (owAt T 1) (owAt T 2) (owAt T 3)
theorem nsm71c_ok : SmOk prog (fun _ => none) 71 nsm71c := fun args T h => nsm71cc_ok h
noncomputable def nS71 : Summary := fun args T => match lenOf (vAt args 0) with
  | 1 => callR nsm71a [] args T
  | 3 => callR nsm71c [] args T
  | _ => fail
theorem nS71_ok : SumOk prog (fun _ => none) 71 nS71 := by
  intro args T hc
  unfold nS71 at hc ⊢
  split at hc
  · exact callR_ok nsm71a_ok [] args T hc
  · exact callR_ok nsm71c_ok [] args T hc
  · exact absurd hc nofail
end Go.Abs

set_option linter.unusedVariables false
set_option linter.unusedSimpArgs false
set_option maxRecDepth 100000
set_option maxHeartbeats 4000000
namespace Go.Abs
open Go.Proofs Go.Proofs.Try
/-! ### a writer -/
theorem num_len (n size : Int) : (numLaw n size).length ≤ 8 := by
  unfold numLaw
  split
  · rename_i h
    rcases h.1 with rfl | rfl | rfl | rfl <;> simp [beLaw]
  · simp
noncomputable def eM3 : Env := eN0 [(71, nS71)]
theorem eM3_ok : EnvOk eM3 := envOf_ok tysN_ok (SumsOk.cons (fn := f71) nS71_ok (by kernel_rfl) (by kernel_rfl) (by kernel_rfl) trivial)
noncomputable def eM4 : Env := eN0 [(73, S16)]
theorem eM4_ok : EnvOk eM4 := envOf_ok tysN_ok (SumsOk.cons (fn := f73) S16_ok (by kernel_rfl) (by kernel_rfl) (by kernel_rfl) trivial)
noncomputable def nR38  : Res := runF (eN0 []) f38 [] 400 [] [] []
theorem nR38_ok  (h : allP []) : OkR (nR38 ) := OkR.dem (fl := bitsF 22 4194303) (by kernel_rfl) (by kernel_rfl) (by kernel_rfl) h
theorem nR38_val  : (nR38 ).val = .var 0 0 := by kernel_rfl
theorem nR38_tab  : (nR38 ).tab = [some ⟨.agg [.nilSlice, .func (Fn.func 70) [] [.var 1 0], .func (Fn.func 72) [] [.var 1 0]], 0, true, 81⟩, some ⟨.agg [.var 0 0], 0, true, 75⟩] := by kernel_rfl
noncomputable def nR70a (a : List Int) (g1 : Nat) (n1 : Nat) (c1 : Option Nat) (gO : Nat) (ow : Bool) (ow1 : Bool) (X : List Int) (gC : Nat) (gW : Nat) (gB : Nat) (m : Nat) (owC : Bool) : Res := resG 5 [0, 1, 2, 3, 4] (runF eM3 f70 [] 400 [.slice 1 0 gO 0 1 (some 1), .var 1 gC] [some ⟨.agg [.slice 1 2 g1 0 n1 c1], gO, ow, 22⟩, some ⟨.agg [.var 3 gW], gC, owC, 75⟩, some ⟨.ints .u8 a, g1, ow1, 5⟩, some ⟨.agg [.slice 1 4 gB 0 m none, .func (.func 70) [] [.var 1 gC], .func (.func 72) [] [.var 1 gC]], gW, true, 81⟩, some ⟨.ints .u8 X, gB, true, 5⟩] [])
theorem nR70a_ok {a : List Int} {g1 : Nat} {n1 : Nat} {c1 : Option Nat} {gO : Nat} {ow : Bool} {ow1 : Bool} {X : List Int} {gC : Nat} {gW : Nat} {gB : Nat} {m : Nat} {owC : Bool} (h : allP [.eqN gO gO, .eqN g1 g1, .leN n1 a.length, .leN n1 65536, .eqN gC gC, .eqN gC gC, .eqN gC gC, .eqN gW gW, .eqN gW gW, .eqN gW gW, .eqN gB gB, .leN (0 + m) X.length, .leN (addO m (v1Law n1 a).length)
 140737488355328, .leN (0 + (v1Law n1 a).length) (v1Law n1 a).length, .eqN gW gW, .eqN gW gW, .eqN gW gW]) : OkR (nR70a a g1 n1 c1 gO ow ow1 X gC gW gB m owC) := OkR.dem (fl := bitsF 32 1889674496) (by kernel_rfl) (by kernel_rfl) (by kernel_rfl) h
theorem nR70a_val {a : List Int} {g1 : Nat} {n1 : Nat} {c1 : Option Nat} {gO : Nat} {ow : Bool} {ow1 : Bool} {X : List Int} {gC : Nat} {gW : Nat} {gB : Nat} {m : Nat} {owC : Bool} : (nR70a a g1 n1 c1 gO ow ow1 X gC gW gB m owC).val = .tuple [] := by kernel_rfl
theorem nR70a_tab {a : List Int} {g1 : Nat} {n1 : Nat} {c1 : Option Nat} {gO : Nat} {ow : Bool} {ow1 : Bool} {X : List Int} {gC : Nat} {gW : Nat} {gB : Nat} {m : Nat} {owC : Bool} : (nR70a a g1 n1 c1 gO ow ow1 X gC gW gB m owC).tab = [some ⟨.agg [.slice 1 2 g1 0 n1 c1], gO, ow, 22⟩, some ⟨.agg [.var 3 gW], gC, owC, 75⟩, some ⟨.ints .u8 a, g1, ow1, 5⟩, some ⟨.agg [.slice 1 4 (gB + 1) 0 (addO m
 (v1Law n1 a).length) none, .func (Fn.func 70) [] [.var 1 gC], .func (Fn.func 72) [] [.var 1 gC]], gW, true, 81⟩, some ⟨.ints .u8 (List.take m X ++ List.take (v1Law n1 a).length (v1Law n1 a)), gB + 1, true, 5⟩] := by kernel_rfl
noncomputable def nR70c (a : List Int) (b : List Int) (c : List Int) (g1 : Nat) (g2 : Nat) (g3 : Nat) (n1 : Nat) (n2 : Nat) (n3 : Nat) (gO : Nat) (ow : Bool) (ow1 : Bool) (ow2 : Bool) (ow3 : Bool) (X : List Int) (gC : Nat) (gW : Nat) (gB : Nat) (m : Nat) (owC : Bool) : Res := resG 7 [0, 1, 2, 3, 4, 5, 6] (runF eM3 f70 [] 400 [.slice 1 0 gO 0 3 (some 3), .var 1 gC] [some ⟨.agg [.slice 1 2 g1 0 n1 none, .slice 1 3 g2 0 n2 none, .slice 1 4 g3 0 n3 none], gO, ow, 22⟩, some ⟨.agg [.var 5 gW], gC, owC, 75⟩, some ⟨.ints .u8 a, g1, ow1, 5⟩, some ⟨.ints .u8 b, g2, ow2, 5⟩, some ⟨.ints .u8 c, g3, ow3, 5⟩, some ⟨.agg [.slice 1 6 gB 0 m none, .func (.func 70) [] [.var 1 gC], .func (.func 72) [] [.var 1 gC]], gW, true, 81⟩, some ⟨.ints .u8 X, gB, true, 5⟩] [])
theorem nR70c_ok {a : List Int} {b : List Int} {c : List Int} {g1 : Nat} {g2 : Nat} {g3 : Nat} {n1 : Nat} {n2 : Nat} {n3 : Nat} {gO : Nat} {ow : Bool} {ow1 : Bool} {ow2 : Bool} {ow3 : Bool} {X : List Int} {gC : Nat} {gW : Nat} {gB : Nat} {m : Nat} {owC : Bool} (h : allP [.eqN gO gO, .eqN g1 g1, .eqN g2 g2, .eqN g3 g3, .eqN n1 a.length, .eqN n2 b.length, .eqN n3 c.length, .leN n1 65536, .leN n2
 65536, .leN n3 65536, .eqN gC gC, .eqN gC gC, .eqN gC gC, .eqN gW gW, .eqN gW gW, .eqN gW gW, .eqN gB gB, .leN (0 + m) X.length, .leN (addO m (jn3Law a b c).length) 140737488355328, .leN (0 + (jn3Law a b c).length) (jn3Law a b c).length, .eqN gW gW, .eqN gW gW, .eqN gW gW]) : OkR (nR70c a b c g1 g2 g3 n1 n2 n3 gO ow ow1 ow2 ow3 X gC gW gB m owC) := OkR.dem (fl := bitsF 38 120939167744) (by
 kernel_rfl) (by kernel_rfl) (by kernel_rfl) h
theorem nR70c_val {a : List Int} {b : List Int} {c : List Int} {g1 : Nat} {g2 : Nat} {g3 : Nat} {n1 : Nat} {n2 : Nat} {n3 : Nat} {gO : Nat} {ow : Bool} {ow1 : Bool} {ow2 : Bool} {ow3 : Bool} {X : List Int} {gC : Nat} {gW : Nat} {gB : Nat} {m : Nat} {owC : Bool} : (nR70c a b c g1 g2 g3 n1 n2 n3 gO ow ow1 ow2 ow3 X gC gW gB m owC).val = .tuple [] := by kernel_rfl
theorem nR70c_tab {a : List Int} {b : List Int} {c : List Int} {g1 : Nat} {g2 : Nat} {g3 : Nat} {n1 : Nat} {n2 : Nat} {n3 : Nat} {gO : Nat} {ow : Bool} {ow1 : Bool} {ow2 : Bool} {ow3 : Bool} {X : List Int} {gC : Nat} {gW : Nat} {gB : Nat} {m : Nat} {owC : Bool} : (nR70c a b c g1 g2 g3 n1 n2 n3 gO ow ow1 ow2 ow3 X gC gW gB m owC).tab = [some ⟨.agg [.slice 1 2 g1 0 n1 none, .slice 1 3 g2 0 n2 none,
 .slice 1 4 g3 0 n3 none], gO, ow, 22⟩, some ⟨.agg [.var 5 gW], gC, owC, 75⟩, some ⟨.ints .u8 a, g1, ow1, 5⟩, some ⟨.ints .u8 b, g2, ow2, 5⟩, some ⟨.ints .u8 c, g3, ow3, 5⟩, some ⟨.agg [.slice 1 6 (gB + 1) 0 (addO m (jn3Law a b c).length) none, .func (Fn.func 70) [] [.var 1 gC], .func (Fn.func 72) [] [.var 1 gC]], gW, true, 81⟩, some ⟨.ints .u8 (List.take m X ++ List.take (jn3Law a b c).length
 (jn3Law a b c)), gB + 1, true, 5⟩] := by kernel_rfl
noncomputable def nR72 (n : Int) (size : Int) (X : List Int) (gC : Nat) (gW : Nat) (gB : Nat) (m : Nat) (owC : Bool) : Res := resG 3 [0, 1, 2] (runF eM4 f72 [] 400 [.int .i64 n, .int .i64 size, .var 0 gC] [some ⟨.agg [.var 1 gW], gC, owC, 75⟩, some ⟨.agg [.slice 1 2 gB 0 m none, .func (.func 70) [] [.var 0 gC], .func (.func 72) [] [.var 0 gC]], gW, true, 81⟩, some ⟨.ints .u8 X, gB, true, 5⟩] [])
theorem nR72_ok {n : Int} {size : Int} {X : List Int} {gC : Nat} {gW : Nat} {gB : Nat} {m : Nat} {owC : Bool} (h : allP [.eqN gC gC, .eqN gC gC, .eqN gC gC, .eqN gW gW, .eqN gW gW, .eqN gW gW, .eqN gB gB, .leN (0 + m) X.length, .leN (addO m (numLaw n size).length) 140737488355328, .leN (0 + (numLaw n size).length) (numLaw n size).length, .eqN gW gW, .eqN gW gW, .eqN gW gW]) : OkR (nR72 n size X gC
 gW gB m owC) := OkR.dem (fl := bitsF 26 29526164) (by kernel_rfl) (by kernel_rfl) (by kernel_rfl) h
theorem nR72_val {n : Int} {size : Int} {X : List Int} {gC : Nat} {gW : Nat} {gB : Nat} {m : Nat} {owC : Bool} : (nR72 n size X gC gW gB m owC).val = .tuple [] := by kernel_rfl
theorem nR72_tab {n : Int} {size : Int} {X : List Int} {gC : Nat} {gW : Nat} {gB : Nat} {m : Nat} {owC : Bool} : (nR72 n size X gC gW gB m owC).tab = [some ⟨.agg [.var 1 gW], gC, owC, 75⟩, some ⟨.agg [.slice 1 2 (gB + 1) 0 (addO m (numLaw n size).length) none, .func (Fn.func 70) [] [.var 0 gC], .func (Fn.func 72) [] [.var 0 gC]], gW, true, 81⟩, some ⟨.ints .u8 (List.take m X ++ List.take (numLaw n
 size).length (numLaw n size)), gB + 1, true, 5⟩] := by kernel_rfl
theorem small38 : Small prog (fun _ => none) 38 [] [] (.var 0 0) [some ⟨.agg [.slice 1 2 0 0 0 none, .func (.func 70) [] [.var 1 0], .func (.func 72) [] [.var 1 0]], 0, true, 81⟩, some ⟨.agg [.var 0 0], 0, true, 75⟩, some ⟨.ints .u8 [], 0, true, 5⟩] :=
  Small.conv (ids := [0]) (small_of (R := nR38) eN0_ok hmN (f := 38) (fn := f38) (by kernel_rfl) (by kernel_rfl) FnOrc.nil rfl (nR38_ok trivial) nR38_val nR38_tab) (Conv.nilCell (kk := .u8) (et2 := 5) (sz := 1) (p := 0) (j := 0) rfl rfl rfl) (by intro p hp; simp at hp; subst hp; rfl)
noncomputable def nsm38c (args : List AVal) (T : Tab)  : Res := ⟨[.tab T [], .val (.tuple args) (.tuple [])], .var 0 0, [some ⟨.agg [.slice 1 2 0 0 0 none, .func (.func 70) [] [.var 1 0], .func (.func 72) [] [.var 1 0]], 0, true, 81⟩, some ⟨.agg [.var 0 0], 0, true, 75⟩, some ⟨.ints .u8 [], 0, true, 5⟩]⟩
theorem nsm38c_ok {args : List AVal} {T : Tab}  (h : allP (nsm38c args T ).cs) : Small prog (fun _ => none) 38 args T (nsm38c args T ).val (nsm38c args T ).tab := by
  obtain ⟨hT, hv, _⟩ := h
  simp only [Con.h] at hT hv
  injection hv with hv
  subst hT hv
  show Small prog (fun _ => none) 38 [] [] (.var 0 0) [some ⟨.agg [.slice 1 2 0 0 0 none, .func (.func 70) [] [.var 1 0], .func (.func 72) [] [.var 1 0]], 0, true, 81⟩, some ⟨.agg [.var 0 0], 0, true, 75⟩, some ⟨.ints .u8 [], 0, true, 5⟩]
  exact small38
noncomputable def nsm38 : Summary := fun args T => nsm38c args T 
theorem nsm38_ok : SmOk prog (fun _ => none) 38 nsm38 := fun args T h => nsm38c_ok h
noncomputable def nS38 : Summary := callR nsm38 []
theorem nS38_ok : SumOk prog (fun _ => none) 38 nS38 := callR_ok nsm38_ok []
noncomputable def nsm70ac (args : List AVal) (T : Tab) (a : List Int) (g1 : Nat) (n1 : Nat) (c1 : Option Nat) (gO : Nat) (ow : Bool) (ow1 : Bool) (X : List Int) (gC : Nat) (gW : Nat) (gB : Nat) (m : Nat) (owC : Bool) : Res := ⟨[.tab T [some ⟨.agg [.slice 1 2 g1 0 n1 c1], gO, ow, 22⟩, some ⟨.agg [.var 3 gW], gC, owC, 75⟩, some ⟨.ints .u8 a, g1, ow1, 5⟩, some ⟨.agg [.slice 1 4 gB 0 m none, .func (.func 70) [] [.var 1 gC], .func (.func 72) [] [.var 1 gC]], gW, true, 81⟩, some ⟨.ints .u8 X, gB, true, 5⟩], .val (.tuple args) (.tuple [.slice 1 0 gO 0 1 (some 1), .var 1 gC]), .leN n1 a.length, .leN n1 65536, .eqN m X.length, .leN m 140737488000000], .tuple [], [some ⟨.agg [.slice 1 2 g1 0 n1 c1], gO, ow, 22⟩, some ⟨.agg [.var 3 gW], gC, owC, 75⟩, some ⟨.ints .u8 a, g1, ow1, 5⟩, some ⟨.agg [.slice 1 4 (gB + 1) 0 (X ++ v1Law n1 a).length none, .func (.func 70) [] [.var 1 gC], .func (.func 72) [] [.var 1 gC]], gW, true, 81⟩, some ⟨.ints .u8 (X ++ v1Law n1 a), (gB + 1), true, 5⟩]⟩
theorem nsm70ac_ok {args : List AVal} {T : Tab} {a : List Int} {g1 : Nat} {n1 : Nat} {c1 : Option Nat} {gO : Nat} {ow : Bool} {ow1 : Bool} {X : List Int} {gC : Nat} {gW : Nat} {gB : Nat} {m : Nat} {owC : Bool} (h : allP (nsm70ac args T a g1 n1 c1 gO ow ow1 X gC gW gB m owC).cs) : Small prog (fun _ => none) 70 args T (nsm70ac args T a g1 n1 c1 gO ow ow1 X gC gW gB m owC).val (nsm70ac args T a g1 n1 c1 gO ow ow1 X gC gW gB m owC).tab := by
  obtain ⟨hT, hv, h1, h2, h3, h4, _⟩ := h
  simp only [Con.h] at hT hv h1 h2 h3 h4
  injection hv with hv
  subst hT hv
  show Small prog (fun _ => none) 70 [.slice 1 0 gO 0 1 (some 1), .var 1 gC] [some ⟨.agg [.slice 1 2 g1 0 n1 c1], gO, ow, 22⟩, some ⟨.agg [.var 3 gW], gC, owC, 75⟩, some ⟨.ints .u8 a, g1, ow1, 5⟩, some ⟨.agg [.slice 1 4 gB 0 m none, .func (.func 70) [] [.var 1 gC], .func (.func 72) [] [.var 1 gC]], gW, true, 81⟩, some ⟨.ints .u8 X, gB, true, 5⟩] (.tuple []) [some ⟨.agg [.slice 1 2 g1 0 n1 c1], gO, ow, 22⟩, some ⟨.agg [.var 3 gW], gC, owC, 75⟩, some ⟨.ints .u8 a, g1, ow1, 5⟩, some ⟨.agg [.slice 1 4 (gB + 1) 0 (X ++ v1Law n1 a).length none, .func (.func 70) [] [.var 1 gC], .func (.func 72) [] [.var 1 gC]], gW, true, 81⟩, some ⟨.ints .u8 (X ++ v1Law n1 a), (gB + 1), true, 5⟩]
  have hL := lenLaw_len (n1 : Int)
  have hv := v1_len h1
  subst h3
  refine small_ofG (R := nR70a a g1 n1 c1 gO ow ow1 X gC gW gB X.length owC) eM3_ok hmN (f := 70) (fn := f70) (by kernel_rfl) (by kernel_rfl) FnOrc.nil rfl (nR70a_ok ?_) nR70a_val ?_
  · simp (disch := (simp only [List.length_append, List.length_take, addO_eq, List.length_nil]; omega)) only [allP, Con.h, List.take_length, List.take_of_length_le, addO_eq, List.nil_append, Nat.zero_add, List.length_append, List.length_take, Nat.min_self, eq_self, true_and, and_true, decide_eq_true_eq, decide_eq_false_iff_not]
    omega
  · rw [nR70a_tab, List.length_append]
    simp (disch := (simp only [List.length_append, List.length_take, addO_eq, List.length_nil]; omega)) only [List.take_length, List.take_of_length_le, addO_eq, List.nil_append]
noncomputable def nsm70a : Summary := fun args T => nsm70ac args T (xsAt T 2) (gAt T 2) (lenOf ((dAt T 0).get 0)) (capOf ((dAt T 0).get 0)) (gAt T 0) (owAt T 0) (owAt T 2) (xsAt T 4) (gAt T 1) (gAt T 3) (gAt T 4) (lenOf (cAt T 3 0)) (owAt T 1)
theorem nsm70a_ok : SmOk prog (fun _ => none) 70 nsm70a := fun args T h => nsm70ac_ok h
noncomputable def nsm70cc (args : List AVal) (T : Tab) (a : List Int) (b : List Int) (c : List Int) (g1 : Nat) (g2 : Nat) (g3 : Nat) (n1 : Nat) (n2 : Nat) (n3 : Nat) (gO : Nat) (ow : Bool) (ow1 : Bool) (ow2 : Bool) (ow3 : Bool) (X : List Int) (gC : Nat) (gW : Nat) (gB : Nat) (m : Nat) (owC : Bool) : Res := ⟨[.tab T [some ⟨.agg [.slice 1 2 g1 0 n1 none, .slice 1 3 g2 0 n2 none, .slice 1 4 g3 0 n3 none], gO, ow, 22⟩, some ⟨.agg [.var 5 gW], gC, owC, 75⟩, some ⟨.ints .u8 a, g1, ow1, 5⟩, some ⟨.ints .u8 b, g2, ow2, 5⟩, some ⟨.ints .u8 c, g3, ow3, 5⟩, some ⟨.agg [.slice 1 6 gB 0 m none, .func (.func 70) [] [.var 1 gC], .func (.func 72) [] [.var 1 gC]], gW, true, 81⟩, some ⟨.ints .u8 X, gB, true, 5⟩], .val (.tuple args) (.tuple [.slice 1 0 gO 0 3 (some 3), .var 1 gC]), .eqN n1 a.length, .eqN n2 b.length, .eqN n3 c.length, .leN n1 65536, .leN n2 65536, .leN n3 65536, .eqN m X.length, .leN m 140737488000000], .tuple [], [some ⟨.agg [.slice 1 2 g1 0 n1 none, .slice 1 3 g2 0 n2 none, .slice 1 4 g3 0 n3 none], gO, ow, 22⟩, some ⟨.agg [.var 5 gW], gC, owC, 75⟩, some ⟨.ints .u8 a, g1, ow1, 5⟩, some ⟨.ints .u8 b, g2, ow2, 5⟩, some ⟨.ints .u8 c, g3, ow3, 5⟩, some ⟨.agg [.slice 1 6 (gB + 1) 0 (X ++ jn3Law a b c).length none, .func (.func 70) [] [.var 1 gC], .func (.func 72) [] [.var 1 gC]], gW, true, 81⟩, some ⟨.ints .u8 (X ++ jn3Law a b c), (gB + 1), true, 5⟩]⟩
theorem nsm70cc_ok {args : List AVal} {T : Tab} {a : List Int} {b : List Int} {c : List Int} {g1 : Nat} {g2 : Nat} {g3 : Nat} {n1 : Nat} {n2 : Nat} {n3 : Nat} {gO : Nat} {ow : Bool} {ow1 : Bool} {ow2 : Bool} {ow3 : Bool} {X : List Int} {gC : Nat} {gW : Nat} {gB : Nat} {m : Nat} {owC : Bool} (h : allP (nsm70cc args T a b c g1 g2 g3 n1 n2 n3 gO ow ow1 ow2 ow3 X gC gW gB m owC).cs) : Small prog (fun _ => none) 70 args T (nsm70cc args T a b c g1 g2 g3 n1 n2 n3 gO ow ow1 ow2 ow3 X gC gW gB m owC).val (nsm70cc args T a b c g1 g2 g3 n1 n2 n3 gO ow ow1 ow2 ow3 X gC gW gB m owC).tab := by
  obtain ⟨hT, hv, h1, h2, h3, h4, h5, h6, h7, h8, _⟩ := h
  simp only [Con.h] at hT hv h1 h2 h3 h4 h5 h6 h7 h8
  injection hv with hv
  subst hT hv
  show Small prog (fun _ => none) 70 [.slice 1 0 gO 0 3 (some 3), .var 1 gC] [some ⟨.agg [.slice 1 2 g1 0 n1 none, .slice 1 3 g2 0 n2 none, .slice 1 4 g3 0 n3 none], gO, ow, 22⟩, some ⟨.agg [.var 5 gW], gC, owC, 75⟩, some ⟨.ints .u8 a, g1, ow1, 5⟩, some ⟨.ints .u8 b, g2, ow2, 5⟩, some ⟨.ints .u8 c, g3, ow3, 5⟩, some ⟨.agg [.slice 1 6 gB 0 m none, .func (.func 70) [] [.var 1 gC], .func (.func 72) [] [.var 1 gC]], gW, true, 81⟩, some ⟨.ints .u8 X, gB, true, 5⟩] (.tuple []) [some ⟨.agg [.slice 1 2 g1 0 n1 none, .slice 1 3 g2 0 n2 none, .slice 1 4 g3 0 n3 none], gO, ow, 22⟩, some ⟨.agg [.var 5 gW], gC, owC, 75⟩, some ⟨.ints .u8 a, g1, ow1, 5⟩, some ⟨.ints .u8 b, g2, ow2, 5⟩, some ⟨.ints .u8 c, g3, ow3, 5⟩, some ⟨.agg [.slice 1 6 (gB + 1) 0 (X ++ jn3Law a b c).length none, .func (.func 70) [] [.var 1 gC], .func (.func 72) [] [.var 1 gC]], gW, true, 81⟩, some ⟨.ints .u8 (X ++ jn3Law a b c), (gB + 1), true, 5⟩]
  subst h1 h2 h3 h7
  have hA := lenLaw_len (a.length : Int)
  have hB := lenLaw_len (b.length : Int)
  have hC := lenLaw_len (c.length : Int)
  have hj := jn3_len a b c
  refine small_ofG (R := nR70c a b c g1 g2 g3 a.length b.length c.length gO ow ow1 ow2 ow3 X gC gW gB X.length owC) eM3_ok hmN (f := 70) (fn := f70) (by kernel_rfl) (by kernel_rfl) FnOrc.nil rfl (nR70c_ok ?_) nR70c_val ?_
  · simp (disch := (simp only [List.length_append, List.length_take, addO_eq, List.length_nil]; omega)) only [allP, Con.h, List.take_length, List.take_of_length_le, addO_eq, List.nil_append, Nat.zero_add, List.length_append, List.length_take, Nat.min_self, eq_self, true_and, and_true, decide_eq_true_eq, decide_eq_false_iff_not]
    omega
  · rw [nR70c_tab, List.length_append]
    simp (disch := (simp only [List.length_append, List.length_take, addO_eq, List.length_nil]; omega)) only [List.take_length, List.take_of_length_le, addO_eq, List.nil_append]
noncomputable def nsm70c : Summary := fun args T => nsm70cc args T (xsAt T 2) (xsAt T 3) (xsAt T 4) (gAt T 2) (gAt T 3) (gAt T 4) (lenOf ((dAt T 0).get 0)) (lenOf ((dAt T 0).get 1)) (lenOf ((dAt T 0).get 2)) (gAt T 0) (owAt T 0) (owAt T 2) (owAt T 3) (owAt T 4) (xsAt T 6) (gAt T 1) (gAt T 5) (gAt T 6) (lenOf (cAt T 5 0)) (owAt T 1)
theorem nsm70c_ok : SmOk prog (fun _ => none) 70 nsm70c := fun args T h => nsm70cc_ok h
noncomputable def nsm72c (args : List AVal) (T : Tab) (n : Int) (size : Int) (X : List Int) (gC : Nat) (gW : Nat) (gB : Nat) (m : Nat) (owC : Bool) : Res := ⟨[.tab T [some ⟨.agg [.var 1 gW], gC, owC, 75⟩, some ⟨.agg [.slice 1 2 gB 0 m none, .func (.func 70) [] [.var 0 gC], .func (.func 72) [] [.var 0 gC]], gW, true, 81⟩, some ⟨.ints .u8 X, gB, true, 5⟩], .val (.tuple args) (.tuple [.int .i64 n, .int .i64 size, .var 0 gC]), .eqN m X.length, .leN m 140737488000000], .tuple [], [some ⟨.agg [.var 1 gW], gC, owC, 75⟩, some ⟨.agg [.slice 1 2 (gB + 1) 0 (X ++ numLaw n size).length none, .func (.func 70) [] [.var 0 gC], .func (.func 72) [] [.var 0 gC]], gW, true, 81⟩, some ⟨.ints .u8 (X ++ numLaw n size), (gB + 1), true, 5⟩]⟩
theorem nsm72c_ok {args : List AVal} {T : Tab} {n : Int} {size : Int} {X : List Int} {gC : Nat} {gW : Nat} {gB : Nat} {m : Nat} {owC : Bool} (h : allP (nsm72c args T n size X gC gW gB m owC).cs) : Small prog (fun _ => none) 72 args T (nsm72c args T n size X gC gW gB m owC).val (nsm72c args T n size X gC gW gB m owC).tab := by
  obtain ⟨hT, hv, h1, h2, _⟩ := h
  simp only [Con.h] at hT hv h1 h2
  injection hv with hv
  subst hT hv
  show Small prog (fun _ => none) 72 [.int .i64 n, .int .i64 size, .var 0 gC] [some ⟨.agg [.var 1 gW], gC, owC, 75⟩, some ⟨.agg [.slice 1 2 gB 0 m none, .func (.func 70) [] [.var 0 gC], .func (.func 72) [] [.var 0 gC]], gW, true, 81⟩, some ⟨.ints .u8 X, gB, true, 5⟩] (.tuple []) [some ⟨.agg [.var 1 gW], gC, owC, 75⟩, some ⟨.agg [.slice 1 2 (gB + 1) 0 (X ++ numLaw n size).length none, .func (.func 70) [] [.var 0 gC], .func (.func 72) [] [.var 0 gC]], gW, true, 81⟩, some ⟨.ints .u8 (X ++ numLaw n size), (gB + 1), true, 5⟩]
  subst h1
  have hN := num_len n size
  refine small_ofG (R := nR72 n size X gC gW gB X.length owC) eM4_ok hmN (f := 72) (fn := f72) (by kernel_rfl) (by kernel_rfl) FnOrc.nil rfl (nR72_ok ?_) nR72_val ?_
  · simp (disch := (simp only [List.length_append, List.length_take, addO_eq, List.length_nil]; omega)) only [allP, Con.h, List.take_length, List.take_of_length_le, addO_eq, List.nil_append, Nat.zero_add, List.length_append, List.length_take, Nat.min_self, eq_self, true_and, and_true, decide_eq_true_eq, decide_eq_false_iff_not]
    omega
  · rw [nR72_tab, List.length_append]
    simp (disch := (simp only [List.length_append, List.length_take, addO_eq, List.length_nil]; omega)) only [List.take_length, List.take_of_length_le, addO_eq, List.nil_append]
noncomputable def nsm72 : Summary := fun args T => nsm72c args T (iOf (vAt args 0)) (iOf (vAt args 1)) (xsAt T 2) (gAt T 0) (gAt T 1) (gAt T 2) (lenOf (cAt T 1 0)) (owAt T 0)
theorem nsm72_ok : SmOk prog (fun _ => none) 72 nsm72 := fun args T h => nsm72c_ok h
noncomputable def nS70 : Summary := fun args T => match lenOf (vAt args 0) with
  | 1 => callR nsm70a [false, false, false, true, true] args T
  | 3 => callR nsm70c [false, false, false, false, false, true, true] args T
  | _ => fail
theorem nS70_ok : SumOk prog (fun _ => none) 70 nS70 := by
  intro args T hc
  unfold nS70 at hc ⊢
  split at hc
  · exact callR_ok nsm70a_ok _ args T hc
  · exact callR_ok nsm70c_ok _ args T hc
  · exact absurd hc nofail
noncomputable def nS72 : Summary := callR nsm72 [false, true, true]
theorem nS72_ok : SumOk prog (fun _ => none) 72 nS72 := callR_ok nsm72_ok _
end Go.Abs

set_option linter.unusedVariables false
set_option linter.unusedSimpArgs false
set_option maxRecDepth 100000
set_option maxHeartbeats 4000000
namespace Go.Abs
open Go.Proofs Go.Proofs.Try
def bareLaw (a b c : List Int) (s : Int) (d : List Int) : List Int := jn3Law a b c ++ (numLaw s 1 ++ if s = 3 then vec1Law d else [])
def RightL (a b c : List Int) (s : Int) (d z : List Int) : Prop := RightN a.length b.length c.length s d.length z.length
instance (a b c : List Int) (s : Int) (d z : List Int) : Decidable (RightL a b c s d z) := by unfold RightL; exact inferInstance
end Go.Abs

set_option linter.unusedVariables false
set_option linter.unusedSimpArgs false
set_option maxRecDepth 100000
set_option maxHeartbeats 4000000
namespace Go.Abs
open Go.Proofs Go.Proofs.Try
/-! ### the document's: vectors, a leaf that may be, its bytes -/
theorem vec_v1 {n : Nat} {a : List Int} (h : n ≤ a.length) (h2 : n ≤ 65536) : vecLaw (subLaw a 0 n) = v1Law n a := by
  have hl : (List.take n a).length = n := by rw [List.length_take]; omega
  unfold vecLaw subLaw v1Law vec1Law
  rw [List.drop_zero, hl, if_pos h2]
noncomputable def eM7 : Env := eN0 [(88, S21c)]
theorem eM7_ok : EnvOk eM7 := envOf_ok tysN_ok (SumsOk.cons (fn := f88) S21c_ok (by kernel_rfl) (by kernel_rfl) (by kernel_rfl) trivial)
noncomputable def nR66a (a : List Int) (g1 : Nat) (n1 : Nat) (c1 : Option Nat) (gO : Nat) (ow : Bool) (ow1 : Bool) : Res := resG 2 [0, 1, 3] (runF eM7 f66 [] 400 [.slice 1 0 gO 0 1 (some 1)] [some ⟨.agg [.slice 1 1 g1 0 n1 c1], gO, ow, 22⟩, some ⟨.ints .u8 a, g1, ow1, 5⟩] [])
theorem nR66a_ok {a : List Int} {g1 : Nat} {n1 : Nat} {c1 : Option Nat} {gO : Nat} {ow : Bool} {ow1 : Bool} (h : allP [.eqN gO gO, .eqN gO gO, .eqN gO gO, .eqN g1 g1, .eqN g1 g1, .leN (0 + n1) a.length, .leN (vecLaw (subLaw a 0 n1)).length 140737488355328, .eqN (if n1 ≤ 65536 then (lenLaw (↑n1 : Int)).length - 1 + 1 else 0) (if n1 ≤ 65536 then (lenLaw (↑n1 : Int)).length - 1 + 1 else 0), .leN (0 +
 (vecLaw (subLaw a 0 n1)).length) (vecLaw (subLaw a 0 n1)).length, .eqN gO gO]) : OkR (nR66a a g1 n1 c1 gO ow ow1) := OkR.dem (fl := bitsF 15 12332) (by kernel_rfl) (by kernel_rfl) (by kernel_rfl) h
theorem nR66a_val {a : List Int} {g1 : Nat} {n1 : Nat} {c1 : Option Nat} {gO : Nat} {ow : Bool} {ow1 : Bool} : (nR66a a g1 n1 c1 gO ow ow1).val = .slice 1 2 0 0 (vecLaw (subLaw a 0 n1)).length none := by kernel_rfl
theorem nR66a_tab {a : List Int} {g1 : Nat} {n1 : Nat} {c1 : Option Nat} {gO : Nat} {ow : Bool} {ow1 : Bool} : (nR66a a g1 n1 c1 gO ow ow1).tab = [some ⟨.agg [.slice 1 1 g1 0 n1 c1], gO, ow, 22⟩, some ⟨.ints .u8 a, g1, ow1, 5⟩, some ⟨.ints .u8 ([] ++ List.take (vecLaw (subLaw a 0 n1)).length (vecLaw (subLaw a 0 n1))), 0, true, 5⟩] := by kernel_rfl
noncomputable def nR66c (a : List Int) (b : List Int) (c : List Int) (g1 : Nat) (g2 : Nat) (g3 : Nat) (n1 : Nat) (n2 : Nat) (n3 : Nat) (c1 : Option Nat) (c2 : Option Nat) (c3 : Option Nat) (gO : Nat) (ow : Bool) (o1 : Bool) (o2 : Bool) (o3 : Bool) : Res := resG 4 [0, 1, 2, 3, 5] (runF eM7 f66 [] 400 [.slice 1 0 gO 0 3 (some 3)] [some ⟨.agg [.slice 1 1 g1 0 n1 c1, .slice 1 2 g2 0 n2 c2, .slice 1 3 g3 0 n3 c3], gO, ow, 22⟩, some ⟨.ints .u8 a, g1, o1, 5⟩, some ⟨.ints .u8 b, g2, o2, 5⟩, some ⟨.ints .u8 c, g3, o3, 5⟩] [])
theorem nR66c_ok {a : List Int} {b : List Int} {c : List Int} {g1 : Nat} {g2 : Nat} {g3 : Nat} {n1 : Nat} {n2 : Nat} {n3 : Nat} {c1 : Option Nat} {c2 : Option Nat} {c3 : Option Nat} {gO : Nat} {ow : Bool} {o1 : Bool} {o2 : Bool} {o3 : Bool} (h : allP [.eqN gO gO, .eqN gO gO, .eqN gO gO, .eqN g1 g1, .eqN g1 g1, .leN (0 + n1) a.length, .leN (vecLaw (subLaw a 0 n1)).length 140737488355328, .eqN (if n1
 ≤ 65536 then (lenLaw (↑n1 : Int)).length - 1 + 1 else 0) (if n1 ≤ 65536 then (lenLaw (↑n1 : Int)).length - 1 + 1 else 0), .leN (0 + (vecLaw (subLaw a 0 n1)).length) (vecLaw (subLaw a 0 n1)).length, .eqN gO gO, .eqN gO gO, .eqN gO gO, .eqN g2 g2, .eqN g2 g2, .leN (0 + n2) b.length, .leN (0 + (vecLaw (subLaw a 0 n1)).length) ([] ++ List.take (vecLaw (subLaw a 0 n1)).length (vecLaw (subLaw a 0
 n1))).length, .leN (addO (vecLaw (subLaw a 0 n1)).length (vecLaw (subLaw b 0 n2)).length) 140737488355328, .eqN (if n2 ≤ 65536 then (lenLaw (↑n2 : Int)).length - 1 + 1 else 0) (if n2 ≤ 65536 then (lenLaw (↑n2 : Int)).length - 1 + 1 else 0), .leN (0 + (vecLaw (subLaw b 0 n2)).length) (vecLaw (subLaw b 0 n2)).length, .eqN gO gO, .eqN gO gO, .eqN gO gO, .eqN g3 g3, .eqN g3 g3, .leN (0 + n3) c.length,
 .leN (0 + addO (vecLaw (subLaw a 0 n1)).length (vecLaw (subLaw b 0 n2)).length) (List.take (vecLaw (subLaw a 0 n1)).length ([] ++ List.take (vecLaw (subLaw a 0 n1)).length (vecLaw (subLaw a 0 n1))) ++ List.take (vecLaw (subLaw b 0 n2)).length (vecLaw (subLaw b 0 n2))).length, .leN (addO (addO (vecLaw (subLaw a 0 n1)).length (vecLaw (subLaw b 0 n2)).length) (vecLaw (subLaw c 0 n3)).length)
 140737488355328, .eqN (if n3 ≤ 65536 then (lenLaw (↑n3 : Int)).length - 1 + 1 else 0) (if n3 ≤ 65536 then (lenLaw (↑n3 : Int)).length - 1 + 1 else 0), .leN (0 + (vecLaw (subLaw c 0 n3)).length) (vecLaw (subLaw c 0 n3)).length, .eqN gO gO]) : OkR (nR66c a b c g1 g2 g3 n1 n2 n3 c1 c2 c3 gO ow o1 o2 o3) := OkR.dem (fl := bitsF 47 53374373015596) (by kernel_rfl) (by kernel_rfl) (by kernel_rfl) h
theorem nR66c_val {a : List Int} {b : List Int} {c : List Int} {g1 : Nat} {g2 : Nat} {g3 : Nat} {n1 : Nat} {n2 : Nat} {n3 : Nat} {c1 : Option Nat} {c2 : Option Nat} {c3 : Option Nat} {gO : Nat} {ow : Bool} {o1 : Bool} {o2 : Bool} {o3 : Bool} : (nR66c a b c g1 g2 g3 n1 n2 n3 c1 c2 c3 gO ow o1 o2 o3).val = .slice 1 4 2 0 (addO (addO (vecLaw (subLaw a 0 n1)).length (vecLaw (subLaw b 0 n2)).length)
 (vecLaw (subLaw c 0 n3)).length) none := by kernel_rfl
theorem nR66c_tab {a : List Int} {b : List Int} {c : List Int} {g1 : Nat} {g2 : Nat} {g3 : Nat} {n1 : Nat} {n2 : Nat} {n3 : Nat} {c1 : Option Nat} {c2 : Option Nat} {c3 : Option Nat} {gO : Nat} {ow : Bool} {o1 : Bool} {o2 : Bool} {o3 : Bool} : (nR66c a b c g1 g2 g3 n1 n2 n3 c1 c2 c3 gO ow o1 o2 o3).tab = [some ⟨.agg [.slice 1 1 g1 0 n1 c1, .slice 1 2 g2 0 n2 c2, .slice 1 3 g3 0 n3 c3], gO, ow, 22⟩,
 some ⟨.ints .u8 a, g1, o1, 5⟩, some ⟨.ints .u8 b, g2, o2, 5⟩, some ⟨.ints .u8 c, g3, o3, 5⟩, some ⟨.ints .u8 (List.take (addO (vecLaw (subLaw a 0 n1)).length (vecLaw (subLaw b 0 n2)).length) (List.take (vecLaw (subLaw a 0 n1)).length ([] ++ List.take (vecLaw (subLaw a 0 n1)).length (vecLaw (subLaw a 0 n1))) ++ List.take (vecLaw (subLaw b 0 n2)).length (vecLaw (subLaw b 0 n2))) ++ List.take (vecLaw
 (subLaw c 0 n3)).length (vecLaw (subLaw c 0 n3))), 2, true, 5⟩] := by kernel_rfl
noncomputable def nsm66ac (args : List AVal) (T : Tab) (a : List Int) (g1 : Nat) (n1 : Nat) (c1 : Option Nat) (gO : Nat) (ow : Bool) (ow1 : Bool) : Res := ⟨[.tab T [some ⟨.agg [.slice 1 1 g1 0 n1 c1], gO, ow, 22⟩, some ⟨.ints .u8 a, g1, ow1, 5⟩], .val (.tuple args) (.tuple [.slice 1 0 gO 0 1 (some 1)]), .leN n1 a.length, .leN n1 65536], .slice 1 2 0 0 (v1Law n1 a).length none, [some ⟨.agg [.slice 1 1 g1 0 n1 c1], gO, ow, 22⟩, some ⟨.ints .u8 a, g1, ow1, 5⟩, some ⟨.ints .u8 (v1Law n1 a), 0, true, 5⟩]⟩
theorem nsm66ac_ok {args : List AVal} {T : Tab} {a : List Int} {g1 : Nat} {n1 : Nat} {c1 : Option Nat} {gO : Nat} {ow : Bool} {ow1 : Bool} (h : allP (nsm66ac args T a g1 n1 c1 gO ow ow1).cs) : Small prog (fun _ => none) 66 args T (nsm66ac args T a g1 n1 c1 gO ow ow1).val (nsm66ac args T a g1 n1 c1 gO ow ow1).tab := by
  obtain ⟨hT, hv, h1, h2, _⟩ := h
  simp only [Con.h] at hT hv h1 h2
  injection hv with hv
  subst hT hv
  show Small prog (fun _ => none) 66 [.slice 1 0 gO 0 1 (some 1)] [some ⟨.agg [.slice 1 1 g1 0 n1 c1], gO, ow, 22⟩, some ⟨.ints .u8 a, g1, ow1, 5⟩] (.slice 1 2 0 0 (v1Law n1 a).length none) [some ⟨.agg [.slice 1 1 g1 0 n1 c1], gO, ow, 22⟩, some ⟨.ints .u8 a, g1, ow1, 5⟩, some ⟨.ints .u8 (v1Law n1 a), 0, true, 5⟩]
  have hL := lenLaw_len (n1 : Int)
  have hv := v1_len h1
  have hq := vec_v1 h1 h2
  refine small_ofG (R := nR66a a g1 n1 c1 gO ow ow1) eM7_ok hmN (f := 66) (fn := f66) (by kernel_rfl) (by kernel_rfl) FnOrc.nil rfl (nR66a_ok ?_) ?_ ?_
  · simp only [hq, allP, Con.h, eq_self, true_and, and_true, beq_iff_eq, beq_eq_false_iff_ne, ne_eq, decide_eq_true_eq, decide_eq_false_iff_not, addO_eq, Nat.zero_add, List.nil_append, List.length_append, List.take_length, List.length_take, Nat.min_self]
    omega
  · rw [nR66a_val, hq]
  · rw [nR66a_tab, hq]
    simp (disch := (simp only [List.length_append, List.length_take, addO_eq, List.length_nil]; omega)) only [List.take_length, List.take_of_length_le, addO_eq, List.nil_append]
noncomputable def nsm66a : Summary := fun args T => nsm66ac args T (xsAt T 1) (gAt T 1) (lenOf ((dAt T 0).get 0)) (capOf ((dAt T 0).get 0)) (gAt T 0) (owAt T 0) (owAt T 1)
theorem nsm66a_ok : SmOk prog (fun _ => none) 66 nsm66a := fun args T h => nsm66ac_ok h
noncomputable def nsm66cc (args : List AVal) (T : Tab) (a : List Int) (b : List Int) (c : List Int) (g1 : Nat) (g2 : Nat) (g3 : Nat) (n1 : Nat) (n2 : Nat) (n3 : Nat) (c1 : Option Nat) (c2 : Option Nat) (c3 : Option Nat) (gO : Nat) (ow : Bool) (o1 : Bool) (o2 : Bool) (o3 : Bool) : Res := ⟨[.tab T [some ⟨.agg [.slice 1 1 g1 0 n1 c1, .slice 1 2 g2 0 n2 c2, .slice 1 3 g3 0 n3 c3], gO, ow, 22⟩, some ⟨.ints .u8 a, g1, o1, 5⟩, some ⟨.ints .u8 b, g2, o2, 5⟩, some ⟨.ints .u8 c, g3, o3, 5⟩], .val (.tuple args) (.tuple [.slice 1 0 gO 0 3 (some 3)]), .leN n1 a.length, .leN n2 b.length, .leN n3 c.length, .leN n1 65536, .leN n2 65536, .leN n3 65536], .slice 1 4 2 0 (jn3Law (List.take n1 a) (List.take n2 b) (List.take n3 c)).length none, [some ⟨.agg [.slice 1 1 g1 0 n1 c1, .slice 1 2 g2 0 n2 c2, .slice 1 3 g3 0 n3 c3], gO, ow, 22⟩, some ⟨.ints .u8 a, g1, o1, 5⟩, some ⟨.ints .u8 b, g2, o2, 5⟩, some ⟨.ints .u8 c, g3, o3, 5⟩, some ⟨.ints .u8 (jn3Law (List.take n1 a) (List.take n2 b) (List.take n3 c)), 2, true, 5⟩]⟩
theorem nsm66cc_ok {args : List AVal} {T : Tab} {a : List Int} {b : List Int} {c : List Int} {g1 : Nat} {g2 : Nat} {g3 : Nat} {n1 : Nat} {n2 : Nat} {n3 : Nat} {c1 : Option Nat} {c2 : Option Nat} {c3 : Option Nat} {gO : Nat} {ow : Bool} {o1 : Bool} {o2 : Bool} {o3 : Bool} (h : allP (nsm66cc args T a b c g1 g2 g3 n1 n2 n3 c1 c2 c3 gO ow o1 o2 o3).cs) : Small prog (fun _ => none) 66 args T (nsm66cc args T a b c g1 g2 g3 n1 n2 n3 c1 c2 c3 gO ow o1 o2 o3).val (nsm66cc args T a b c g1 g2 g3 n1 n2 n3 c1 c2 c3 gO ow o1 o2 o3).tab := by
  obtain ⟨hT, hv, h1, h2, h3, h4, h5, h6, _⟩ := h
  simp only [Con.h] at hT hv h1 h2 h3 h4 h5 h6
  injection hv with hv
  subst hT hv
  show Small prog (fun _ => none) 66 [.slice 1 0 gO 0 3 (some 3)] [some ⟨.agg [.slice 1 1 g1 0 n1 c1, .slice 1 2 g2 0 n2 c2, .slice 1 3 g3 0 n3 c3], gO, ow, 22⟩, some ⟨.ints .u8 a, g1, o1, 5⟩, some ⟨.ints .u8 b, g2, o2, 5⟩, some ⟨.ints .u8 c, g3, o3, 5⟩] (.slice 1 4 2 0 (jn3Law (List.take n1 a) (List.take n2 b) (List.take n3 c)).length none) [some ⟨.agg [.slice 1 1 g1 0 n1 c1, .slice 1 2 g2 0 n2 c2, .slice 1 3 g3 0 n3 c3], gO, ow, 22⟩, some ⟨.ints .u8 a, g1, o1, 5⟩, some ⟨.ints .u8 b, g2, o2, 5⟩, some ⟨.ints .u8 c, g3, o3, 5⟩, some ⟨.ints .u8 (jn3Law (List.take n1 a) (List.take n2 b) (List.take n3 c)), 2, true, 5⟩]
  have hL := lenLaw_len (n1 : Int)
  have hL2 := lenLaw_len (n2 : Int)
  have hL3 := lenLaw_len (n3 : Int)
  have hv := v1_len h1
  have hv2 := v1_len h2
  have hv3 := v1_len h3
  have hq := vec_v1 h1 h4
  have hq2 := vec_v1 h2 h5
  have hq3 := vec_v1 h3 h6
  have hj : jn3Law (List.take n1 a) (List.take n2 b) (List.take n3 c) = v1Law n1 a ++ (v1Law n2 b ++ v1Law n3 c) := rfl
  rw [hj]
  refine small_ofG (R := nR66c a b c g1 g2 g3 n1 n2 n3 c1 c2 c3 gO ow o1 o2 o3) eM7_ok hmN (f := 66) (fn := f66) (by kernel_rfl) (by kernel_rfl) FnOrc.nil rfl (nR66c_ok ?_) ?_ ?_
  · simp (disch := (first | (simp only [List.length_append, List.length_take, addO_eq, List.length_nil, List.length_cons]; omega) | simp)) only [hq, hq2, hq3, allP, Con.h, eq_self, true_and, and_true, beq_iff_eq, beq_eq_false_iff_ne, ne_eq, decide_eq_true_eq, decide_eq_false_iff_not, addO_eq, Nat.zero_add, List.nil_append, List.length_append, List.take_length, List.length_take, Nat.min_self, List.take_of_length_le]
    omega
  · rw [nR66c_val, hq, hq2, hq3]
    simp only [addO_eq, List.length_append, Nat.add_assoc]
  · rw [nR66c_tab, hq, hq2, hq3]
    simp (disch := (first | (simp only [List.length_append, List.length_take, addO_eq, List.length_nil, List.length_cons]; omega) | simp)) only [List.take_length, List.take_of_length_le, addO_eq, List.nil_append, List.append_assoc]
noncomputable def nsm66c : Summary := fun args T => nsm66cc args T (xsAt T 1) (xsAt T 2) (xsAt T 3) (gAt T 1) (gAt T 2) (gAt T 3) (lenOf ((dAt T 0).get 0)) (lenOf ((dAt T 0).get 1)) (lenOf ((dAt T 0).get 2)) (capOf ((dAt T 0).get 0)) (capOf ((dAt T 0).get 1)) (capOf ((dAt T 0).get 2)) (gAt T 0) (owAt T 0) (owAt T 1) (owAt T 2) (owAt T 3)
theorem nsm66c_ok : SmOk prog (fun _ => none) 66 nsm66c := fun args T h => nsm66cc_ok h
noncomputable def nS66 : Summary := fun args T => match lenOf (vAt args 0) with
  | 1 => callR nsm66a [] args T
  | 3 => callR nsm66c [] args T
  | _ => fail
theorem nS66_ok : SumOk prog (fun _ => none) 66 nS66 := by
  intro args T hc
  unfold nS66 at hc ⊢
  split at hc
  · exact callR_ok nsm66a_ok [] args T hc
  · exact callR_ok nsm66c_ok [] args T hc
  · exact absurd hc nofail
end Go.Abs

set_option linter.unusedVariables false
set_option linter.unusedSimpArgs false
set_option maxRecDepth 100000
set_option maxHeartbeats 4000000
namespace Go.Abs
open Go.Proofs Go.Proofs.Try
end Go.Abs

set_option linter.unusedVariables false
set_option linter.unusedSimpArgs false
set_option maxRecDepth 100000
set_option maxHeartbeats 4000000
namespace Go.Abs
open Go.Proofs Go.Proofs.Try
end Go.Abs

set_option linter.unusedVariables false
set_option linter.unusedSimpArgs false
set_option maxRecDepth 100000
set_option maxHeartbeats 4000000
namespace Go.Abs
open Go.Proofs Go.Proofs.Try
end Go.Abs

set_option linter.unusedVariables false
set_option linter.unusedSimpArgs false
set_option maxRecDepth 100000
set_option maxHeartbeats 4000000
namespace Go.Abs
open Go.Proofs Go.Proofs.Try
end Go.Abs

set_option linter.unusedVariables false
set_option linter.unusedSimpArgs false
set_option maxRecDepth 100000
set_option maxHeartbeats 4000000
namespace Go.Abs
open Go.Proofs Go.Proofs.Try
end Go.Abs

set_option linter.unusedVariables false
set_option linter.unusedSimpArgs false
set_option maxRecDepth 100000
set_option maxHeartbeats 4000000
namespace Go.Abs
open Go.Proofs Go.Proofs.Try
theorem lenLaw_by (n : Int) : ∀ c ∈ lenLaw n, 0 ≤ c ∧ c < 256 := by
  intro c hc
  unfold lenLaw at hc
  split at hc
  · cases hc
  split at hc
  · simp at hc; omega
  split at hc
  · simp at hc; omega
  · simp at hc; omega
theorem by_mem {C : List Int} (h : ∀ c ∈ C, 0 ≤ c ∧ c < 256) : ByLaw C := fun i => by
  rw [List.getD_eq_getElem?_getD]
  rcases Nat.lt_or_ge i C.length with hi | hi
  · rw [List.getElem?_eq_getElem hi]; exact h _ (List.getElem_mem hi)
  · rw [List.getElem?_eq_none hi]; exact ⟨Int.le_refl 0, by decide⟩
end Go.Abs

set_option linter.unusedVariables false
set_option linter.unusedSimpArgs false
set_option maxRecDepth 100000
set_option maxHeartbeats 4000000
namespace Go.Abs
open Go.Proofs Go.Proofs.Try
/-! ### a leaf, read -/
def s1O (B : List Int) (off : Nat) (e : Int) : Nat := rvOLaw B off e
def s1E (B : List Int) (off : Nat) (e : Int) : Int := rvELaw B off e
def s2O (B : List Int) (off : Nat) (e : Int) : Nat := rvOLaw B (s1O B off e) (s1E B off e)
def s2E (B : List Int) (off : Nat) (e : Int) : Int := rvELaw B (s1O B off e) (s1E B off e)
def s3O (B : List Int) (off : Nat) (e : Int) : Nat := rvOLaw B (s2O B off e) (s2E B off e)
def s3E (B : List Int) (off : Nat) (e : Int) : Int := rvELaw B (s2O B off e) (s2E B off e)
def s4O (B : List Int) (off : Nat) (e : Int) : Nat := rnOLaw B (s3O B off e) (s3E B off e) 1
def s4E (B : List Int) (off : Nat) (e : Int) : Int := rnELaw B (s3O B off e) (s3E B off e) 1
def lfALaw (B : List Int) (off : Nat) (e : Int) : List Int := rvVLaw B off e
def lfBLaw (B : List Int) (off : Nat) (e : Int) : List Int := rvVLaw B (s1O B off e) (s1E B off e)
def lfCLaw (B : List Int) (off : Nat) (e : Int) : List Int := rvVLaw B (s2O B off e) (s2E B off e)
def lfSLaw (B : List Int) (off : Nat) (e : Int) : Int := rnVLaw B (s3O B off e) (s3E B off e) 1
def lfDLaw (B : List Int) (off : Nat) (e : Int) : List Int := if lfSLaw B off e = 3 then rvVLaw B (s4O B off e) (s4E B off e) else []
def s5O (B : List Int) (off : Nat) (e : Int) : Nat := if lfSLaw B off e = 3 then rvOLaw B (s4O B off e) (s4E B off e) else s4O B off e
def s5E (B : List Int) (off : Nat) (e : Int) : Int := if lfSLaw B off e = 3 then rvELaw B (s4O B off e) (s4E B off e) else s4E B off e
def lfZLaw (B : List Int) (off : Nat) (e : Int) : List Int := rvVLaw B (s5O B off e) (s5E B off e)
def lfOLaw (B : List Int) (off : Nat) (e : Int) : Nat := rvOLaw B (s5O B off e) (s5E B off e)
def lfELaw (B : List Int) (off : Nat) (e : Int) : Int := rvELaw B (s5O B off e) (s5E B off e)
end Go.Abs

set_option linter.unusedVariables false
set_option linter.unusedSimpArgs false
set_option maxRecDepth 100000
set_option maxHeartbeats 4000000
namespace Go.Abs
open Go.Proofs Go.Proofs.Try
/-! ### what is read is written the same -/
theorem rvE_zero {B : List Int} {off : Nat} {e : Int} (h : rvELaw B off e = 0) : e = 0 := by
  by_cases he : e = 0
  · exact he
  · unfold rvELaw at h
    rw [rv_e he] at h
    exact h
def glOK (B : List Int) : Prop := reLaw B (lfOLaw B 0 0) (lfELaw B 0 0) = 0 ∧ RightL (lfALaw B 0 0) (lfBLaw B 0 0) (lfCLaw B 0 0) (lfSLaw B 0 0) (lfDLaw B 0 0) (lfZLaw B 0 0)
instance (B : List Int) : Decidable (glOK B) := by unfold glOK; exact inferInstance
theorem re_zero {B : List Int} {off : Nat} {e : Int} (h : reLaw B off e = 0) : e = 0 ∧ B.length ≤ off := by
  unfold reLaw at h
  by_cases he : e = 0
  · refine ⟨he, ?_⟩
    rw [if_neg (not_not_intro he)] at h
    split at h
    · cases h
    · omega
  · rw [if_pos he] at h
    exact absurd h he
end Go.Abs

set_option linter.unusedVariables false
set_option linter.unusedSimpArgs false
set_option maxRecDepth 100000
set_option maxHeartbeats 4000000
namespace Go.Abs
open Go.Proofs Go.Proofs.Try
noncomputable def nS76 : Summary := sumI modeO (eN0 []) f76 [] 100 [none] []
theorem nS76_ok : SumOk prog (fun _ => none) 76 nS76 := sumI_ok eN0_ok hmN (fn := f76) (by kernel_rfl) (by kernel_rfl) [] FnOrc.nil 100 [none] []
end Go.Abs

set_option linter.unusedVariables false
set_option linter.unusedSimpArgs false
set_option maxRecDepth 100000
set_option maxHeartbeats 4000000
namespace Go.Abs
open Go.Proofs Go.Proofs.Try
/-! ### knows: closed -/
noncomputable def sumD (m : Mode) (E : Env) (PS : List (Nat × Summary)) (fn : Func) (fu : Nat) (j : Option Nat) (g t : Nat) (ds : List (Option Bool)) (wr : List Bool) : Summary := callR (fun args T0 => settled m (fnRunD E PS fn [] fu j g t args T0 ds)) wr
theorem sumD_ok {m : Mode} {E : Env} (hE : EnvOk E) (hm : E.P.follows .mixedOrders = true) {PS : List (Nat × Summary)} (hP : PsOk E.P E.gl PS) {f : FuncId} {fn : Func} (hf : E.P.funcs[f]? = some fn) (hb : fn.body.isSome = true)
    {g : FuncId} {gfn : Func} (hgf : E.P.funcs[g]? = some gfn) (hgn : (gfn.name == "runtime.NumGoroutine") = false) (hgb : gfn.body.isNone = false) {t : TypeId} (hC : CaughtOk E.P g t .i64) (fu : Nat) (j : Option Nat) (ds : List (Option Bool)) (wr : List Bool) : SumOk E.P E.gl f (sumD m E PS fn fu j g t ds wr) := by
  refine callR_ok (fun args T0 hc => ?_) wr
  obtain ⟨h1, h2, h3⟩ := settled_ok hc
  rw [h2, h3]
  exact fnRunD_small hE hm hP hf hb FnOrc.nil hgf hgn hgb hC h1
noncomputable def nK69 : Summary := sumI modeO eM0 f69 [] 100 [] []
theorem nK69_ok : SumOk prog (fun _ => none) 69 nK69 := sumI_ok eM0_ok hmN (fn := f69) (by kernel_rfl) (by kernel_rfl) [] FnOrc.nil 100 [] []
noncomputable def eK1 : Env := eN0 [(48, nS48), (69, nK69)]
theorem eK1_ok : EnvOk eK1 := envOf_ok tysN_ok (SumsOk.cons (fn := f48) nS48_ok (by kernel_rfl) (by kernel_rfl) (by kernel_rfl) (SumsOk.cons (fn := f69) nK69_ok (by kernel_rfl) (by kernel_rfl) (by kernel_rfl) trivial))
noncomputable def nK49 : Summary := sumI modeO eK1 f49 [] 400 [] []
theorem nK49_ok : SumOk prog (fun _ => none) 49 nK49 := sumI_ok eK1_ok hmN (fn := f49) (by kernel_rfl) (by kernel_rfl) [] FnOrc.nil 400 [] []
noncomputable def nK38 : Summary := sumI modeO (eN0 []) f38 [] 100 [] []
theorem nK38_ok : SumOk prog (fun _ => none) 38 nK38 := sumI_ok eN0_ok hmN (fn := f38) (by kernel_rfl) (by kernel_rfl) [] FnOrc.nil 100 [] []
noncomputable def nK89 : Summary := sumI modeO eC1 f89 [] 400 [] []
theorem nK89_ok : SumOk prog (fun _ => none) 89 nK89 := sumI_ok eC1_ok hmN (fn := f89) (by kernel_rfl) (by kernel_rfl) [] FnOrc.nil 400 [] []
noncomputable def nK73 : Summary := sumI modeO eC1 f73 [] 400 [] []
theorem nK73_ok : SumOk prog (fun _ => none) 73 nK73 := sumI_ok eC1_ok hmN (fn := f73) (by kernel_rfl) (by kernel_rfl) [] FnOrc.nil 400 [] []
noncomputable def eK2 : Env := eN0 [(89, nK89)]
theorem eK2_ok : EnvOk eK2 := envOf_ok tysN_ok (SumsOk.cons (fn := f89) nK89_ok (by kernel_rfl) (by kernel_rfl) (by kernel_rfl) trivial)
noncomputable def nK71 : Summary := sumI modeO eK2 f71 [] 400 [] []
theorem nK71_ok : SumOk prog (fun _ => none) 71 nK71 := sumI_ok eK2_ok hmN (fn := f71) (by kernel_rfl) (by kernel_rfl) [] FnOrc.nil 400 [] []
noncomputable def eK3 : Env := eN0 [(71, nK71), (73, nK73)]
theorem eK3_ok : EnvOk eK3 := envOf_ok tysN_ok (SumsOk.cons (fn := f71) nK71_ok (by kernel_rfl) (by kernel_rfl) (by kernel_rfl) (SumsOk.cons (fn := f73) nK73_ok (by kernel_rfl) (by kernel_rfl) (by kernel_rfl) trivial))
noncomputable def nK70 : Summary := sumI modeO eK3 f70 [] 400 [] [true, true, true, true, true, true, true, true]
theorem nK70_ok : SumOk prog (fun _ => none) 70 nK70 := sumI_ok eK3_ok hmN (fn := f70) (by kernel_rfl) (by kernel_rfl) [] FnOrc.nil 400 [] [true, true, true, true, true, true, true, true]
noncomputable def nK72 : Summary := sumI modeO eK3 f72 [] 400 [] [true, true, true, true, true, true, true, true]
theorem nK72_ok : SumOk prog (fun _ => none) 72 nK72 := sumI_ok eK3_ok hmN (fn := f72) (by kernel_rfl) (by kernel_rfl) [] FnOrc.nil 400 [] [true, true, true, true, true, true, true, true]
noncomputable def eK4 : Env := eN0 [(38, nK38), (49, nK49), (70, nK70), (72, nK72)]
theorem eK4_ok : EnvOk eK4 := envOf_ok tysN_ok (SumsOk.cons (fn := f38) nK38_ok (by kernel_rfl) (by kernel_rfl) (by kernel_rfl) (SumsOk.cons (fn := f49) nK49_ok (by kernel_rfl) (by kernel_rfl) (by kernel_rfl) (SumsOk.cons (fn := f70) nK70_ok (by kernel_rfl) (by kernel_rfl) (by kernel_rfl) (SumsOk.cons (fn := f72) nK72_ok (by kernel_rfl) (by kernel_rfl) (by kernel_rfl) trivial))))
noncomputable def nK21 : Summary := sumD modeO eK4 [] f21 400 none 36 28 [] []
theorem nK21_ok : SumOk prog (fun _ => none) 21 nK21 := sumD_ok eK4_ok hmN PsOk.nil (fn := f21) (by kernel_rfl) (by kernel_rfl) (gfn := f36) (by kernel_rfl) (by kernel_rfl) (by kernel_rfl) caughtN 400 none [] []
noncomputable def nKP37 : Summary := sumP modeO eM1 psN1 f37 400 1 [] []
theorem nKP37_ok : SumOkP prog (fun _ => none) 37 nKP37 := sumP_ok eM1_ok hmN psN1_ok (fn := f37) (by kernel_rfl) 400 1 [] []
noncomputable def psK : List (Nat × Summary) := [(37, nKP37)]
theorem psK_ok : PsOk prog (fun _ => none) psK := (PsOk.cons (fn := f37) nKP37_ok (by kernel_rfl) (by kernel_rfl) (by kernel_rfl) PsOk.nil)
noncomputable def nK11 : Summary := sumD modeO (eN0 []) psK f11 400 (some 0) 36 28 [] []
theorem nK11_ok : SumOk prog (fun _ => none) 11 nK11 := sumD_ok eN0_ok hmN psK_ok (fn := f11) (by kernel_rfl) (by kernel_rfl) (gfn := f36) (by kernel_rfl) (by kernel_rfl) (by kernel_rfl) caughtN 400 (some 0) [] []
noncomputable def nK54 : Summary := sumI modeO eC1 f54 [] 400 [] [true, true]
theorem nK54_ok : SumOk prog (fun _ => none) 54 nK54 := sumI_ok eC1_ok hmN (fn := f54) (by kernel_rfl) (by kernel_rfl) [] FnOrc.nil 400 [] [true, true]
noncomputable def nK79 : Summary := sumI modeO eC1 f79 [] 400 [] [true, true]
theorem nK79_ok : SumOk prog (fun _ => none) 79 nK79 := sumI_ok eC1_ok hmN (fn := f79) (by kernel_rfl) (by kernel_rfl) [] FnOrc.nil 400 [] [true, true]
noncomputable def nK80 : Summary := sumI modeO eC1 f80 [] 400 [] [true, true]
theorem nK80_ok : SumOk prog (fun _ => none) 80 nK80 := sumI_ok eC1_ok hmN (fn := f80) (by kernel_rfl) (by kernel_rfl) [] FnOrc.nil 400 [] [true, true]
noncomputable def eK5 : Env := eN0 [(78, S35), (79, nK79), (80, nK80)]
theorem eK5_ok : EnvOk eK5 := envOf_ok tysN_ok (SumsOk.cons (fn := f78) S35_ok (by kernel_rfl) (by kernel_rfl) (by kernel_rfl) (SumsOk.cons (fn := f79) nK79_ok (by kernel_rfl) (by kernel_rfl) (by kernel_rfl) (SumsOk.cons (fn := f80) nK80_ok (by kernel_rfl) (by kernel_rfl) (by kernel_rfl) trivial)))
noncomputable def nK52 : Summary := sumI modeO eK5 f52 [] 400 [] [true, true]
theorem nK52_ok : SumOk prog (fun _ => none) 52 nK52 := sumI_ok eK5_ok hmN (fn := f52) (by kernel_rfl) (by kernel_rfl) [] FnOrc.nil 400 [] [true, true]
noncomputable def nK42 : Summary := sumI modeO eC1 f42 [] 400 [] []
theorem nK42_ok : SumOk prog (fun _ => none) 42 nK42 := sumI_ok eC1_ok hmN (fn := f42) (by kernel_rfl) (by kernel_rfl) [] FnOrc.nil 400 [] []
noncomputable def nK75 : Summary := sumI modeO eC1 f75 [] 400 [] []
theorem nK75_ok : SumOk prog (fun _ => none) 75 nK75 := sumI_ok eC1_ok hmN (fn := f75) (by kernel_rfl) (by kernel_rfl) [] FnOrc.nil 400 [] []
noncomputable def eK6 : Env := eN0 [(52, nK52), (54, nK54)]
theorem eK6_ok : EnvOk eK6 := envOf_ok tysN_ok (SumsOk.cons (fn := f52) nK52_ok (by kernel_rfl) (by kernel_rfl) (by kernel_rfl) (SumsOk.cons (fn := f54) nK54_ok (by kernel_rfl) (by kernel_rfl) (by kernel_rfl) trivial))
noncomputable def nK44 : Summary := sumI modeO eK6 f44 [] 400 [] [true, true]
theorem nK44_ok : SumOk prog (fun _ => none) 44 nK44 := sumI_ok eK6_ok hmN (fn := f44) (by kernel_rfl) (by kernel_rfl) [] FnOrc.nil 400 [] [true, true]
noncomputable def eK7 : Env := eN0 [(11, nK11), (75, nK75), (76, nS76)]
theorem eK7_ok : EnvOk eK7 := envOf_ok tysN_ok (SumsOk.cons (fn := f11) nK11_ok (by kernel_rfl) (by kernel_rfl) (by kernel_rfl) (SumsOk.cons (fn := f75) nK75_ok (by kernel_rfl) (by kernel_rfl) (by kernel_rfl) (SumsOk.cons (fn := f76) nS76_ok (by kernel_rfl) (by kernel_rfl) (by kernel_rfl) trivial)))
noncomputable def nK43 : Summary := sumI modeO eK7 f43 [] 400 [] [true, true]
theorem nK43_ok : SumOk prog (fun _ => none) 43 nK43 := sumI_ok eK7_ok hmN (fn := f43) (by kernel_rfl) (by kernel_rfl) [] FnOrc.nil 400 [] [true, true]
noncomputable def eK8 : Env := eN0 [(11, nK11), (42, nK42), (43, nK43), (44, nK44)]
theorem eK8_ok : EnvOk eK8 := envOf_ok tysN_ok (SumsOk.cons (fn := f11) nK11_ok (by kernel_rfl) (by kernel_rfl) (by kernel_rfl) (SumsOk.cons (fn := f42) nK42_ok (by kernel_rfl) (by kernel_rfl) (by kernel_rfl) (SumsOk.cons (fn := f43) nK43_ok (by kernel_rfl) (by kernel_rfl) (by kernel_rfl) (SumsOk.cons (fn := f44) nK44_ok (by kernel_rfl) (by kernel_rfl) (by kernel_rfl) trivial))))
noncomputable def nK13 : Summary := sumI modeO eK8 f13 [] 400 [] []
theorem nK13_ok : SumOk prog (fun _ => none) 13 nK13 := sumI_ok eK8_ok hmN (fn := f13) (by kernel_rfl) (by kernel_rfl) [] FnOrc.nil 400 [] []
noncomputable def nS15 : Summary := sumI modeO (eN0 []) f15 [] 100 [] []
theorem nS15_ok : SumOk prog (fun _ => none) 15 nS15 := sumI_ok eN0_ok hmN (fn := f15) (by kernel_rfl) (by kernel_rfl) [] FnOrc.nil 100 [] []
noncomputable def eK9 : Env := eN0 [(13, nK13), (15, nS15), (21, nK21)]
theorem eK9_ok : EnvOk eK9 := envOf_ok tysN_ok (SumsOk.cons (fn := f13) nK13_ok (by kernel_rfl) (by kernel_rfl) (by kernel_rfl) (SumsOk.cons (fn := f15) nS15_ok (by kernel_rfl) (by kernel_rfl) (by kernel_rfl) (SumsOk.cons (fn := f21) nK21_ok (by kernel_rfl) (by kernel_rfl) (by kernel_rfl) trivial)))
noncomputable def nR18  : Res := runF eK9 f18 [] 400 [] [] []
theorem nR18_ok  (h : allP [.p (false = false)]) : OkR (nR18 ) := OkR.dem (fl := bitsF 551 7371020360977896977605543466355265924447336027859925290944262381934006966883000275170270827045359166853507920627165347590711107782339653775546887874486502804798046207) (by kernel_rfl) (by kernel_rfl) (by kernel_rfl) h
theorem nR18_val  : (nR18 ).val = .bool true := by kernel_rfl
noncomputable def nsm18c (args : List AVal) (T : Tab)  : Res := ⟨[.tab T [], .val (.tuple args) (.tuple [])], .bool true, []⟩
theorem nsm18c_ok {args : List AVal} {T : Tab}  (h : allP (nsm18c args T ).cs) : Small prog (fun _ => none) 18 args T (nsm18c args T ).val (nsm18c args T ).tab := by
  obtain ⟨hT, hv, _⟩ := h
  simp only [Con.h] at hT hv
  injection hv with hv
  subst hT hv
  show Small prog (fun _ => none) 18 [] [] (.bool true) []
  have h := small_of (R := nR18) eK9_ok hmN (f := 18) (fn := f18) (by kernel_rfl) (by kernel_rfl) FnOrc.nil rfl (nR18_ok (by simp [allP, Con.h])) nR18_val rfl
  exact small_drop h
noncomputable def nsm18 : Summary := fun args T => nsm18c args T 
theorem nsm18_ok : SmOk prog (fun _ => none) 18 nsm18 := fun args T h => nsm18c_ok h
noncomputable def nS18 : Summary := callR nsm18 []
theorem nS18_ok : SumOk prog (fun _ => none) 18 nS18 := callR_ok nsm18_ok _
end Go.Abs

set_option linter.unusedVariables false
set_option linter.unusedSimpArgs false
set_option maxRecDepth 100000
set_option maxHeartbeats 4000000
namespace Go.Abs
open Go.Proofs Go.Proofs.Try
/-! ### copies, and whether they are the same -/
noncomputable def nS35 : Summary := sumI modeO (eN0 []) f35 [] 100 [] []
theorem nS35_ok : SumOk prog (fun _ => none) 35 nS35 := sumI_ok eN0_ok hmN (fn := f35) (by kernel_rfl) (by kernel_rfl) [] FnOrc.nil 100 [] []
end Go.Abs

set_option linter.unusedVariables false
set_option linter.unusedSimpArgs false
set_option maxRecDepth 100000
set_option maxHeartbeats 4000000
namespace Go.Abs
open Go.Proofs Go.Proofs.Try
/-! ### may a package be? -/
def RightK (n1 n2 n3 n4 : Nat) (s : Int) (n5 n6 n7 : Nat) : Prop := n1 = 32 ∧ RightN n2 n3 n4 s n5 n6 ∧ s = 1 ∧ n7 = 64
instance (n1 n2 n3 n4 : Nat) (s : Int) (n5 n6 n7 : Nat) : Decidable (RightK n1 n2 n3 n4 s n5 n6 n7) := by unfold RightK; exact inferInstance
def oneLaw (s : Int) : Int := if s = 1 then 1 else 1
def offerLaw (x a b c : List Int) (s : Int) (d z : List Int) : List Int := numLaw (oneLaw s) 2 ++ (numLaw (oneLaw s) 2 ++ (vec1Law x ++ (bareLaw a b c s d ++ vec1Law z)))
def RightP (x a b c : List Int) (s : Int) (d z y : List Int) : Prop := RightK x.length a.length b.length c.length s d.length z.length y.length
instance (x a b c : List Int) (s : Int) (d z y : List Int) : Decidable (RightP x a b c s d z y) := by unfold RightP; exact inferInstance
def pkBLaw (x a b c : List Int) (s : Int) (d z y : List Int) : List Int := if RightP x a b c s d z y then offerLaw x a b c s d z ++ vec1Law y else []
end Go.Abs

set_option linter.unusedVariables false
set_option linter.unusedSimpArgs false
set_option maxRecDepth 100000
set_option maxHeartbeats 4000000
namespace Go.Abs
open Go.Proofs Go.Proofs.Try
end Go.Abs

set_option linter.unusedVariables false
set_option linter.unusedSimpArgs false
set_option maxRecDepth 100000
set_option maxHeartbeats 4000000
namespace Go.Abs
open Go.Proofs Go.Proofs.Try
/-! ### what is signed of a leaf -/
def RightS (n1 n2 n3 : Nat) (s : Int) (n4 n5 n6 : Nat) (k : Int) : Prop := RightN n1 n2 n3 s n4 n5 ∧ n6 ≤ 255 ∧ 0 ≤ k ∧ k < 64
instance (n1 n2 n3 : Nat) (s : Int) (n4 n5 n6 : Nat) (k : Int) : Decidable (RightS n1 n2 n3 s n4 n5 n6 k) := by unfold RightS; exact inferInstance
def RightT (a b c : List Int) (s : Int) (d z q : List Int) (k : Int) : Prop := RightS a.length b.length c.length s d.length z.length q.length k
instance (a b c : List Int) (s : Int) (d z q : List Int) (k : Int) : Decidable (RightT a b c s d z q k) := by unfold RightT; exact inferInstance
theorem num4 {k : Int} (h : 0 ≤ k) (h2 : k < 64) : numLaw k 4 = [k / 16777216 % 256, k / 65536 % 256, k / 256 % 256, k / 1 % 256] := by
  rw [(num_in (n := k) (size := 4) (by decide) ⟨h, by unfold mostLaw; rw [if_neg (by decide), if_neg (by decide), if_pos rfl]; omega⟩).1]
  rfl
end Go.Abs

set_option linter.unusedVariables false
set_option linter.unusedSimpArgs false
set_option maxRecDepth 100000
set_option maxHeartbeats 4000000
namespace Go.Abs
open Go.Proofs Go.Proofs.Try
def kaO0 (B : List Int) : Nat := rnOLaw B 0 0 4
def kaE0 (B : List Int) : Int := rnELaw B 0 0 4
def kaO1 (B : List Int) : Nat := rvOLaw B (kaO0 B) (kaE0 B)
def kaE1 (B : List Int) : Int := rvELaw B (kaO0 B) (kaE0 B)
def kaO2 (B : List Int) : Nat := lfOLaw B (kaO1 B) (kaE1 B)
def kaE2 (B : List Int) : Int := lfELaw B (kaO1 B) (kaE1 B)
def kaO3 (B : List Int) : Nat := rvOLaw B (kaO2 B) (kaE2 B)
def kaE3 (B : List Int) : Int := rvELaw B (kaO2 B) (kaE2 B)
def kaX (B : List Int) : List Int := rvVLaw B (kaO0 B) (kaE0 B)
def kaA (B : List Int) : List Int := lfALaw B (kaO1 B) (kaE1 B)
def kaB (B : List Int) : List Int := lfBLaw B (kaO1 B) (kaE1 B)
def kaC (B : List Int) : List Int := lfCLaw B (kaO1 B) (kaE1 B)
def kaS (B : List Int) : Int := lfSLaw B (kaO1 B) (kaE1 B)
def kaD (B : List Int) : List Int := lfDLaw B (kaO1 B) (kaE1 B)
def kaZ (B : List Int) : List Int := lfZLaw B (kaO1 B) (kaE1 B)
def kaY (B : List Int) : List Int := rvVLaw B (kaO2 B) (kaE2 B)
def kaOK (B : List Int) : Prop := reLaw B (kaO3 B) (kaE3 B) = 0 ∧ RightP (kaX B) (kaA B) (kaB B) (kaC B) (kaS B) (kaD B) (kaZ B) (kaY B) ∧ pkBLaw (kaX B) (kaA B) (kaB B) (kaC B) (kaS B) (kaD B) (kaZ B) (kaY B) = B
instance (B : List Int) : Decidable (kaOK B) := by unfold kaOK; exact inferInstance
theorem by_of {B : List Int} (h : ByLaw B) : ∀ c ∈ B, 0 ≤ c ∧ c < 256 := fun c hc => by
  obtain ⟨i, hi, rfl⟩ := List.mem_iff_getElem.1 hc
  have := h i
  rwa [List.getD_eq_getElem?_getD, List.getElem?_eq_getElem hi] at this
theorem nByte_inj {a b : Int} (ha : 0 ≤ a ∧ a < 256) (hb : 0 ≤ b ∧ b < 256) (h : byteOf a = byteOf b) : a = b := by
  have := congrArg UInt8.toNat h
  simp only [byteOf, UInt8.toNat_ofNat'] at this
  omega
theorem nBytes_inj : ∀ {l l' : List Int}, (∀ c ∈ l, 0 ≤ c ∧ c < 256) → (∀ c ∈ l', 0 ≤ c ∧ c < 256) → List.map byteOf l = List.map byteOf l' → l = l'
  | [], [], _, _, _ => rfl
  | [], b :: r, _, _, h => by simp at h
  | a :: r, [], _, _, h => by simp at h
  | a :: r, b :: r', h1, h2, h => by
    simp only [List.map_cons, List.cons.injEq] at h
    rw [nByte_inj (h1 a (.head _)) (h2 b (.head _)) h.1, nBytes_inj (fun c hc => h1 c (.tail _ hc)) (fun c hc => h2 c (.tail _ hc)) h.2]
end Go.Abs

set_option linter.unusedVariables false
set_option linter.unusedSimpArgs false
set_option maxRecDepth 100000
set_option maxHeartbeats 4000000
namespace Go.Abs
open Go.Proofs Go.Proofs.Try
end Go.Abs

set_option linter.unusedVariables false
set_option linter.unusedSimpArgs false
set_option maxRecDepth 100000
set_option maxHeartbeats 4000000
namespace Go.Abs
open Go.Proofs Go.Proofs.Try
end Go.Abs

set_option linter.unusedVariables false
set_option linter.unusedSimpArgs false
set_option maxRecDepth 100000
set_option maxHeartbeats 4000000
namespace Go.Abs
open Go.Proofs Go.Proofs.Try
/-! ### unlike leaves have unlike texts -/
theorem num_by (n size : Int) : ∀ c ∈ numLaw n size, 0 ≤ c ∧ c < 256 := by
  intro c hc
  unfold numLaw at hc
  split at hc
  · unfold beLaw at hc
    rw [List.mem_map] at hc
    obtain ⟨j, _, rfl⟩ := hc
    omega
  · cases hc
theorem vec1_by {r : List Int} (h : ∀ c ∈ r, 0 ≤ c ∧ c < 256) : ∀ c ∈ vec1Law r, 0 ≤ c ∧ c < 256 := by
  intro c hc
  unfold vec1Law at hc
  rcases List.mem_append.1 hc with hc | hc
  · exact lenLaw_by _ c hc
  · exact h c hc
theorem app_by {l r : List Int} (h1 : ∀ c ∈ l, 0 ≤ c ∧ c < 256) (h2 : ∀ c ∈ r, 0 ≤ c ∧ c < 256) : ∀ c ∈ l ++ r, 0 ≤ c ∧ c < 256 := fun c hc => by
  rcases List.mem_append.1 hc with hc | hc
  · exact h1 c hc
  · exact h2 c hc
theorem nil_by : ∀ c ∈ ([] : List Int), 0 ≤ c ∧ c < 256 := fun c hc => by cases hc
end Go.Abs

set_option linter.unusedVariables false
set_option linter.unusedSimpArgs false
set_option maxRecDepth 100000
set_option maxHeartbeats 4000000
namespace Go.Abs
open Go.Proofs Go.Proofs.Try
end Go.Abs

set_option linter.unusedVariables false
set_option linter.unusedSimpArgs false
set_option maxRecDepth 100000
set_option maxHeartbeats 4000000
namespace Go.Abs
open Go.Proofs Go.Proofs.Try
/-! ### may a parent be? -/
def lastLaw (u : List Int) (i : Nat) : Int := match i with | 0 => -1 | j + 1 => u.getD j 0
def StepU (u : List Int) (i : Nat) : Prop := lastLaw u i < u.getD i 0 ∧ u.getD i 0 < 64
instance (u : List Int) (i : Nat) : Decidable (StepU u i) := by unfold StepU; exact inferInstance
def RiseU (u : List Int) : Prop := ∀ i, i < u.length → StepU u i
instance (u : List Int) : Decidable (RiseU u) := by unfold RiseU; exact inferInstance
def RightU (n1 n2 : Nat) (u : List Int) : Prop := n1 = 32 ∧ (n2 = 0 ∨ n2 = 32) ∧ RiseU u
instance (n1 n2 : Nat) (u : List Int) : Decidable (RightU n1 n2 u) := by unfold RightU; exact inferInstance
theorem least {P : Nat → Prop} [DecidablePred P] {n : Nat} (h : ¬ ∀ i, i < n → P i) : ∃ k, k < n ∧ ¬ P k ∧ ∀ i, i < k → P i := by
  induction n with
  | zero => exact absurd (fun i hi => absurd hi (Nat.not_lt_zero i)) h
  | succ n ih =>
    by_cases hn : ∀ i, i < n → P i
    · by_cases hp : P n
      · refine absurd (fun i hi => ?_) h
        rcases Nat.lt_or_ge i n with k | k
        · exact hn i k
        · obtain rfl : i = n := by omega
          exact hp
      · exact ⟨n, Nat.lt_succ_self n, hp, hn⟩
    · obtain ⟨k, h1, h2, h3⟩ := ih hn
      exact ⟨k, by omega, h2, h3⟩
theorem rise_ge {u : List Int} (h : RiseU u) : ∀ i, i < u.length → (i : Int) ≤ u.getD i 0
  | 0, hi => by have k : (-1 : Int) < u.getD 0 0 := (h 0 hi).1; omega
  | i + 1, hi => by
    have k := rise_ge h i (by omega)
    have k2 : u.getD i 0 < u.getD (i + 1) 0 := (h (i + 1) hi).1
    omega
theorem rise_len {u : List Int} (h : RiseU u) : u.length ≤ 64 := by
  rcases Nat.lt_or_ge 64 u.length with k | k
  · have h1 := rise_ge h 64 k
    have h2 := (h 64 k).2
    omega
  · exact k
theorem rise_in {u : List Int} (h : RiseU u) {i : Nat} (hi : i < u.length) : 0 ≤ u.getD i 0 ∧ u.getD i 0 < 64 := by
  have := rise_ge h i hi
  have := (h i hi).2
  omega
theorem split49 : backC 5 (bodyOf f49) = .block 0 (.loop (roundOf 0 f49)) := by kernel_rfl
theorem AWp.cutN {E : Env} (hE : EnvOk E) (hm : E.P.follows .mixedOrders = true) {n k m : Nat} {f : Nat} {post : AExit → Fm → Tab → Prop} {c : Code} (j : Nat) {fm : Fm} {T : Tab} {ds : List (Option Bool)} {slots : List Nat} {o : Out} (ho : Abs.trim k m slots (runs E n ⟨k, []⟩ f (frontC j c) fm T ds) = o) (hc : Ok o) (hx : o.ex = .normal) (h : AWp E n k (backC j c) o.fm o.tab post) : AWp E n k c fm T post := by
  generalize hr : runs E n ⟨k, []⟩ f (frontC j c) fm T ds = r at ho
  obtain ⟨cs, ex, fm1, T1, ds1⟩ := r
  unfold Abs.trim at ho
  simp only at ho
  split at ho
  · rename_i g hp hb
    subst ho
    exact AWp.cut hE hm j hr ⟨hc.h⟩ hx (AWp.enter hp hb h)
  · subst ho
    exact absurd hc.h failO_no
/-- rounds, and one that panics -/
theorem AWp.roundsPan {E : Env} {n k : Nat} {id : Nat} {c : Code} (F : Nat → Fm) (T : Nat → Tab) (N : Nat) {t : TypeId} {kk : IntKind} {m : Int} {T' : Tab}
    (round : ∀ i, i < N → To E n k c (F i) (T i) .normal (F (i + 1)) (T (i + 1))) (last : AWp E n k c (F N) (T N) fun ex fm T1 => ex = .panic t kk m ∧ T1 = T') : AWp E n k (.block id (.loop c)) (F 0) (T 0) fun ex fm T1 => ex = .panic t kk m ∧ T1 = T' := by
  refine AWp.block ?_
  refine AWp.loop (fun fm T' m => ∃ i, i ≤ N ∧ m = N - i ∧ fm = F i ∧ T' = T i) N ⟨0, Nat.zero_le _, rfl, rfl, rfl⟩ ?_
  rintro fm T1 m0 ⟨i, hi', rfl, rfl, rfl⟩
  rcases Nat.lt_or_ge i N with hlt | hge
  · refine (round i hlt).mono fun ex fm1 T1 ⟨e1, e2, e3⟩ => ?_
    subst e1 e2 e3
    exact ⟨N - (i + 1), by omega, i + 1, hlt, rfl, rfl, rfl⟩
  · have : i = N := by omega
    subst this
    refine last.mono fun e fm1 T1 ⟨e1, e3⟩ => ?_
    subst e1 e3
    exact ⟨rfl, rfl⟩
def fstC : Code → Code
  | .seq a b => a
  | c => c
def sndC : Code → Code
  | .seq a b => b
  | c => c
def blkC : Code → Code
  | .block _ c => c
  | .loop c => c
  | c => c
noncomputable def in49 : Code := blkC (fstC (backC 2 (roundOf 0 f49)))
noncomputable def r49 : Code := sndC (backC 2 (roundOf 0 f49))
theorem split49r : backC 2 (roundOf 0 f49) = .seq (.block 1 in49) r49 := by kernel_rfl
noncomputable def nF49y (a : List Int) (b : List Int) (u : List Int) (g1 : Nat) (g2 : Nat) (g3 : Nat) (n1 : Nat) (n2 : Nat) (n3 : Nat) : Out := trim 3 4 [1,2,20,21,22] (runs eM1 36 ⟨3, []⟩ 400 (frontC 5 (bodyOf f49)) (argF [.agg [.slice 1 0 g1 0 n1 none, .slice 1 1 g2 0 n2 none, .slice 1 2 g3 0 n3 none]] 0) [some ⟨.ints .u8 a, g1, false, 5⟩, some ⟨.ints .u8 b, g2, false, 5⟩, some ⟨.ints .i64 u, g3, false, 3⟩] [some true])
theorem nF49y_ok {a : List Int} {b : List Int} {u : List Int} {g1 : Nat} {g2 : Nat} {g3 : Nat} {n1 : Nat} {n2 : Nat} {n3 : Nat} (h : allP [.eqN g1 g1, .eqN g1 g1, .p (((↑n1 : Int) == 32) = true), .eqN g2 g2, .p (((↑n2 : Int) == 0) = true), .eqN g3 g3]) : Ok (nF49y a b u g1 g2 g3 n1 n2 n3) := Ok.dem (fl := bitsF 15 14791) (by kernel_rfl) (by kernel_rfl) (by kernel_rfl) h
theorem nF49y_ex {a : List Int} {b : List Int} {u : List Int} {g1 : Nat} {g2 : Nat} {g3 : Nat} {n1 : Nat} {n2 : Nat} {n3 : Nat} : (nF49y a b u g1 g2 g3 n1 n2 n3).ex = .normal := by kernel_rfl
theorem nF49y_fm {a : List Int} {b : List Int} {u : List Int} {g1 : Nat} {g2 : Nat} {g3 : Nat} {n1 : Nat} {n2 : Nat} {n3 : Nat} : (nF49y a b u g1 g2 g3 n1 n2 n3).fm = [(1, .var 3 0), (2, .int .i64 (-1)), (20, .slice 1 2 g3 0 n3 none), (21, .int .i64 (↑n3 : Int)), (22, .int .i64 0)] := by kernel_rfl
theorem nF49y_tab {a : List Int} {b : List Int} {u : List Int} {g1 : Nat} {g2 : Nat} {g3 : Nat} {n1 : Nat} {n2 : Nat} {n3 : Nat} : (nF49y a b u g1 g2 g3 n1 n2 n3).tab = [some ⟨.ints .u8 a, g1, false, 5⟩, some ⟨.ints .u8 b, g2, false, 5⟩, some ⟨.ints .i64 u, g3, false, 3⟩, some ⟨.agg [.slice 1 0 g1 0 n1 none, .slice 1 1 g2 0 n2 none, .slice 1 2 g3 0 n3 none], 0, true, 47⟩] := by kernel_rfl
noncomputable def nF49n (a : List Int) (b : List Int) (u : List Int) (g1 : Nat) (g2 : Nat) (g3 : Nat) (n1 : Nat) (n2 : Nat) (n3 : Nat) : Out := trim 3 4 [1,2,20,21,22] (runs eM1 36 ⟨3, []⟩ 400 (frontC 5 (bodyOf f49)) (argF [.agg [.slice 1 0 g1 0 n1 none, .slice 1 1 g2 0 n2 none, .slice 1 2 g3 0 n3 none]] 0) [some ⟨.ints .u8 a, g1, false, 5⟩, some ⟨.ints .u8 b, g2, false, 5⟩, some ⟨.ints .i64 u, g3, false, 3⟩] [some false, some true])
theorem nF49n_ok {a : List Int} {b : List Int} {u : List Int} {g1 : Nat} {g2 : Nat} {g3 : Nat} {n1 : Nat} {n2 : Nat} {n3 : Nat} (h : allP [.eqN g1 g1, .eqN g1 g1, .p (((↑n1 : Int) == 32) = true), .eqN g2 g2, .p (((↑n2 : Int) == 0) = false), .eqN g2 g2, .p (((↑n2 : Int) == 32) = true), .eqN g3 g3]) : Ok (nF49n a b u g1 g2 g3 n1 n2 n3) := Ok.dem (fl := bitsF 20 473543) (by kernel_rfl) (by kernel_rfl)
 (by kernel_rfl) h
theorem nF49n_ex {a : List Int} {b : List Int} {u : List Int} {g1 : Nat} {g2 : Nat} {g3 : Nat} {n1 : Nat} {n2 : Nat} {n3 : Nat} : (nF49n a b u g1 g2 g3 n1 n2 n3).ex = .normal := by kernel_rfl
theorem nF49n_fm {a : List Int} {b : List Int} {u : List Int} {g1 : Nat} {g2 : Nat} {g3 : Nat} {n1 : Nat} {n2 : Nat} {n3 : Nat} : (nF49n a b u g1 g2 g3 n1 n2 n3).fm = [(1, .var 3 0), (2, .int .i64 (-1)), (20, .slice 1 2 g3 0 n3 none), (21, .int .i64 (↑n3 : Int)), (22, .int .i64 0)] := by kernel_rfl
theorem nF49n_tab {a : List Int} {b : List Int} {u : List Int} {g1 : Nat} {g2 : Nat} {g3 : Nat} {n1 : Nat} {n2 : Nat} {n3 : Nat} : (nF49n a b u g1 g2 g3 n1 n2 n3).tab = [some ⟨.ints .u8 a, g1, false, 5⟩, some ⟨.ints .u8 b, g2, false, 5⟩, some ⟨.ints .i64 u, g3, false, 3⟩, some ⟨.agg [.slice 1 0 g1 0 n1 none, .slice 1 1 g2 0 n2 none, .slice 1 2 g3 0 n3 none], 0, true, 47⟩] := by kernel_rfl
noncomputable def nD49 (a : List Int) (b : List Int) (u : List Int) (g1 : Nat) (g2 : Nat) (g3 : Nat) (n1 : Nat) (n2 : Nat) (n3 : Nat) (last : Int) (i : Nat) : Out := trim 4 4 [1,2,20,21,22] (run eM1 36 ⟨4, []⟩ 400 (roundOf 0 f49) [(1, .var 3 0), (2, .int .i64 last), (20, .slice 1 2 g3 0 n3 none), (21, .int .i64 (n3 : Nat)), (22, .int .i64 (i : Nat))] [some ⟨.ints .u8 a, g1, false, 5⟩, some ⟨.ints .u8 b, g2, false, 5⟩, some ⟨.ints .i64 u, g3, false, 3⟩, some ⟨.agg [.slice 1 0 g1 0 n1 none, .slice 1 1 g2 0 n2 none, .slice 1 2 g3 0 n3 none], 0, true, 47⟩] [some true, some true, some true])
theorem nD49_ok {a : List Int} {b : List Int} {u : List Int} {g1 : Nat} {g2 : Nat} {g3 : Nat} {n1 : Nat} {n2 : Nat} {n3 : Nat} {last : Int} {i : Nat} (h : allP [.p (decide ((↑i : Int) < (↑n3 : Int)) = true), .eqN g3 g3, .leI 0 (↑i : Int), .leI ((↑i : Int) + 1) (↑n3 : Int), .eqN g3 g3, .leN (i + 1) u.length, .p (decide (last < u.getD i 0) = true), .p (decide (u.getD i 0 < 64) = true), .rng
 (-9223372036854775808) ((↑i : Int) + 1) 9223372036854775807]) : Ok (nD49 a b u g1 g2 g3 n1 n2 n3 last i) := Ok.dem (fl := [false, false, false, false, false, false, false, false, false]) (by kernel_rfl) (by kernel_rfl) (by kernel_rfl) h
theorem nD49_ex {a : List Int} {b : List Int} {u : List Int} {g1 : Nat} {g2 : Nat} {g3 : Nat} {n1 : Nat} {n2 : Nat} {n3 : Nat} {last : Int} {i : Nat} : (nD49 a b u g1 g2 g3 n1 n2 n3 last i).ex = .normal := by kernel_rfl
theorem nD49_fm {a : List Int} {b : List Int} {u : List Int} {g1 : Nat} {g2 : Nat} {g3 : Nat} {n1 : Nat} {n2 : Nat} {n3 : Nat} {last : Int} {i : Nat} : (nD49 a b u g1 g2 g3 n1 n2 n3 last i).fm = [(1, .var 3 0), (2, .int .i64 (u.getD i 0)), (20, .slice 1 2 g3 0 n3 none), (21, .int .i64 (↑n3 : Int)), (22, .int .i64 ((↑i : Int) + 1))] := by kernel_rfl
theorem nD49_tab {a : List Int} {b : List Int} {u : List Int} {g1 : Nat} {g2 : Nat} {g3 : Nat} {n1 : Nat} {n2 : Nat} {n3 : Nat} {last : Int} {i : Nat} : (nD49 a b u g1 g2 g3 n1 n2 n3 last i).tab = [some ⟨.ints .u8 a, g1, false, 5⟩, some ⟨.ints .u8 b, g2, false, 5⟩, some ⟨.ints .i64 u, g3, false, 3⟩, some ⟨.agg [.slice 1 0 g1 0 n1 none, .slice 1 1 g2 0 n2 none, .slice 1 2 g3 0 n3 none], 0, true,
 47⟩] := by kernel_rfl
noncomputable def nE49 (a : List Int) (b : List Int) (u : List Int) (g1 : Nat) (g2 : Nat) (g3 : Nat) (n1 : Nat) (n2 : Nat) (n3 : Nat) (last : Int) (i : Nat) : Out := trim 4 4 [1,2,20,21,22] (run eM1 36 ⟨4, []⟩ 400 (roundOf 0 f49) [(1, .var 3 0), (2, .int .i64 last), (20, .slice 1 2 g3 0 n3 none), (21, .int .i64 (n3 : Nat)), (22, .int .i64 (i : Nat))] [some ⟨.ints .u8 a, g1, false, 5⟩, some ⟨.ints .u8 b, g2, false, 5⟩, some ⟨.ints .i64 u, g3, false, 3⟩, some ⟨.agg [.slice 1 0 g1 0 n1 none, .slice 1 1 g2 0 n2 none, .slice 1 2 g3 0 n3 none], 0, true, 47⟩] [some false])
theorem nE49_ok {a : List Int} {b : List Int} {u : List Int} {g1 : Nat} {g2 : Nat} {g3 : Nat} {n1 : Nat} {n2 : Nat} {n3 : Nat} {last : Int} {i : Nat} (h : allP [.p (decide ((↑i : Int) < (↑n3 : Int)) = false)]) : Ok (nE49 a b u g1 g2 g3 n1 n2 n3 last i) := Ok.dem (fl := [false]) (by kernel_rfl) (by kernel_rfl) (by kernel_rfl) h
theorem nE49_ex {a : List Int} {b : List Int} {u : List Int} {g1 : Nat} {g2 : Nat} {g3 : Nat} {n1 : Nat} {n2 : Nat} {n3 : Nat} {last : Int} {i : Nat} : (nE49 a b u g1 g2 g3 n1 n2 n3 last i).ex = .exit 0 := by kernel_rfl
theorem nE49_fm {a : List Int} {b : List Int} {u : List Int} {g1 : Nat} {g2 : Nat} {g3 : Nat} {n1 : Nat} {n2 : Nat} {n3 : Nat} {last : Int} {i : Nat} : (nE49 a b u g1 g2 g3 n1 n2 n3 last i).fm = [(1, .var 3 0), (2, .int .i64 last), (20, .slice 1 2 g3 0 n3 none), (21, .int .i64 (↑n3 : Int)), (22, .int .i64 (↑i : Int))] := by kernel_rfl
theorem nE49_tab {a : List Int} {b : List Int} {u : List Int} {g1 : Nat} {g2 : Nat} {g3 : Nat} {n1 : Nat} {n2 : Nat} {n3 : Nat} {last : Int} {i : Nat} : (nE49 a b u g1 g2 g3 n1 n2 n3 last i).tab = [some ⟨.ints .u8 a, g1, false, 5⟩, some ⟨.ints .u8 b, g2, false, 5⟩, some ⟨.ints .i64 u, g3, false, 3⟩, some ⟨.agg [.slice 1 0 g1 0 n1 none, .slice 1 1 g2 0 n2 none, .slice 1 2 g3 0 n3 none], 0, true,
 47⟩] := by kernel_rfl
noncomputable def nQ49 (a : List Int) (b : List Int) (u : List Int) (g1 : Nat) (g2 : Nat) (g3 : Nat) (n1 : Nat) (n2 : Nat) (n3 : Nat) (last : Int) (i : Nat) : Out := runs eM1 36 ⟨4, []⟩ 400 (frontC 2 (roundOf 0 f49)) [(1, .var 3 0), (2, .int .i64 last), (20, .slice 1 2 g3 0 n3 none), (21, .int .i64 (n3 : Nat)), (22, .int .i64 (i : Nat))] [some ⟨.ints .u8 a, g1, false, 5⟩, some ⟨.ints .u8 b, g2, false, 5⟩, some ⟨.ints .i64 u, g3, false, 3⟩, some ⟨.agg [.slice 1 0 g1 0 n1 none, .slice 1 1 g2 0 n2 none, .slice 1 2 g3 0 n3 none], 0, true, 47⟩] [some true]
theorem nQ49_ok {a : List Int} {b : List Int} {u : List Int} {g1 : Nat} {g2 : Nat} {g3 : Nat} {n1 : Nat} {n2 : Nat} {n3 : Nat} {last : Int} {i : Nat} (h : allP [.p (decide ((↑i : Int) < (↑n3 : Int)) = true)]) : Ok (nQ49 a b u g1 g2 g3 n1 n2 n3 last i) := Ok.dem (fl := [false]) (by kernel_rfl) (by kernel_rfl) (by kernel_rfl) h
theorem nQ49_ex {a : List Int} {b : List Int} {u : List Int} {g1 : Nat} {g2 : Nat} {g3 : Nat} {n1 : Nat} {n2 : Nat} {n3 : Nat} {last : Int} {i : Nat} : (nQ49 a b u g1 g2 g3 n1 n2 n3 last i).ex = .normal := by kernel_rfl
theorem nQ49_fm {a : List Int} {b : List Int} {u : List Int} {g1 : Nat} {g2 : Nat} {g3 : Nat} {n1 : Nat} {n2 : Nat} {n3 : Nat} {last : Int} {i : Nat} : (nQ49 a b u g1 g2 g3 n1 n2 n3 last i).fm = [(23, .bool true), (1, .var 3 0), (2, .int .i64 last), (20, .slice 1 2 g3 0 n3 none), (21, .int .i64 (↑n3 : Int)), (22, .int .i64 (↑i : Int))] := by kernel_rfl
theorem nQ49_tab {a : List Int} {b : List Int} {u : List Int} {g1 : Nat} {g2 : Nat} {g3 : Nat} {n1 : Nat} {n2 : Nat} {n3 : Nat} {last : Int} {i : Nat} : (nQ49 a b u g1 g2 g3 n1 n2 n3 last i).tab = [some ⟨.ints .u8 a, g1, false, 5⟩, some ⟨.ints .u8 b, g2, false, 5⟩, some ⟨.ints .i64 u, g3, false, 3⟩, some ⟨.agg [.slice 1 0 g1 0 n1 none, .slice 1 1 g2 0 n2 none, .slice 1 2 g3 0 n3 none], 0, true,
 47⟩] := by kernel_rfl
noncomputable def nP49a (a : List Int) (b : List Int) (u : List Int) (g1 : Nat) (g2 : Nat) (g3 : Nat) (n1 : Nat) (n2 : Nat) (n3 : Nat) (last : Int) (i : Nat) : Out := panicRun eM1 psN1 36 4 400 1 in49 [(23, .bool true), (1, .var 3 0), (2, .int .i64 last), (20, .slice 1 2 g3 0 n3 none), (21, .int .i64 (n3 : Nat)), (22, .int .i64 (i : Nat))] [some ⟨.ints .u8 a, g1, false, 5⟩, some ⟨.ints .u8 b, g2, false, 5⟩, some ⟨.ints .i64 u, g3, false, 3⟩, some ⟨.agg [.slice 1 0 g1 0 n1 none, .slice 1 1 g2 0 n2 none, .slice 1 2 g3 0 n3 none], 0, true, 47⟩] [some false]
theorem nP49a_ok {a : List Int} {b : List Int} {u : List Int} {g1 : Nat} {g2 : Nat} {g3 : Nat} {n1 : Nat} {n2 : Nat} {n3 : Nat} {last : Int} {i : Nat} (h : allP [.eqN g3 g3, .leI 0 (↑i : Int), .leI ((↑i : Int) + 1) (↑n3 : Int), .eqN g3 g3, .leN (i + 1) u.length, .p (decide (last < u.getD i 0) = false)]) : Ok (nP49a a b u g1 g2 g3 n1 n2 n3 last i) := Ok.dem (fl := [false, false, false, false, false,
 false]) (by kernel_rfl) (by kernel_rfl) (by kernel_rfl) h
noncomputable def nP49b (a : List Int) (b : List Int) (u : List Int) (g1 : Nat) (g2 : Nat) (g3 : Nat) (n1 : Nat) (n2 : Nat) (n3 : Nat) (last : Int) (i : Nat) : Out := panicRun eM1 psN1 36 4 400 1 in49 [(23, .bool true), (1, .var 3 0), (2, .int .i64 last), (20, .slice 1 2 g3 0 n3 none), (21, .int .i64 (n3 : Nat)), (22, .int .i64 (i : Nat))] [some ⟨.ints .u8 a, g1, false, 5⟩, some ⟨.ints .u8 b, g2, false, 5⟩, some ⟨.ints .i64 u, g3, false, 3⟩, some ⟨.agg [.slice 1 0 g1 0 n1 none, .slice 1 1 g2 0 n2 none, .slice 1 2 g3 0 n3 none], 0, true, 47⟩] [some true, some false]
theorem nP49b_ok {a : List Int} {b : List Int} {u : List Int} {g1 : Nat} {g2 : Nat} {g3 : Nat} {n1 : Nat} {n2 : Nat} {n3 : Nat} {last : Int} {i : Nat} (h : allP [.eqN g3 g3, .leI 0 (↑i : Int), .leI ((↑i : Int) + 1) (↑n3 : Int), .eqN g3 g3, .leN (i + 1) u.length, .p (decide (last < u.getD i 0) = true), .p (decide (u.getD i 0 < 64) = false)]) : Ok (nP49b a b u g1 g2 g3 n1 n2 n3 last i) := Ok.dem (fl
 := [false, false, false, false, false, false, false]) (by kernel_rfl) (by kernel_rfl) (by kernel_rfl) h
noncomputable def nP49fa (a : List Int) (b : List Int) (u : List Int) (g1 : Nat) (g2 : Nat) (g3 : Nat) (n1 : Nat) (n2 : Nat) (n3 : Nat) : Res := fnRunP eM1 psN1 f49 400 1 [.agg [.slice 1 0 g1 0 n1 none, .slice 1 1 g2 0 n2 none, .slice 1 2 g3 0 n3 none]] [some ⟨.ints .u8 a, g1, false, 5⟩, some ⟨.ints .u8 b, g2, false, 5⟩, some ⟨.ints .i64 u, g3, false, 3⟩] []
theorem nP49fa_ok {a : List Int} {b : List Int} {u : List Int} {g1 : Nat} {g2 : Nat} {g3 : Nat} {n1 : Nat} {n2 : Nat} {n3 : Nat} (h : allP [.eqN g1 g1, .eqN g1 g1, .p (((↑n1 : Int) == 32) = false)]) : OkR (nP49fa a b u g1 g2 g3 n1 n2 n3) := OkR.dem (fl := [true, true, true, false, false, false]) (by kernel_rfl) (by kernel_rfl) (by kernel_rfl) h
theorem nP49fa_val {a : List Int} {b : List Int} {u : List Int} {g1 : Nat} {g2 : Nat} {g3 : Nat} {n1 : Nat} {n2 : Nat} {n3 : Nat} : (nP49fa a b u g1 g2 g3 n1 n2 n3).val = .iface 28 (.int .i64 1) := by kernel_rfl
theorem nP49fa_tab {a : List Int} {b : List Int} {u : List Int} {g1 : Nat} {g2 : Nat} {g3 : Nat} {n1 : Nat} {n2 : Nat} {n3 : Nat} : (nP49fa a b u g1 g2 g3 n1 n2 n3).tab = [some ⟨.ints .u8 a, g1, false, 5⟩, some ⟨.ints .u8 b, g2, false, 5⟩, some ⟨.ints .i64 u, g3, false, 3⟩, some ⟨.agg [.slice 1 0 g1 0 n1 none, .slice 1 1 g2 0 n2 none, .slice 1 2 g3 0 n3 none], 0, true, 47⟩] := by kernel_rfl
noncomputable def nP49fb (a : List Int) (b : List Int) (u : List Int) (g1 : Nat) (g2 : Nat) (g3 : Nat) (n1 : Nat) (n2 : Nat) (n3 : Nat) : Res := fnRunP eM1 psN1 f49 400 2 [.agg [.slice 1 0 g1 0 n1 none, .slice 1 1 g2 0 n2 none, .slice 1 2 g3 0 n3 none]] [some ⟨.ints .u8 a, g1, false, 5⟩, some ⟨.ints .u8 b, g2, false, 5⟩, some ⟨.ints .i64 u, g3, false, 3⟩] [some false, some false]
theorem nP49fb_ok {a : List Int} {b : List Int} {u : List Int} {g1 : Nat} {g2 : Nat} {g3 : Nat} {n1 : Nat} {n2 : Nat} {n3 : Nat} (h : allP [.eqN g1 g1, .eqN g1 g1, .p (((↑n1 : Int) == 32) = true), .eqN g2 g2, .p (((↑n2 : Int) == 0) = false), .eqN g2 g2, .p (((↑n2 : Int) == 32) = false)]) : OkR (nP49fb a b u g1 g2 g3 n1 n2 n3) := OkR.dem (fl := bitsF 16 14791) (by kernel_rfl) (by kernel_rfl) (by
 kernel_rfl) h
theorem nP49fb_val {a : List Int} {b : List Int} {u : List Int} {g1 : Nat} {g2 : Nat} {g3 : Nat} {n1 : Nat} {n2 : Nat} {n3 : Nat} : (nP49fb a b u g1 g2 g3 n1 n2 n3).val = .iface 28 (.int .i64 1) := by kernel_rfl
theorem nP49fb_tab {a : List Int} {b : List Int} {u : List Int} {g1 : Nat} {g2 : Nat} {g3 : Nat} {n1 : Nat} {n2 : Nat} {n3 : Nat} : (nP49fb a b u g1 g2 g3 n1 n2 n3).tab = [some ⟨.ints .u8 a, g1, false, 5⟩, some ⟨.ints .u8 b, g2, false, 5⟩, some ⟨.ints .i64 u, g3, false, 3⟩, some ⟨.agg [.slice 1 0 g1 0 n1 none, .slice 1 1 g2 0 n2 none, .slice 1 2 g3 0 n3 none], 0, true, 47⟩] := by kernel_rfl
def F49 (u : List Int) (g3 i : Nat) : Fm := [(1, .var 3 0), (2, .int .i64 (lastLaw u i)), (20, .slice 1 2 g3 0 u.length none), (21, .int .i64 (u.length : Nat)), (22, .int .i64 ((i : Nat) : Int))]
theorem rd49 {a b u : List Int} {g1 g2 g3 n1 n2 : Nat} {i : Nat} (hl : u.length ≤ 140737488355000) (hi : i < u.length) (h : StepU u i) : To eM1 36 4 (roundOf 0 f49) (F49 u g3 i) [some ⟨.ints .u8 a, g1, false, 5⟩, some ⟨.ints .u8 b, g2, false, 5⟩, some ⟨.ints .i64 u, g3, false, 3⟩, some ⟨.agg [.slice 1 0 g1 0 n1 none, .slice 1 1 g2 0 n2 none, .slice 1 2 g3 0 u.length none], 0, true, 47⟩] .normal (F49 u g3 (i + 1)) [some ⟨.ints .u8 a, g1, false, 5⟩, some ⟨.ints .u8 b, g2, false, 5⟩, some ⟨.ints .i64 u, g3, false, 3⟩, some ⟨.agg [.slice 1 0 g1 0 n1 none, .slice 1 1 g2 0 n2 none, .slice 1 2 g3 0 u.length none], 0, true, 47⟩] := by
  obtain ⟨h1, h2⟩ := h
  refine To.of (o := nD49 a b u g1 g2 g3 n1 n2 u.length (lastLaw u i) i) eM1_ok hmN (Nat.le_refl 4) OrcOk.nil rfl (nD49_ok (by
    simp only [allP, Con.h, eq_self, true_and, and_true, beq_iff_eq, beq_eq_false_iff_ne, ne_eq, decide_eq_true_eq, decide_eq_false_iff_not]
    omega)) nD49_ex ?_ nD49_tab
  rw [nD49_fm]
  unfold F49
  rfl
theorem rx49 {a b u : List Int} {g1 g2 g3 n1 n2 : Nat} : To eM1 36 4 (roundOf 0 f49) (F49 u g3 u.length) [some ⟨.ints .u8 a, g1, false, 5⟩, some ⟨.ints .u8 b, g2, false, 5⟩, some ⟨.ints .i64 u, g3, false, 3⟩, some ⟨.agg [.slice 1 0 g1 0 n1 none, .slice 1 1 g2 0 n2 none, .slice 1 2 g3 0 u.length none], 0, true, 47⟩] (.exit 0) (F49 u g3 u.length) [some ⟨.ints .u8 a, g1, false, 5⟩, some ⟨.ints .u8 b, g2, false, 5⟩, some ⟨.ints .i64 u, g3, false, 3⟩, some ⟨.agg [.slice 1 0 g1 0 n1 none, .slice 1 1 g2 0 n2 none, .slice 1 2 g3 0 u.length none], 0, true, 47⟩] := by
  refine To.of (o := nE49 a b u g1 g2 g3 n1 n2 u.length (lastLaw u u.length) u.length) eM1_ok hmN (Nat.le_refl 4) OrcOk.nil rfl (nE49_ok (by
    simp only [allP, Con.h, eq_self, true_and, and_true, beq_iff_eq, beq_eq_false_iff_ne, ne_eq, decide_eq_true_eq, decide_eq_false_iff_not]
    omega)) nE49_ex nE49_fm nE49_tab
theorem rp49 {a b u : List Int} {g1 g2 g3 n1 n2 : Nat} {i : Nat} (hi : i < u.length) (h : ¬ StepU u i) : AWp eM1 36 4 (roundOf 0 f49) (F49 u g3 i) [some ⟨.ints .u8 a, g1, false, 5⟩, some ⟨.ints .u8 b, g2, false, 5⟩, some ⟨.ints .i64 u, g3, false, 3⟩, some ⟨.agg [.slice 1 0 g1 0 n1 none, .slice 1 1 g2 0 n2 none, .slice 1 2 g3 0 u.length none], 0, true, 47⟩] fun ex fm T => ex = .panic 28 .i64 1 ∧ T = [some ⟨.ints .u8 a, g1, false, 5⟩, some ⟨.ints .u8 b, g2, false, 5⟩, some ⟨.ints .i64 u, g3, false, 3⟩, some ⟨.agg [.slice 1 0 g1 0 n1 none, .slice 1 1 g2 0 n2 none, .slice 1 2 g3 0 u.length none], 0, true, 47⟩] := by
  refine AWp.cut eM1_ok hmN 2 (o := nQ49 a b u g1 g2 g3 n1 n2 u.length (lastLaw u i) i) rfl (nQ49_ok (by
    simp only [allP, Con.h, eq_self, true_and, and_true, beq_iff_eq, beq_eq_false_iff_ne, ne_eq, decide_eq_true_eq, decide_eq_false_iff_not]
    omega)) nQ49_ex ?_
  rw [nQ49_fm, nQ49_tab, split49r]
  refine AWp.seq (AWp.block ?_)
  by_cases h1 : lastLaw u i < u.getD i 0
  · have h2 : ¬ u.getD i 0 < 64 := fun h2 => h ⟨h1, h2⟩
    exact AWp.panics (o := nP49b a b u g1 g2 g3 n1 n2 u.length (lastLaw u i) i) eM1_ok hmN psN1_ok rfl (nP49b_ok (by
      simp only [allP, Con.h, eq_self, true_and, and_true, beq_iff_eq, beq_eq_false_iff_ne, ne_eq, decide_eq_true_eq, decide_eq_false_iff_not]
      omega)) rfl ⟨rfl, rfl⟩
  · exact AWp.panics (o := nP49a a b u g1 g2 g3 n1 n2 u.length (lastLaw u i) i) eM1_ok hmN psN1_ok rfl (nP49a_ok (by
      simp only [allP, Con.h, eq_self, true_and, and_true, beq_iff_eq, beq_eq_false_iff_ne, ne_eq, decide_eq_true_eq, decide_eq_false_iff_not]
      omega)) rfl ⟨rfl, rfl⟩
noncomputable def nsm49c (args : List AVal) (T : Tab) (a : List Int) (b : List Int) (u : List Int) (g1 : Nat) (g2 : Nat) (g3 : Nat) (n1 : Nat) (n2 : Nat) (n3 : Nat) : Res := ⟨[.tab T [some ⟨.ints .u8 a, g1, false, 5⟩, some ⟨.ints .u8 b, g2, false, 5⟩, some ⟨.ints .i64 u, g3, false, 3⟩], .val (.tuple args) (.tuple [.agg [.slice 1 0 g1 0 n1 none, .slice 1 1 g2 0 n2 none, .slice 1 2 g3 0 n3 none]]), .eqN n3 u.length, .leN n3 140737488355000, .p (RightU n1 n2 u)], un, [some ⟨.ints .u8 a, g1, false, 5⟩, some ⟨.ints .u8 b, g2, false, 5⟩, some ⟨.ints .i64 u, g3, false, 3⟩]⟩
theorem nsm49c_ok {args : List AVal} {T : Tab} {a : List Int} {b : List Int} {u : List Int} {g1 : Nat} {g2 : Nat} {g3 : Nat} {n1 : Nat} {n2 : Nat} {n3 : Nat} (h : allP (nsm49c args T a b u g1 g2 g3 n1 n2 n3).cs) : Small prog (fun _ => none) 49 args T (nsm49c args T a b u g1 g2 g3 n1 n2 n3).val (nsm49c args T a b u g1 g2 g3 n1 n2 n3).tab := by
  obtain ⟨hT, hv, h1, h2, h3, _⟩ := h
  simp only [Con.h] at hT hv h1 h2 h3
  injection hv with hv
  subst hT hv
  show Small prog (fun _ => none) 49 [.agg [.slice 1 0 g1 0 n1 none, .slice 1 1 g2 0 n2 none, .slice 1 2 g3 0 n3 none]] [some ⟨.ints .u8 a, g1, false, 5⟩, some ⟨.ints .u8 b, g2, false, 5⟩, some ⟨.ints .i64 u, g3, false, 3⟩] (un) [some ⟨.ints .u8 a, g1, false, 5⟩, some ⟨.ints .u8 b, g2, false, 5⟩, some ⟨.ints .i64 u, g3, false, 3⟩]
  subst h1
  have h3 : RightU n1 n2 u := h3
  obtain ⟨q1, q2, q3⟩ := h3
  have hB : To eM1 36 4 (.block 0 (.loop (roundOf 0 f49))) (F49 u g3 0) [some ⟨.ints .u8 a, g1, false, 5⟩, some ⟨.ints .u8 b, g2, false, 5⟩, some ⟨.ints .i64 u, g3, false, 3⟩, some ⟨.agg [.slice 1 0 g1 0 n1 none, .slice 1 1 g2 0 n2 none, .slice 1 2 g3 0 u.length none], 0, true, 47⟩] .normal (F49 u g3 u.length) [some ⟨.ints .u8 a, g1, false, 5⟩, some ⟨.ints .u8 b, g2, false, 5⟩, some ⟨.ints .i64 u, g3, false, 3⟩, some ⟨.agg [.slice 1 0 g1 0 n1 none, .slice 1 1 g2 0 n2 none, .slice 1 2 g3 0 u.length none], 0, true, 47⟩] := To.rounds (F49 u g3) (fun _ => [some ⟨.ints .u8 a, g1, false, 5⟩, some ⟨.ints .u8 b, g2, false, 5⟩, some ⟨.ints .i64 u, g3, false, 3⟩, some ⟨.agg [.slice 1 0 g1 0 n1 none, .slice 1 1 g2 0 n2 none, .slice 1 2 g3 0 u.length none], 0, true, 47⟩]) u.length (fun i hi => rd49 h2 hi (q3 i hi)) rx49
  refine small_drop (T1 := [some ⟨.ints .u8 a, g1, false, 5⟩, some ⟨.ints .u8 b, g2, false, 5⟩, some ⟨.ints .i64 u, g3, false, 3⟩, some ⟨.agg [.slice 1 0 g1 0 n1 none, .slice 1 1 g2 0 n2 none, .slice 1 2 g3 0 u.length none], 0, true, 47⟩]) (small_of_awp eM1_ok (f := 49) (fn := f49) (c := bodyOf f49) (by kernel_rfl) (by kernel_rfl) (by kernel_rfl) ?_)
  have hW : AWp eM1 36 3 (bodyOf f49) (argF [.agg [.slice 1 0 g1 0 n1 none, .slice 1 1 g2 0 n2 none, .slice 1 2 g3 0 u.length none]] 0) [some ⟨.ints .u8 a, g1, false, 5⟩, some ⟨.ints .u8 b, g2, false, 5⟩, some ⟨.ints .i64 u, g3, false, 3⟩] fun ex fm T => (ex = .normal ∨ ex = .ret) ∧ T = [some ⟨.ints .u8 a, g1, false, 5⟩, some ⟨.ints .u8 b, g2, false, 5⟩, some ⟨.ints .i64 u, g3, false, 3⟩, some ⟨.agg [.slice 1 0 g1 0 n1 none, .slice 1 1 g2 0 n2 none, .slice 1 2 g3 0 u.length none], 0, true, 47⟩] ∧ ∃ cs us, aRes eM1 fm T f49.results.toList = some (cs, us) ∧ allP cs ∧ retV us = un := by
    rcases q2 with q2 | q2
    · refine AWp.cutN eM1_ok hmN 5 (o := nF49y a b u g1 g2 g3 n1 n2 u.length) rfl (nF49y_ok (by
        simp only [allP, Con.h, eq_self, true_and, and_true, beq_iff_eq, beq_eq_false_iff_ne, ne_eq, decide_eq_true_eq, decide_eq_false_iff_not]
        omega)) nF49y_ex ?_
      rw [nF49y_fm, nF49y_tab, split49]
      
      exact (AWp.base (by decide) hB).mono fun ex fm T ⟨e1, e2, e3⟩ => ⟨.inl e1, e3, [], [], by subst e2; kernel_rfl, trivial, rfl⟩
    · refine AWp.cutN eM1_ok hmN 5 (o := nF49n a b u g1 g2 g3 n1 n2 u.length) rfl (nF49n_ok (by
        simp only [allP, Con.h, eq_self, true_and, and_true, beq_iff_eq, beq_eq_false_iff_ne, ne_eq, decide_eq_true_eq, decide_eq_false_iff_not]
        omega)) nF49n_ex ?_
      rw [nF49n_fm, nF49n_tab, split49]
      
      exact (AWp.base (by decide) hB).mono fun ex fm T ⟨e1, e2, e3⟩ => ⟨.inl e1, e3, [], [], by subst e2; kernel_rfl, trivial, rfl⟩
  exact hW
noncomputable def nsm49 : Summary := fun args T => nsm49c args T (xsAt T 0) (xsAt T 1) (xsAt T 2) (gAt T 0) (gAt T 1) (gAt T 2) (lenOf ((vAt args 0).get 0)) (lenOf ((vAt args 0).get 1)) (lenOf ((vAt args 0).get 2))
theorem nsm49_ok : SmOk prog (fun _ => none) 49 nsm49 := fun args T h => nsm49c_ok h
noncomputable def nS49 : Summary := callR nsm49 []
theorem nS49_ok : SumOk prog (fun _ => none) 49 nS49 := callR_ok nsm49_ok []
noncomputable def nsm49pc (args : List AVal) (T : Tab) (a : List Int) (b : List Int) (u : List Int) (g1 : Nat) (g2 : Nat) (g3 : Nat) (n1 : Nat) (n2 : Nat) (n3 : Nat) : Res := ⟨[.tab T [some ⟨.ints .u8 a, g1, false, 5⟩, some ⟨.ints .u8 b, g2, false, 5⟩, some ⟨.ints .i64 u, g3, false, 3⟩], .val (.tuple args) (.tuple [.agg [.slice 1 0 g1 0 n1 none, .slice 1 1 g2 0 n2 none, .slice 1 2 g3 0 n3 none]]), .eqN n3 u.length, .leN n3 140737488355000, .p (¬ RightU n1 n2 u)], (.iface 28 (.int .i64 1)), [some ⟨.ints .u8 a, g1, false, 5⟩, some ⟨.ints .u8 b, g2, false, 5⟩, some ⟨.ints .i64 u, g3, false, 3⟩]⟩
theorem nsm49pc_ok {args : List AVal} {T : Tab} {a : List Int} {b : List Int} {u : List Int} {g1 : Nat} {g2 : Nat} {g3 : Nat} {n1 : Nat} {n2 : Nat} {n3 : Nat} (h : allP (nsm49pc args T a b u g1 g2 g3 n1 n2 n3).cs) : SmallE finP prog (fun _ => none) 49 args T (nsm49pc args T a b u g1 g2 g3 n1 n2 n3).val (nsm49pc args T a b u g1 g2 g3 n1 n2 n3).tab := by
  obtain ⟨hT, hv, h1, h2, h3, _⟩ := h
  simp only [Con.h] at hT hv h1 h2 h3
  injection hv with hv
  subst hT hv
  show SmallE finP prog (fun _ => none) 49 [.agg [.slice 1 0 g1 0 n1 none, .slice 1 1 g2 0 n2 none, .slice 1 2 g3 0 n3 none]] [some ⟨.ints .u8 a, g1, false, 5⟩, some ⟨.ints .u8 b, g2, false, 5⟩, some ⟨.ints .i64 u, g3, false, 3⟩] ((.iface 28 (.int .i64 1))) [some ⟨.ints .u8 a, g1, false, 5⟩, some ⟨.ints .u8 b, g2, false, 5⟩, some ⟨.ints .i64 u, g3, false, 3⟩]
  have h3 : ¬ RightU n1 n2 u := h3
  unfold RightU at h3
  by_cases qa : n1 = 32
  rotate_left
  · exact small_drop (small_ofP (R := nP49fa a b u g1 g2 g3 n1 n2 n3) eM1_ok hmN psN1_ok (f := 49) (fn := f49) (by kernel_rfl) rfl (nP49fa_ok (by
      simp only [allP, Con.h, eq_self, true_and, and_true, beq_iff_eq, beq_eq_false_iff_ne, ne_eq, decide_eq_true_eq, decide_eq_false_iff_not]
      omega)) nP49fa_val nP49fa_tab)
  by_cases qb : n2 = 0 ∨ n2 = 32
  rotate_left
  · exact small_drop (small_ofP (R := nP49fb a b u g1 g2 g3 n1 n2 n3) eM1_ok hmN psN1_ok (f := 49) (fn := f49) (by kernel_rfl) rfl (nP49fb_ok (by
      simp only [allP, Con.h, eq_self, true_and, and_true, beq_iff_eq, beq_eq_false_iff_ne, ne_eq, decide_eq_true_eq, decide_eq_false_iff_not]
      omega)) nP49fb_val nP49fb_tab)
  subst h1
  have h4 : ¬ RiseU u := fun h => h3 ⟨qa, qb, h⟩
  obtain ⟨k, k1, k2, k3⟩ := least (P := StepU u) h4
  have hB : AWp eM1 36 4 (.block 0 (.loop (roundOf 0 f49))) (F49 u g3 0) [some ⟨.ints .u8 a, g1, false, 5⟩, some ⟨.ints .u8 b, g2, false, 5⟩, some ⟨.ints .i64 u, g3, false, 3⟩, some ⟨.agg [.slice 1 0 g1 0 n1 none, .slice 1 1 g2 0 n2 none, .slice 1 2 g3 0 u.length none], 0, true, 47⟩] fun ex fm T => ex = .panic 28 .i64 1 ∧ T = [some ⟨.ints .u8 a, g1, false, 5⟩, some ⟨.ints .u8 b, g2, false, 5⟩, some ⟨.ints .i64 u, g3, false, 3⟩, some ⟨.agg [.slice 1 0 g1 0 n1 none, .slice 1 1 g2 0 n2 none, .slice 1 2 g3 0 u.length none], 0, true, 47⟩] :=
    AWp.roundsPan (F49 u g3) (fun _ => [some ⟨.ints .u8 a, g1, false, 5⟩, some ⟨.ints .u8 b, g2, false, 5⟩, some ⟨.ints .i64 u, g3, false, 3⟩, some ⟨.agg [.slice 1 0 g1 0 n1 none, .slice 1 1 g2 0 n2 none, .slice 1 2 g3 0 u.length none], 0, true, 47⟩]) k (fun i hi => rd49 h2 (by omega) (k3 i hi)) (rp49 k1 k2)
  have hW : AWp eM1 36 3 (bodyOf f49) (argF [.agg [.slice 1 0 g1 0 n1 none, .slice 1 1 g2 0 n2 none, .slice 1 2 g3 0 u.length none]] 0) [some ⟨.ints .u8 a, g1, false, 5⟩, some ⟨.ints .u8 b, g2, false, 5⟩, some ⟨.ints .i64 u, g3, false, 3⟩] fun ex fm T => ex = .panic 28 .i64 1 ∧ T = [some ⟨.ints .u8 a, g1, false, 5⟩, some ⟨.ints .u8 b, g2, false, 5⟩, some ⟨.ints .i64 u, g3, false, 3⟩, some ⟨.agg [.slice 1 0 g1 0 n1 none, .slice 1 1 g2 0 n2 none, .slice 1 2 g3 0 u.length none], 0, true, 47⟩] := by
    rcases qb with q2 | q2
    · refine AWp.cutN eM1_ok hmN 5 (o := nF49y a b u g1 g2 g3 n1 n2 u.length) rfl (nF49y_ok (by
        simp only [allP, Con.h, eq_self, true_and, and_true, beq_iff_eq, beq_eq_false_iff_ne, ne_eq, decide_eq_true_eq, decide_eq_false_iff_not]
        omega)) nF49y_ex ?_
      rw [nF49y_fm, nF49y_tab, split49]
      
      exact AWp.base (by decide) hB
    · refine AWp.cutN eM1_ok hmN 5 (o := nF49n a b u g1 g2 g3 n1 n2 u.length) rfl (nF49n_ok (by
        simp only [allP, Con.h, eq_self, true_and, and_true, beq_iff_eq, beq_eq_false_iff_ne, ne_eq, decide_eq_true_eq, decide_eq_false_iff_not]
        omega)) nF49n_ex ?_
      rw [nF49n_fm, nF49n_tab, split49]
      
      exact AWp.base (by decide) hB
  exact small_drop (T1 := [some ⟨.ints .u8 a, g1, false, 5⟩, some ⟨.ints .u8 b, g2, false, 5⟩, some ⟨.ints .i64 u, g3, false, 3⟩, some ⟨.agg [.slice 1 0 g1 0 n1 none, .slice 1 1 g2 0 n2 none, .slice 1 2 g3 0 u.length none], 0, true, 47⟩]) (smallP_of_awp eM1_ok (f := 49) (fn := f49) (c := bodyOf f49) (by kernel_rfl) (by kernel_rfl) (by kernel_rfl) hW)
noncomputable def nsm49p : Summary := fun args T => nsm49pc args T (xsAt T 0) (xsAt T 1) (xsAt T 2) (gAt T 0) (gAt T 1) (gAt T 2) (lenOf ((vAt args 0).get 0)) (lenOf ((vAt args 0).get 1)) (lenOf ((vAt args 0).get 2))
theorem nsm49p_ok : SmOkP prog (fun _ => none) 49 nsm49p := fun args T h => nsm49pc_ok h
noncomputable def nP49 : Summary := callR nsm49p []
theorem nP49_ok : SumOkP prog (fun _ => none) 49 nP49 := callR_okP nsm49p_ok []
end Go.Abs

set_option linter.unusedVariables false
set_option linter.unusedSimpArgs false
set_option maxRecDepth 100000
set_option maxHeartbeats 4000000
namespace Go.Abs
open Go.Proofs Go.Proofs.Try
/-! ### a parent, written -/
def puN (u : List Int) : Nat → List Int
  | 0 => []
  | i + 1 => puN u i ++ numLaw (u.getD i 0) 4
def puLaw (u : List Int) : List Int := puN u u.length
theorem puN_len (u : List Int) : ∀ i, (puN u i).length ≤ 8 * i
  | 0 => Nat.le_refl _
  | i + 1 => by
    have := puN_len u i
    have := num_len (u.getD i 0) 4
    rw [puN, List.length_append]
    omega
noncomputable def eM16 : Env := eN0 [(38, nS38), (49, nS49), (70, nS70), (72, nS72)]
theorem eM16_ok : EnvOk eM16 := envOf_ok tysN_ok (SumsOk.cons (fn := f38) nS38_ok (by kernel_rfl) (by kernel_rfl) (by kernel_rfl) (SumsOk.cons (fn := f49) nS49_ok (by kernel_rfl) (by kernel_rfl) (by kernel_rfl) (SumsOk.cons (fn := f70) nS70_ok (by kernel_rfl) (by kernel_rfl) (by kernel_rfl) (SumsOk.cons (fn := f72) nS72_ok (by kernel_rfl) (by kernel_rfl) (by kernel_rfl) trivial))))
noncomputable def psN3 : List (Nat × Summary) := [(49, nP49)]
theorem psN3_ok : PsOk prog (fun _ => none) psN3 := (PsOk.cons (fn := f49) nP49_ok (by kernel_rfl) (by kernel_rfl) (by kernel_rfl) PsOk.nil)
noncomputable def nD21 (a : List Int) (b : List Int) (u : List Int) (g1 : Nat) (g2 : Nat) (g3 : Nat) (n1 : Nat) (n2 : Nat) (n3 : Nat) (X : List Int) (gB i : Nat) : Out := trim 8 8 [1, 2, 3, 4, 12, 13, 14] (run eM16 44 ⟨8, []⟩ 400 (roundOf 0 f21) [(1, .var 3 0), (2, .nilSlice), (3, .var 4 0), (4, .var 5 0), (12, .slice 1 2 g3 0 n3 none), (13, .int .i64 (n3 : Nat)), (14, .int .i64 (i : Nat))] [some ⟨.ints .u8 a, g1, false, 5⟩, some ⟨.ints .u8 b, g2, false, 5⟩, some ⟨.ints .i64 u, g3, false, 3⟩, some ⟨.agg [.slice 1 0 g1 0 n1 none, .slice 1 1 g2 0 n2 none, .slice 1 2 g3 0 n3 none], 0, true, 47⟩, some ⟨.ints .i64 [0], 0, true, 28⟩, some ⟨.agg [.slice 1 6 gB 0 X.length none, .func (.func 70) [] [.var 7 0], .func (.func 72) [] [.var 7 0]], 0, true, 81⟩, some ⟨.ints .u8 X, gB, true, 5⟩, some ⟨.agg [.var 5 0], 0, true, 75⟩] [some true])
theorem nD21_ok {a : List Int} {b : List Int} {u : List Int} {g1 : Nat} {g2 : Nat} {g3 : Nat} {n1 : Nat} {n2 : Nat} {n3 : Nat} {X : List Int} {gB i : Nat} (h : allP [.p (decide ((↑i : Int) < (↑n3 : Int)) = true), .eqN g3 g3, .leI 0 (↑i : Int), .leI ((↑i : Int) + 1) (↑n3 : Int), .eqN g3 g3, .leN (i + 1) u.length, .eqN X.length X.length, .leN X.length 140737488000000, .rng (-9223372036854775808) ((↑i
 : Int) + 1) 9223372036854775807]) : Ok (nD21 a b u g1 g2 g3 n1 n2 n3 X gB i) := Ok.dem (fl := bitsF 16 1984) (by kernel_rfl) (by kernel_rfl) (by kernel_rfl) h
theorem nD21_ex {a : List Int} {b : List Int} {u : List Int} {g1 : Nat} {g2 : Nat} {g3 : Nat} {n1 : Nat} {n2 : Nat} {n3 : Nat} {X : List Int} {gB i : Nat} : (nD21 a b u g1 g2 g3 n1 n2 n3 X gB i).ex = .normal := by kernel_rfl
theorem nD21_fm {a : List Int} {b : List Int} {u : List Int} {g1 : Nat} {g2 : Nat} {g3 : Nat} {n1 : Nat} {n2 : Nat} {n3 : Nat} {X : List Int} {gB i : Nat} : (nD21 a b u g1 g2 g3 n1 n2 n3 X gB i).fm = [(1, .var 3 0), (2, .nilSlice), (3, .var 4 0), (4, .var 5 0), (12, .slice 1 2 g3 0 n3 none), (13, .int .i64 (↑n3 : Int)), (14, .int .i64 ((↑i : Int) + 1))] := by kernel_rfl
theorem nD21_tab {a : List Int} {b : List Int} {u : List Int} {g1 : Nat} {g2 : Nat} {g3 : Nat} {n1 : Nat} {n2 : Nat} {n3 : Nat} {X : List Int} {gB i : Nat} : (nD21 a b u g1 g2 g3 n1 n2 n3 X gB i).tab = [some ⟨.ints .u8 a, g1, false, 5⟩, some ⟨.ints .u8 b, g2, false, 5⟩, some ⟨.ints .i64 u, g3, false, 3⟩, some ⟨.agg [.slice 1 0 g1 0 n1 none, .slice 1 1 g2 0 n2 none, .slice 1 2 g3 0 n3 none], 0,
 true, 47⟩, some ⟨.ints .i64 [0], 0, true, 28⟩, some ⟨.agg [.slice 1 6 (gB + 1) 0 (X ++ numLaw (u.getD i 0) 4).length none, .func (Fn.func 70) [] [.var 7 0], .func (Fn.func 72) [] [.var 7 0]], 0, true, 81⟩, some ⟨.ints .u8 (X ++ numLaw (u.getD i 0) 4), gB + 1, true, 5⟩, some ⟨.agg [.var 5 0], 0, true, 75⟩] := by kernel_rfl
noncomputable def nE21 (a : List Int) (b : List Int) (u : List Int) (g1 : Nat) (g2 : Nat) (g3 : Nat) (n1 : Nat) (n2 : Nat) (n3 : Nat) (X : List Int) (gB i : Nat) : Out := trim 8 8 [1, 2, 3, 4, 12, 13, 14] (run eM16 44 ⟨8, []⟩ 400 (roundOf 0 f21) [(1, .var 3 0), (2, .nilSlice), (3, .var 4 0), (4, .var 5 0), (12, .slice 1 2 g3 0 n3 none), (13, .int .i64 (n3 : Nat)), (14, .int .i64 (i : Nat))] [some ⟨.ints .u8 a, g1, false, 5⟩, some ⟨.ints .u8 b, g2, false, 5⟩, some ⟨.ints .i64 u, g3, false, 3⟩, some ⟨.agg [.slice 1 0 g1 0 n1 none, .slice 1 1 g2 0 n2 none, .slice 1 2 g3 0 n3 none], 0, true, 47⟩, some ⟨.ints .i64 [0], 0, true, 28⟩, some ⟨.agg [.slice 1 6 gB 0 X.length none, .func (.func 70) [] [.var 7 0], .func (.func 72) [] [.var 7 0]], 0, true, 81⟩, some ⟨.ints .u8 X, gB, true, 5⟩, some ⟨.agg [.var 5 0], 0, true, 75⟩] [some false])
theorem nE21_ok {a : List Int} {b : List Int} {u : List Int} {g1 : Nat} {g2 : Nat} {g3 : Nat} {n1 : Nat} {n2 : Nat} {n3 : Nat} {X : List Int} {gB i : Nat} (h : allP [.p (decide ((↑i : Int) < (↑n3 : Int)) = false)]) : Ok (nE21 a b u g1 g2 g3 n1 n2 n3 X gB i) := Ok.dem (fl := [false]) (by kernel_rfl) (by kernel_rfl) (by kernel_rfl) h
theorem nE21_ex {a : List Int} {b : List Int} {u : List Int} {g1 : Nat} {g2 : Nat} {g3 : Nat} {n1 : Nat} {n2 : Nat} {n3 : Nat} {X : List Int} {gB i : Nat} : (nE21 a b u g1 g2 g3 n1 n2 n3 X gB i).ex = .exit 0 := by kernel_rfl
theorem nE21_fm {a : List Int} {b : List Int} {u : List Int} {g1 : Nat} {g2 : Nat} {g3 : Nat} {n1 : Nat} {n2 : Nat} {n3 : Nat} {X : List Int} {gB i : Nat} : (nE21 a b u g1 g2 g3 n1 n2 n3 X gB i).fm = [(1, .var 3 0), (2, .nilSlice), (3, .var 4 0), (4, .var 5 0), (12, .slice 1 2 g3 0 n3 none), (13, .int .i64 (↑n3 : Int)), (14, .int .i64 (↑i : Int))] := by kernel_rfl
theorem nE21_tab {a : List Int} {b : List Int} {u : List Int} {g1 : Nat} {g2 : Nat} {g3 : Nat} {n1 : Nat} {n2 : Nat} {n3 : Nat} {X : List Int} {gB i : Nat} : (nE21 a b u g1 g2 g3 n1 n2 n3 X gB i).tab = [some ⟨.ints .u8 a, g1, false, 5⟩, some ⟨.ints .u8 b, g2, false, 5⟩, some ⟨.ints .i64 u, g3, false, 3⟩, some ⟨.agg [.slice 1 0 g1 0 n1 none, .slice 1 1 g2 0 n2 none, .slice 1 2 g3 0 n3 none], 0,
 true, 47⟩, some ⟨.ints .i64 [0], 0, true, 28⟩, some ⟨.agg [.slice 1 6 gB 0 X.length none, .func (Fn.func 70) [] [.var 7 0], .func (Fn.func 72) [] [.var 7 0]], 0, true, 81⟩, some ⟨.ints .u8 X, gB, true, 5⟩, some ⟨.agg [.var 5 0], 0, true, 75⟩] := by kernel_rfl
theorem loop21 {a b u : List Int} {g1 g2 g3 n1 n2 : Nat} (hl : u.length ≤ 64) : To eM16 44 8 (.block 0 (.loop (roundOf 0 f21))) ([(1, .var 3 0), (2, .nilSlice), (3, .var 4 0), (4, .var 5 0), (12, .slice 1 2 g3 0 u.length none), (13, .int .i64 (u.length : Nat)), (14, .int .i64 ((0 : Nat) : Int))]) ([some ⟨.ints .u8 a, g1, false, 5⟩, some ⟨.ints .u8 b, g2, false, 5⟩, some ⟨.ints .i64 u, g3, false, 3⟩, some ⟨.agg [.slice 1 0 g1 0 n1 none, .slice 1 1 g2 0 n2 none, .slice 1 2 g3 0 u.length none], 0, true, 47⟩, some ⟨.ints .i64 [0], 0, true, 28⟩, some ⟨.agg [.slice 1 6 0 0 (puN u 0).length none, .func (.func 70) [] [.var 7 0], .func (.func 72) [] [.var 7 0]], 0, true, 81⟩, some ⟨.ints .u8 (puN u 0), 0, true, 5⟩, some ⟨.agg [.var 5 0], 0, true, 75⟩]) .normal ([(1, .var 3 0), (2, .nilSlice), (3, .var 4 0), (4, .var 5 0), (12, .slice 1 2 g3 0 u.length none), (13, .int .i64 (u.length : Nat)), (14, .int .i64 ((u.length : Nat) : Int))]) ([some ⟨.ints .u8 a, g1, false, 5⟩, some ⟨.ints .u8 b, g2, false, 5⟩, some ⟨.ints .i64 u, g3, false, 3⟩, some ⟨.agg [.slice 1 0 g1 0 n1 none, .slice 1 1 g2 0 n2 none, .slice 1 2 g3 0 u.length none], 0, true, 47⟩, some ⟨.ints .i64 [0], 0, true, 28⟩, some ⟨.agg [.slice 1 6 u.length 0 (puN u u.length).length none, .func (.func 70) [] [.var 7 0], .func (.func 72) [] [.var 7 0]], 0, true, 81⟩, some ⟨.ints .u8 (puN u u.length), u.length, true, 5⟩, some ⟨.agg [.var 5 0], 0, true, 75⟩]) := by
  refine To.rounds (fun i => [(1, .var 3 0), (2, .nilSlice), (3, .var 4 0), (4, .var 5 0), (12, .slice 1 2 g3 0 u.length none), (13, .int .i64 (u.length : Nat)), (14, .int .i64 ((i : Nat) : Int))]) (fun i => [some ⟨.ints .u8 a, g1, false, 5⟩, some ⟨.ints .u8 b, g2, false, 5⟩, some ⟨.ints .i64 u, g3, false, 3⟩, some ⟨.agg [.slice 1 0 g1 0 n1 none, .slice 1 1 g2 0 n2 none, .slice 1 2 g3 0 u.length none], 0, true, 47⟩, some ⟨.ints .i64 [0], 0, true, 28⟩, some ⟨.agg [.slice 1 6 i 0 (puN u i).length none, .func (.func 70) [] [.var 7 0], .func (.func 72) [] [.var 7 0]], 0, true, 81⟩, some ⟨.ints .u8 (puN u i), i, true, 5⟩, some ⟨.agg [.var 5 0], 0, true, 75⟩]) u.length (fun i hi => ?_) ?_
  · have hx := puN_len u i
    refine To.of (o := nD21 a b u g1 g2 g3 n1 n2 u.length (puN u i) i i) eM16_ok hmN (Nat.le_refl 8) OrcOk.nil rfl (nD21_ok (by
      simp only [allP, Con.h, eq_self, true_and, and_true, beq_iff_eq, beq_eq_false_iff_ne, ne_eq, decide_eq_true_eq, decide_eq_false_iff_not]
      omega)) nD21_ex ?_ ?_
    · rw [nD21_fm]
      rfl
    · rw [nD21_tab]
      rfl
  · exact To.of (o := nE21 a b u g1 g2 g3 n1 n2 u.length (puN u u.length) u.length u.length) eM16_ok hmN (Nat.le_refl 8) OrcOk.nil rfl (nE21_ok (by
      simp only [allP, Con.h, eq_self, true_and, and_true, beq_iff_eq, beq_eq_false_iff_ne, ne_eq, decide_eq_true_eq, decide_eq_false_iff_not]
      omega)) nE21_ex nE21_fm nE21_tab
noncomputable def g21c (vs : List AVal) (T : Tab) (a : List Int) (b : List Int) (u : List Int) (g1 : Nat) (g2 : Nat) (g3 : Nat) (n1 : Nat) (n2 : Nat) (n3 : Nat) : Out := ⟨[.tab T [some ⟨.ints .u8 a, g1, false, 5⟩, some ⟨.ints .u8 b, g2, false, 5⟩, some ⟨.ints .i64 u, g3, false, 3⟩, some ⟨.agg [.slice 1 0 g1 0 n1 none, .slice 1 1 g2 0 n2 none, .slice 1 2 g3 0 n3 none], 0, true, 47⟩, some ⟨.ints .i64 [0], 0, true, 28⟩, some ⟨.agg [.slice 1 6 0 0 0 none, .func (.func 70) [] [.var 7 0], .func (.func 72) [] [.var 7 0]], 0, true, 81⟩, some ⟨.ints .u8 [], 0, true, 5⟩, some ⟨.agg [.var 5 0], 0, true, 75⟩], .val (.tuple vs) (.tuple [.var 3 0, .nilSlice, .var 4 0, .var 5 0, .slice 1 2 g3 0 n3 none, .int .i64 (n3 : Nat), .int .i64 0]), .eqN n3 u.length, .leN n3 64], .normal, [(1, .var 3 0), (2, .nilSlice), (3, .var 4 0), (4, .var 5 0), (12, .slice 1 2 g3 0 n3 none), (13, .int .i64 (n3 : Nat)), (14, .int .i64 (n3 : Nat))], [some ⟨.ints .u8 a, g1, false, 5⟩, some ⟨.ints .u8 b, g2, false, 5⟩, some ⟨.ints .i64 u, g3, false, 3⟩, some ⟨.agg [.slice 1 0 g1 0 n1 none, .slice 1 1 g2 0 n2 none, .slice 1 2 g3 0 n3 none], 0, true, 47⟩, some ⟨.ints .i64 [0], 0, true, 28⟩, some ⟨.agg [.slice 1 6 n3 0 (puLaw u).length none, .func (.func 70) [] [.var 7 0], .func (.func 72) [] [.var 7 0]], 0, true, 81⟩, some ⟨.ints .u8 (puLaw u), n3, true, 5⟩, some ⟨.agg [.var 5 0], 0, true, 75⟩], []⟩
theorem g21c_ok {vs : List AVal} {T : Tab} {a : List Int} {b : List Int} {u : List Int} {g1 : Nat} {g2 : Nat} {g3 : Nat} {n1 : Nat} {n2 : Nat} {n3 : Nat} (h : Ok (g21c vs T a b u g1 g2 g3 n1 n2 n3)) : To eM16 44 8 (.block 0 (.loop (roundOf 0 f21))) (zipF [1, 2, 3, 4, 12, 13, 14] vs) T (g21c vs T a b u g1 g2 g3 n1 n2 n3).ex (g21c vs T a b u g1 g2 g3 n1 n2 n3).fm (g21c vs T a b u g1 g2 g3 n1 n2 n3).tab := by
  obtain ⟨hT, hv, h1, h2, _⟩ := h.h
  simp only [Con.h] at hT hv h1 h2
  injection hv with hv
  subst hT hv
  subst h1
  exact loop21 h2
noncomputable def g21 : List AVal → Tab → Out := fun vs T => g21c vs T (xsAt T 0) (xsAt T 1) (xsAt T 2) (gAt T 0) (gAt T 1) (gAt T 2) (lenOf ((dAt T 3).get 0)) (lenOf ((dAt T 3).get 1)) (lenOf ((dAt T 3).get 2))
theorem g21_ok : BlkOk eM16 f21 0 (.loop (roundOf 0 f21)) (blkS 8 [1, 2, 3, 4, 12, 13, 14] g21) := blkS_ok fun vs T h => g21c_ok h
theorem orc21 : FnOrc eM16 f21 [(0, blkS 8 [1, 2, 3, 4, 12, 13, 14] g21)] := FnOrc.cons g21_ok (by kernel_rfl) FnOrc.nil
noncomputable def nR21g (a : List Int) (b : List Int) (u : List Int) (g1 : Nat) (g2 : Nat) (g3 : Nat) (n1 : Nat) (n2 : Nat) (n3 : Nat) : Res := resG 3 [0, 1, 2, 9] (fnRunD eM16 psN3 f21 [(0, blkS 8 [1, 2, 3, 4, 12, 13, 14] g21)] 400 none 36 28 [.agg [.slice 1 0 g1 0 n1 none, .slice 1 1 g2 0 n2 none, .slice 1 2 g3 0 n3 none]] [some ⟨.ints .u8 a, g1, false, 5⟩, some ⟨.ints .u8 b, g2, false, 5⟩, some ⟨.ints .i64 u, g3, false, 3⟩] [])
theorem nR21g_ok {a : List Int} {b : List Int} {u : List Int} {g1 : Nat} {g2 : Nat} {g3 : Nat} {n1 : Nat} {n2 : Nat} {n3 : Nat} (h : allP [.eqN g1 g1, .eqN g2 g2, .eqN g3 g3, .eqN n3 u.length, .leN n3 140737488355000, .p (n1 = 32 ∧ (n2 = 0 ∨ n2 = 32) ∧ RiseU u), .eqN g3 g3, .eqN n3 u.length, .leN n3 64, .eqN g1 g1, .eqN g2 g2, .eqN n3 n3, .eqN n1 a.length, .eqN n2 b.length, .eqN (puLaw u).length
 (puLaw u).length, .leN n1 65536, .leN n2 65536, .leN (puLaw u).length 65536]) : OkR (nR21g a b u g1 g2 g3 n1 n2 n3) := OkR.dem (fl := bitsF 71 2359742212699357999107) (by kernel_rfl) (by kernel_rfl) (by kernel_rfl) h
theorem nR21g_val {a : List Int} {b : List Int} {u : List Int} {g1 : Nat} {g2 : Nat} {g3 : Nat} {n1 : Nat} {n2 : Nat} {n3 : Nat} : (nR21g a b u g1 g2 g3 n1 n2 n3).val = .tuple [.slice 1 3 1 0 ([] ++ jn3Law a b (puLaw u)).length none, .int .i64 0] := by kernel_rfl
theorem nR21g_tab {a : List Int} {b : List Int} {u : List Int} {g1 : Nat} {g2 : Nat} {g3 : Nat} {n1 : Nat} {n2 : Nat} {n3 : Nat} : (nR21g a b u g1 g2 g3 n1 n2 n3).tab = [some ⟨.ints .u8 a, g1, false, 5⟩, some ⟨.ints .u8 b, g2, false, 5⟩, some ⟨.ints .i64 u, g3, false, 3⟩, some ⟨.ints .u8 ([] ++ jn3Law a b (puLaw u)), 1, true, 5⟩] := by kernel_rfl
noncomputable def nR21b (a : List Int) (b : List Int) (u : List Int) (g1 : Nat) (g2 : Nat) (g3 : Nat) (n1 : Nat) (n2 : Nat) (n3 : Nat) : Res := resG 3 [0, 1, 2] (fnRunD eM16 psN3 f21 [] 400 (some 0) 36 28 [.agg [.slice 1 0 g1 0 n1 none, .slice 1 1 g2 0 n2 none, .slice 1 2 g3 0 n3 none]] [some ⟨.ints .u8 a, g1, false, 5⟩, some ⟨.ints .u8 b, g2, false, 5⟩, some ⟨.ints .i64 u, g3, false, 3⟩] [])
theorem nR21b_ok {a : List Int} {b : List Int} {u : List Int} {g1 : Nat} {g2 : Nat} {g3 : Nat} {n1 : Nat} {n2 : Nat} {n3 : Nat} (h : allP [.eqN g1 g1, .eqN g2 g2, .eqN g3 g3, .eqN n3 u.length, .leN n3 140737488355000, .p ¬(n1 = 32 ∧ (n2 = 0 ∨ n2 = 32) ∧ RiseU u)]) : OkR (nR21b a b u g1 g2 g3 n1 n2 n3) := OkR.dem (fl := bitsF 16 64515) (by kernel_rfl) (by kernel_rfl) (by kernel_rfl) h
theorem nR21b_val {a : List Int} {b : List Int} {u : List Int} {g1 : Nat} {g2 : Nat} {g3 : Nat} {n1 : Nat} {n2 : Nat} {n3 : Nat} : (nR21b a b u g1 g2 g3 n1 n2 n3).val = .tuple [.nilSlice, .int .i64 1] := by kernel_rfl
theorem nR21b_tab {a : List Int} {b : List Int} {u : List Int} {g1 : Nat} {g2 : Nat} {g3 : Nat} {n1 : Nat} {n2 : Nat} {n3 : Nat} : (nR21b a b u g1 g2 g3 n1 n2 n3).tab = [some ⟨.ints .u8 a, g1, false, 5⟩, some ⟨.ints .u8 b, g2, false, 5⟩, some ⟨.ints .i64 u, g3, false, 3⟩] := by kernel_rfl
def RightPa (a b u : List Int) : Prop := RightU a.length b.length u
instance (a b u : List Int) : Decidable (RightPa a b u) := by unfold RightPa; exact inferInstance
def ppBLaw (a b u : List Int) : List Int := if RightPa a b u then jn3Law a b (puLaw u) else []
def ppELaw (a b u : List Int) : Int := if RightPa a b u then 0 else 1
def ppGLaw (a b u : List Int) : Nat := if RightPa a b u then 1 else 0
theorem pp_in {a b u : List Int} (h : RightPa a b u) : ppBLaw a b u = jn3Law a b (puLaw u) ∧ ppELaw a b u = 0 ∧ ppGLaw a b u = 1 := ⟨if_pos h, if_pos h, if_pos h⟩
theorem pp_out {a b u : List Int} (h : ¬ RightPa a b u) : ppBLaw a b u = [] ∧ ppELaw a b u = 1 ∧ ppGLaw a b u = 0 := ⟨if_neg h, if_neg h, if_neg h⟩
noncomputable def nsm21c (args : List AVal) (T : Tab) (a : List Int) (b : List Int) (u : List Int) (g1 : Nat) (g2 : Nat) (g3 : Nat) (n1 : Nat) (n2 : Nat) (n3 : Nat) : Res := ⟨[.tab T [some ⟨.ints .u8 a, g1, false, 5⟩, some ⟨.ints .u8 b, g2, false, 5⟩, some ⟨.ints .i64 u, g3, false, 3⟩], .val (.tuple args) (.tuple [.agg [.slice 1 0 g1 0 n1 none, .slice 1 1 g2 0 n2 none, .slice 1 2 g3 0 n3 none]]), .eqN n1 a.length, .eqN n2 b.length, .eqN n3 u.length, .leN n3 140737488355000], .tuple [.slice 1 3 (ppGLaw a b u) 0 (ppBLaw a b u).length none, .int .i64 (ppELaw a b u)], [some ⟨.ints .u8 a, g1, false, 5⟩, some ⟨.ints .u8 b, g2, false, 5⟩, some ⟨.ints .i64 u, g3, false, 3⟩, some ⟨.ints .u8 (ppBLaw a b u), (ppGLaw a b u), true, 5⟩]⟩
theorem nsm21c_ok {args : List AVal} {T : Tab} {a : List Int} {b : List Int} {u : List Int} {g1 : Nat} {g2 : Nat} {g3 : Nat} {n1 : Nat} {n2 : Nat} {n3 : Nat} (h : allP (nsm21c args T a b u g1 g2 g3 n1 n2 n3).cs) : Small prog (fun _ => none) 21 args T (nsm21c args T a b u g1 g2 g3 n1 n2 n3).val (nsm21c args T a b u g1 g2 g3 n1 n2 n3).tab := by
  obtain ⟨hT, hv, h1, h2, h3, h4, _⟩ := h
  simp only [Con.h] at hT hv h1 h2 h3 h4
  injection hv with hv
  subst hT hv
  show Small prog (fun _ => none) 21 [.agg [.slice 1 0 g1 0 n1 none, .slice 1 1 g2 0 n2 none, .slice 1 2 g3 0 n3 none]] [some ⟨.ints .u8 a, g1, false, 5⟩, some ⟨.ints .u8 b, g2, false, 5⟩, some ⟨.ints .i64 u, g3, false, 3⟩] (.tuple [.slice 1 3 (ppGLaw a b u) 0 (ppBLaw a b u).length none, .int .i64 (ppELaw a b u)]) [some ⟨.ints .u8 a, g1, false, 5⟩, some ⟨.ints .u8 b, g2, false, 5⟩, some ⟨.ints .i64 u, g3, false, 3⟩, some ⟨.ints .u8 (ppBLaw a b u), (ppGLaw a b u), true, 5⟩]
  subst h1 h2 h3
  by_cases hR : RightPa a b u
  · rw [(pp_in hR).1, (pp_in hR).2.1, (pp_in hR).2.2]
    have hR' := hR
    obtain ⟨q1, q2, q3⟩ := hR'
    have hl := rise_len q3
    have hp : (puLaw u).length ≤ 8 * u.length := puN_len u u.length
    refine small_ofDG (R := nR21g a b u g1 g2 g3 a.length b.length u.length) eM16_ok hmN psN3_ok (f := 21) (fn := f21) (by kernel_rfl) (by kernel_rfl) orc21 (gfn := f36) (by kernel_rfl) (by kernel_rfl) (by kernel_rfl) caughtN rfl (nR21g_ok ?_) ?_ ?_
    · simp only [allP, Con.h, eq_self, true_and, and_true, beq_iff_eq, beq_eq_false_iff_ne, ne_eq, decide_eq_true_eq, decide_eq_false_iff_not, List.nil_append, List.take_length]
      exact ⟨by omega, ⟨q1, q2, q3⟩, by omega, by omega, by omega, by omega⟩
    · rw [nR21g_val, List.nil_append]
    · rw [nR21g_tab, List.nil_append]
  · rw [(pp_out hR).1, (pp_out hR).2.1, (pp_out hR).2.2]
    exact small_nil2 .u8 5 (.inr rfl) (small_ofDG (R := nR21b a b u g1 g2 g3 a.length b.length u.length) eM16_ok hmN psN3_ok (f := 21) (fn := f21) (by kernel_rfl) (by kernel_rfl) FnOrc.nil (gfn := f36) (by kernel_rfl) (by kernel_rfl) (by kernel_rfl) caughtN rfl (nR21b_ok (by
      simp only [allP, Con.h, eq_self, true_and, and_true, beq_iff_eq, beq_eq_false_iff_ne, ne_eq, decide_eq_true_eq, decide_eq_false_iff_not]
      exact ⟨h4, hR⟩)) nR21b_val nR21b_tab) (by simp)
noncomputable def nsm21 : Summary := fun args T => nsm21c args T (xsAt T 0) (xsAt T 1) (xsAt T 2) (gAt T 0) (gAt T 1) (gAt T 2) (lenOf ((vAt args 0).get 0)) (lenOf ((vAt args 0).get 1)) (lenOf ((vAt args 0).get 2))
theorem nsm21_ok : SmOk prog (fun _ => none) 21 nsm21 := fun args T h => nsm21c_ok h
noncomputable def nS21 : Summary := callR nsm21 []
theorem nS21_ok : SumOk prog (fun _ => none) 21 nS21 := callR_ok nsm21_ok _
end Go.Abs
