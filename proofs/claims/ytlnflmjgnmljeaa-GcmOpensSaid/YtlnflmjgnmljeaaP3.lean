/- What functions of the given program come to, by the abstract machine: texts of a proof. -/
import Derived.Test.YtlnflmjgnmljeaaP2
import Derived.Test.YtlnflmjgnmljeaaAbs2
import Derived.Test.YtlnflmjgnmljeaaP1
import Derived.Test.YtlnflmjgnmljeaaP0
set_option linter.unusedVariables false
set_option linter.unusedSimpArgs false
set_option maxRecDepth 8000
namespace Go.Abs
open Go.Proofs.Try
/-! ### what the program offers: Times, Hash, Seal, Open -/
noncomputable def sm63 : Summary := fun args T => match lenOf (vAt args 1) with
  | 1 => sm63a args T
  | _ => sm63c args T
theorem sm63_ok : SmOk prog (fun _ => none) 63 sm63 := fun args T h => by
  unfold sm63 at h ⊢
  split at h
  · exact sm63a_ok args T h
  · exact sm63c_ok args T h
noncomputable def S63 : Summary := callR sm63 []
theorem S63_ok : SumOk prog (fun _ => none) 63 S63 := callR_ok sm63_ok []
noncomputable def S58 : Summary := sumI modeO (eA []) f58 [] 100 [] []
theorem S58_ok : SumOk prog (fun _ => none) 58 S58 := sumI_ok eA0_ok hmA (fn := f58) (by kernel_rfl) (by kernel_rfl) [] FnOrc.nil 100 [] []
noncomputable def eGp : Env := eA [(54, S54), (55, S55), (59, S59), (60, S60), (61, S61), (63, S63), (58, S58)]
theorem eGp_ok : EnvOk eGp := envOf_ok tysA_ok (SumsOk.cons (fn := f54) S54_ok (by kernel_rfl) (by kernel_rfl) (by kernel_rfl) (SumsOk.cons (fn := f55) S55_ok (by kernel_rfl) (by kernel_rfl) (by kernel_rfl) (SumsOk.cons (fn := f59) S59_ok (by kernel_rfl) (by kernel_rfl) (by kernel_rfl) (SumsOk.cons (fn := f60) S60_ok (by kernel_rfl) (by kernel_rfl) (by kernel_rfl) (SumsOk.cons (fn := f61) S61_ok (by kernel_rfl) (by kernel_rfl) (by kernel_rfl) (SumsOk.cons (fn := f63) S63_ok (by kernel_rfl) (by kernel_rfl) (by kernel_rfl) (SumsOk.cons (fn := f58) S58_ok (by kernel_rfl) (by kernel_rfl) (by kernel_rfl) trivial)))))))
noncomputable def R28A (zs ns : List Int) (gk gn : Nat) (cpk cpn : Option Nat) (ms ts : List Int) (gm gt n m : Nat) : Res := resG 4 [0,1,2,3,5] (runF eGp f28 [] 400 [.slice 1 0 gk 0 16 cpk, .slice 1 1 gn 0 12 cpn, .slice 1 2 gm 0 m none, .slice 1 3 gt 0 n none] [some ⟨.ints .u8 zs, gk, false, 5⟩, some ⟨.ints .u8 ns, gn, false, 5⟩, some ⟨.ints .u8 ms, gm, false, 5⟩, some ⟨.ints .u8 ts, gt, false, 5⟩] [some false, some false, some false, some false])
theorem R28A_ok {zs ns : List Int} {gk gn : Nat} {cpk cpn : Option Nat} {ms ts : List Int} {gm gt n m : Nat} (h : allP [.eqN gk gk, .p (false = false), .eqN gn gn, .p (false = false), .eqN gm gm, .p (decide (65536 < (↑m : Int)) = false), .eqN gt gt, .p (decide (65536 < (↑n : Int)) = false), .eqN gk gk, .eqN gn gn, .eqN gt gt, .leN 16 zs.length, .leN 12 ns.length, .p (Bytes zs), .p (Bytes ns), .leN
 n ts.length, .leN n 140737488352000, .p (Bytes ts), .eqN gk gk, .eqN gn gn, .eqN gm gm, .leN 16 zs.length, .leN 12 ns.length, .p (Bytes zs), .p (Bytes ns), .leN m ms.length, .leN m 140737488352000, .p (Bytes ms), .leN n (turnLaw (subLaw zs 0 16) (subLaw ns 0 12) (subLaw ts 0 n)).length, .leN n 140737488352000, .p (Bytes (turnLaw (subLaw zs 0 16) (subLaw ns 0 12) (subLaw ts 0 n))), .leN (0 + n)
 (turnLaw (subLaw zs 0 16) (subLaw ns 0 12) (subLaw ts 0 n)).length, .leN (addO n 16) 140737488355328]) : OkR (R28A zs ns gk gn cpk cpn ms ts gm gt n m) := OkR.dem (fl := bitsF 54 16044111253733120) (by kernel_rfl) (by kernel_rfl) (by kernel_rfl) h
theorem R28A_val {zs ns : List Int} {gk gn : Nat} {cpk cpn : Option Nat} {ms ts : List Int} {gm gt n m : Nat} : (R28A zs ns gk gn cpk cpn ms ts gm gt n m).val = .tuple [.slice 1 4 2 0 (addO n 16) none, .int .i64 0] := by kernel_rfl
theorem R28A_tab {zs ns : List Int} {gk gn : Nat} {cpk cpn : Option Nat} {ms ts : List Int} {gm gt n m : Nat} : (R28A zs ns gk gn cpk cpn ms ts gm gt n m).tab = [some ⟨.ints .u8 zs, gk, false, 5⟩, some ⟨.ints .u8 ns, gn, false, 5⟩, some ⟨.ints .u8 ms, gm, false, 5⟩, some ⟨.ints .u8 ts, gt, false, 5⟩, some ⟨.ints .u8 (List.take n (turnLaw (subLaw zs 0 16) (subLaw ns 0 12) (subLaw ts 0 n)) ++
 List.take 16 (tagLaw (subLaw zs 0 16) (subLaw ns 0 12) ms m (turnLaw (subLaw zs 0 16) (subLaw ns 0 12) (subLaw ts 0 n)) n)), 2, true, 5⟩] := by kernel_rfl
noncomputable def R28B (zs ns : List Int) (gk gn : Nat) (cpk cpn : Option Nat) (ts : List Int) (gt n : Nat) : Res := resG 4 [0,1,2,3,5] (runF eGp f28 [] 400 [.slice 1 0 gk 0 16 cpk, .slice 1 1 gn 0 12 cpn, .slice 1 3 0 0 0 none, .slice 1 2 gt 0 n none] [some ⟨.ints .u8 zs, gk, false, 5⟩, some ⟨.ints .u8 ns, gn, false, 5⟩, some ⟨.ints .u8 ts, gt, false, 5⟩, some ⟨.ints .u8 [], 0, true, 5⟩] [some false, some false, none, some false])
theorem R28B_ok {zs ns : List Int} {gk gn : Nat} {cpk cpn : Option Nat} {ts : List Int} {gt n : Nat} (h : allP [.eqN gk gk, .p (false = false), .eqN gn gn, .p (false = false), .eqN gt gt, .p (decide (65536 < (↑n : Int)) = false), .eqN gk gk, .eqN gn gn, .eqN gt gt, .leN 16 zs.length, .leN 12 ns.length, .p (Bytes zs), .p (Bytes ns), .leN n ts.length, .leN n 140737488352000, .p (Bytes ts), .eqN gk
 gk, .eqN gn gn, .leN 16 zs.length, .leN 12 ns.length, .p (Bytes zs), .p (Bytes ns), .p (Bytes []), .leN n (turnLaw (subLaw zs 0 16) (subLaw ns 0 12) (subLaw ts 0 n)).length, .leN n 140737488352000, .p (Bytes (turnLaw (subLaw zs 0 16) (subLaw ns 0 12) (subLaw ts 0 n))), .leN (0 + n) (turnLaw (subLaw zs 0 16) (subLaw ns 0 12) (subLaw ts 0 n)).length, .leN (addO n 16) 140737488355328]) : OkR (R28B zs
 ns gk gn cpk cpn ts gt n) := OkR.dem (fl := bitsF 53 8028661286567824) (by kernel_rfl) (by kernel_rfl) (by kernel_rfl) h
theorem R28B_val {zs ns : List Int} {gk gn : Nat} {cpk cpn : Option Nat} {ts : List Int} {gt n : Nat} : (R28B zs ns gk gn cpk cpn ts gt n).val = .tuple [.slice 1 4 2 0 (addO n 16) none, .int .i64 0] := by kernel_rfl
theorem R28B_tab {zs ns : List Int} {gk gn : Nat} {cpk cpn : Option Nat} {ts : List Int} {gt n : Nat} : (R28B zs ns gk gn cpk cpn ts gt n).tab = [some ⟨.ints .u8 zs, gk, false, 5⟩, some ⟨.ints .u8 ns, gn, false, 5⟩, some ⟨.ints .u8 ts, gt, false, 5⟩, some ⟨.ints .u8 [], 0, true, 5⟩, some ⟨.ints .u8 (List.take n (turnLaw (subLaw zs 0 16) (subLaw ns 0 12) (subLaw ts 0 n)) ++ List.take 16 (tagLaw
 (subLaw zs 0 16) (subLaw ns 0 12) [] 0 (turnLaw (subLaw zs 0 16) (subLaw ns 0 12) (subLaw ts 0 n)) n)), 2, true, 5⟩] := by kernel_rfl
noncomputable def R28C (zs ns : List Int) (gk gn : Nat) (cpk cpn : Option Nat) : Res := resG 3 [0,1,2,4] (runF eGp f28 [] 400 [.slice 1 0 gk 0 16 cpk, .slice 1 1 gn 0 12 cpn, .slice 1 2 0 0 0 none, .slice 1 2 0 0 0 none] [some ⟨.ints .u8 zs, gk, false, 5⟩, some ⟨.ints .u8 ns, gn, false, 5⟩, some ⟨.ints .u8 [], 0, true, 5⟩] [some false, some false])
theorem R28C_ok {zs ns : List Int} {gk gn : Nat} {cpk cpn : Option Nat} (h : allP [.eqN gk gk, .p (false = false), .eqN gn gn, .p (false = false), .eqN gk gk, .eqN gn gn, .leN 16 zs.length, .leN 12 ns.length, .p (Bytes zs), .p (Bytes ns), .p (Bytes []), .eqN gk gk, .eqN gn gn, .leN 16 zs.length, .leN 12 ns.length, .p (Bytes zs), .p (Bytes ns), .p (Bytes []), .p (Bytes (turnLaw (subLaw zs 0 16)
 (subLaw ns 0 12) (subLaw [] 0 0)))]) : OkR (R28C zs ns gk gn cpk cpn) := OkR.dem (fl := bitsF 52 4462931488342000) (by kernel_rfl) (by kernel_rfl) (by kernel_rfl) h
theorem R28C_val {zs ns : List Int} {gk gn : Nat} {cpk cpn : Option Nat} : (R28C zs ns gk gn cpk cpn).val = .tuple [.slice 1 3 2 0 16 none, .int .i64 0] := by kernel_rfl
theorem R28C_tab {zs ns : List Int} {gk gn : Nat} {cpk cpn : Option Nat} : (R28C zs ns gk gn cpk cpn).tab = [some ⟨.ints .u8 zs, gk, false, 5⟩, some ⟨.ints .u8 ns, gn, false, 5⟩, some ⟨.ints .u8 [], 0, true, 5⟩, some ⟨.ints .u8 (List.take 0 (turnLaw (subLaw zs 0 16) (subLaw ns 0 12) (subLaw [] 0 0)) ++ List.take 16 (tagLaw (subLaw zs 0 16) (subLaw ns 0 12) [] 0 (turnLaw (subLaw zs 0 16) (subLaw ns
 0 12) (subLaw [] 0 0)) 0)), 2, true, 5⟩] := by kernel_rfl
noncomputable def R32A (zs ns : List Int) (gk gn : Nat) (cpk cpn : Option Nat) (ms ts : List Int) (gm gt n m : Nat) : Res := resG 4 [0,1,2,3,6] (runF eGp f32 [] 400 [.slice 1 0 gk 0 16 cpk, .slice 1 1 gn 0 12 cpn, .slice 1 2 gm 0 m none, .slice 1 3 gt 0 n none] [some ⟨.ints .u8 zs, gk, false, 5⟩, some ⟨.ints .u8 ns, gn, false, 5⟩, some ⟨.ints .u8 ms, gm, false, 5⟩, some ⟨.ints .u8 ts, gt, false, 5⟩] [some false, some false, some false, some false, some false, some true])
theorem R32A_ok {zs ns : List Int} {gk gn : Nat} {cpk cpn : Option Nat} {ms ts : List Int} {gm gt n m : Nat} (h : allP [.eqN gk gk, .p (false = false), .eqN gn gn, .p (false = false), .eqN gm gm, .p (decide (65536 < (↑m : Int)) = false), .eqN gt gt, .p (decide (65552 < (↑n : Int)) = false), .eqN gt gt, .p (decide ((↑n : Int) < 16) = false), .eqN gt gt, .rng (-9223372036854775808) ((↑n : Int) - 16)
 9223372036854775807, .leI 0 ((↑n : Int) - 16), .eqN gt gt, .leN 0 ((↑n : Int) - 16).toNat, .orN ((↑n : Int) - 16).toNat n (0 + ((↑n : Int) - 16).toNat) ts.length, .eqN gt gt, .rng (-9223372036854775808) ((↑n : Int) - 16) 9223372036854775807, .leI 0 ((↑n : Int) - 16), .eqN gt gt, .leN ((↑n : Int) - 16).toNat n, .eqN gk gk, .eqN gn gn, .eqN gm gm, .eqN gt gt, .leN 16 zs.length, .leN 12 ns.length, .p
 (Bytes zs), .p (Bytes ns), .leN m ms.length, .leN m 140737488352000, .p (Bytes ms), .leN ((↑n : Int) - 16).toNat ts.length, .leN ((↑n : Int) - 16).toNat 140737488352000, .p (Bytes ts), .eqN gt gt, .eqN gt gt, .leN (((↑n : Int) - 16).toNat + subO n ((↑n : Int) - 16).toNat) ts.length, .p ((List.map byteOf (List.take 16 (tagLaw (subLaw zs 0 16) (subLaw ns 0 12) ms m ts ((↑n : Int) - 16).toNat)) ==
 List.map byteOf (List.take (subO n ((↑n : Int) - 16).toNat) (dropO ((↑n : Int) - 16).toNat ts))) = true), .eqN gk gk, .eqN gn gn, .eqN gt gt, .leN 16 zs.length, .leN 12 ns.length, .p (Bytes zs), .p (Bytes ns), .leN ((↑n : Int) - 16).toNat ts.length, .leN ((↑n : Int) - 16).toNat 140737488352000, .p (Bytes ts)]) : OkR (R32A zs ns gk gn cpk cpn ms ts gm gt n m) := OkR.dem (fl := bitsF 69
 111745568975617024) (by kernel_rfl) (by kernel_rfl) (by kernel_rfl) h
theorem R32A_val {zs ns : List Int} {gk gn : Nat} {cpk cpn : Option Nat} {ms ts : List Int} {gm gt n m : Nat} : (R32A zs ns gk gn cpk cpn ms ts gm gt n m).val = .tuple [.slice 1 4 1 0 ((↑n : Int) - 16).toNat none, .int .i64 0] := by kernel_rfl
theorem R32A_tab {zs ns : List Int} {gk gn : Nat} {cpk cpn : Option Nat} {ms ts : List Int} {gm gt n m : Nat} : (R32A zs ns gk gn cpk cpn ms ts gm gt n m).tab = [some ⟨.ints .u8 zs, gk, false, 5⟩, some ⟨.ints .u8 ns, gn, false, 5⟩, some ⟨.ints .u8 ms, gm, false, 5⟩, some ⟨.ints .u8 ts, gt, false, 5⟩, some ⟨.ints .u8 (turnLaw (subLaw zs 0 16) (subLaw ns 0 12) (subLaw ts 0 ((↑n : Int) - 16).toNat)),
 1, true, 5⟩] := by kernel_rfl
noncomputable def R32X (zs ns : List Int) (gk gn : Nat) (cpk cpn : Option Nat) (ms ts : List Int) (gm gt n m : Nat) : Res := resG 4 [0,1,2,3] (runF eGp f32 [] 400 [.slice 1 0 gk 0 16 cpk, .slice 1 1 gn 0 12 cpn, .slice 1 2 gm 0 m none, .slice 1 3 gt 0 n none] [some ⟨.ints .u8 zs, gk, false, 5⟩, some ⟨.ints .u8 ns, gn, false, 5⟩, some ⟨.ints .u8 ms, gm, false, 5⟩, some ⟨.ints .u8 ts, gt, false, 5⟩] [some false, some false, some false, some false, some false, some false])
theorem R32X_ok {zs ns : List Int} {gk gn : Nat} {cpk cpn : Option Nat} {ms ts : List Int} {gm gt n m : Nat} (h : allP [.eqN gk gk, .p (false = false), .eqN gn gn, .p (false = false), .eqN gm gm, .p (decide (65536 < (↑m : Int)) = false), .eqN gt gt, .p (decide (65552 < (↑n : Int)) = false), .eqN gt gt, .p (decide ((↑n : Int) < 16) = false), .eqN gt gt, .rng (-9223372036854775808) ((↑n : Int) - 16)
 9223372036854775807, .leI 0 ((↑n : Int) - 16), .eqN gt gt, .leN 0 ((↑n : Int) - 16).toNat, .orN ((↑n : Int) - 16).toNat n (0 + ((↑n : Int) - 16).toNat) ts.length, .eqN gt gt, .rng (-9223372036854775808) ((↑n : Int) - 16) 9223372036854775807, .leI 0 ((↑n : Int) - 16), .eqN gt gt, .leN ((↑n : Int) - 16).toNat n, .eqN gk gk, .eqN gn gn, .eqN gm gm, .eqN gt gt, .leN 16 zs.length, .leN 12 ns.length, .p
 (Bytes zs), .p (Bytes ns), .leN m ms.length, .leN m 140737488352000, .p (Bytes ms), .leN ((↑n : Int) - 16).toNat ts.length, .leN ((↑n : Int) - 16).toNat 140737488352000, .p (Bytes ts), .eqN gt gt, .eqN gt gt, .leN (((↑n : Int) - 16).toNat + subO n ((↑n : Int) - 16).toNat) ts.length, .p ((List.map byteOf (List.take 16 (tagLaw (subLaw zs 0 16) (subLaw ns 0 12) ms m ts ((↑n : Int) - 16).toNat)) ==
 List.map byteOf (List.take (subO n ((↑n : Int) - 16).toNat) (dropO ((↑n : Int) - 16).toNat ts))) = false)]) : OkR (R32X zs ns gk gn cpk cpn ms ts gm gt n m) := OkR.dem (fl := bitsF 55 3659177918725120) (by kernel_rfl) (by kernel_rfl) (by kernel_rfl) h
theorem R32X_val {zs ns : List Int} {gk gn : Nat} {cpk cpn : Option Nat} {ms ts : List Int} {gm gt n m : Nat} : (R32X zs ns gk gn cpk cpn ms ts gm gt n m).val = .tuple [.nilSlice, .int .i64 32] := by kernel_rfl
theorem R32X_tab {zs ns : List Int} {gk gn : Nat} {cpk cpn : Option Nat} {ms ts : List Int} {gm gt n m : Nat} : (R32X zs ns gk gn cpk cpn ms ts gm gt n m).tab = [some ⟨.ints .u8 zs, gk, false, 5⟩, some ⟨.ints .u8 ns, gn, false, 5⟩, some ⟨.ints .u8 ms, gm, false, 5⟩, some ⟨.ints .u8 ts, gt, false, 5⟩] := by kernel_rfl
noncomputable def R32C (zs ns : List Int) (gk gn : Nat) (cpk cpn : Option Nat) (ts t2 : List Int) (gt n : Nat) : Res := resG 5 [0,1,2,3,4] (runF eGp f32 [] 400 [.slice 1 0 gk 0 16 cpk, .slice 1 1 gn 0 12 cpn, .slice 1 3 0 0 0 none, .slice 1 4 gt 0 n none] [some ⟨.ints .u8 zs, gk, false, 5⟩, some ⟨.ints .u8 ns, gn, false, 5⟩, some ⟨.ints .u8 ts, gt, false, 5⟩, some ⟨.ints .u8 [], 0, true, 5⟩, some ⟨.ints .u8 t2, gt, false, 5⟩] [some false, some false, none, some false, some false, some false])
theorem R32C_ok {zs ns : List Int} {gk gn : Nat} {cpk cpn : Option Nat} {ts t2 : List Int} {gt n : Nat} (h : allP [.eqN gk gk, .p (false = false), .eqN gn gn, .p (false = false), .eqN gt gt, .p (decide (65552 < (↑n : Int)) = false), .eqN gt gt, .p (decide ((↑n : Int) < 16) = false), .eqN gt gt, .rng (-9223372036854775808) ((↑n : Int) - 16) 9223372036854775807, .leI 0 ((↑n : Int) - 16), .eqN gt gt,
 .leN 0 ((↑n : Int) - 16).toNat, .orN ((↑n : Int) - 16).toNat n (0 + ((↑n : Int) - 16).toNat) t2.length, .eqN gt gt, .rng (-9223372036854775808) ((↑n : Int) - 16) 9223372036854775807, .leI 0 ((↑n : Int) - 16), .eqN gt gt, .leN ((↑n : Int) - 16).toNat n, .eqN gk gk, .eqN gn gn, .eqN gt gt, .leN 16 zs.length, .leN 12 ns.length, .p (Bytes zs), .p (Bytes ns), .p (Bytes []), .leN ((↑n : Int) - 16).toNat
 t2.length, .leN ((↑n : Int) - 16).toNat 140737488352000, .p (Bytes t2), .eqN gt gt, .eqN gt gt, .leN (((↑n : Int) - 16).toNat + subO n ((↑n : Int) - 16).toNat) t2.length, .p ((List.map byteOf (List.take 16 (tagLaw (subLaw zs 0 16) (subLaw ns 0 12) [] 0 t2 ((↑n : Int) - 16).toNat)) == List.map byteOf (List.take (subO n ((↑n : Int) - 16).toNat) (dropO ((↑n : Int) - 16).toNat t2))) = false)]) : OkR
 (R32C zs ns gk gn cpk cpn ts t2 gt n) := OkR.dem (fl := bitsF 54 1836194619063824) (by kernel_rfl) (by kernel_rfl) (by kernel_rfl) h
theorem R32C_val {zs ns : List Int} {gk gn : Nat} {cpk cpn : Option Nat} {ts t2 : List Int} {gt n : Nat} : (R32C zs ns gk gn cpk cpn ts t2 gt n).val = .tuple [.nilSlice, .int .i64 32] := by kernel_rfl
theorem R32C_tab {zs ns : List Int} {gk gn : Nat} {cpk cpn : Option Nat} {ts t2 : List Int} {gt n : Nat} : (R32C zs ns gk gn cpk cpn ts t2 gt n).tab = [some ⟨.ints .u8 zs, gk, false, 5⟩, some ⟨.ints .u8 ns, gn, false, 5⟩, some ⟨.ints .u8 ts, gt, false, 5⟩, some ⟨.ints .u8 [], 0, true, 5⟩, some ⟨.ints .u8 t2, gt, false, 5⟩] := by kernel_rfl
noncomputable def R32s (zs ns : List Int) (gk gn : Nat) (cpk cpn : Option Nat) (ms ts : List Int) (gm gt n m : Nat) : Res := resG 4 [0,1,2,3] (runF eGp f32 [] 400 [.slice 1 0 gk 0 16 cpk, .slice 1 1 gn 0 12 cpn, .slice 1 2 gm 0 m none, .slice 1 3 gt 0 n none] [some ⟨.ints .u8 zs, gk, false, 5⟩, some ⟨.ints .u8 ns, gn, false, 5⟩, some ⟨.ints .u8 ms, gm, false, 5⟩, some ⟨.ints .u8 ts, gt, false, 5⟩] [some false, some false, some false, some false, some true])
theorem R32s_ok {zs ns : List Int} {gk gn : Nat} {cpk cpn : Option Nat} {ms ts : List Int} {gm gt n m : Nat} (h : allP [.eqN gk gk, .p (false = false), .eqN gn gn, .p (false = false), .eqN gm gm, .p (decide (65536 < (↑m : Int)) = false), .eqN gt gt, .p (decide (65552 < (↑n : Int)) = false), .eqN gt gt, .p (decide ((↑n : Int) < 16) = true)]) : OkR (R32s zs ns gk gn cpk cpn ms ts gm gt n m) :=
 OkR.dem (fl := [false, false, false, false, false, false, false, false, false, false]) (by kernel_rfl) (by kernel_rfl) (by kernel_rfl) h
theorem R32s_val {zs ns : List Int} {gk gn : Nat} {cpk cpn : Option Nat} {ms ts : List Int} {gm gt n m : Nat} : (R32s zs ns gk gn cpk cpn ms ts gm gt n m).val = .tuple [.nilSlice, .int .i64 32] := by kernel_rfl
theorem R32s_tab {zs ns : List Int} {gk gn : Nat} {cpk cpn : Option Nat} {ms ts : List Int} {gm gt n m : Nat} : (R32s zs ns gk gn cpk cpn ms ts gm gt n m).tab = [some ⟨.ints .u8 zs, gk, false, 5⟩, some ⟨.ints .u8 ns, gn, false, 5⟩, some ⟨.ints .u8 ms, gm, false, 5⟩, some ⟨.ints .u8 ts, gt, false, 5⟩] := by kernel_rfl
noncomputable def R32k (zs ns : List Int) (gk gn : Nat) (cpk cpn : Option Nat) (ms ts : List Int) (gm gt n m : Nat) (nk nn : Nat) : Res := resG 4 [0,1,2,3] (runF eGp f32 [] 400 [.slice 1 0 gk 0 nk cpk, .slice 1 1 gn 0 nn cpn, .slice 1 2 gm 0 m none, .slice 1 3 gt 0 n none] [some ⟨.ints .u8 zs, gk, false, 5⟩, some ⟨.ints .u8 ns, gn, false, 5⟩, some ⟨.ints .u8 ms, gm, false, 5⟩, some ⟨.ints .u8 ts, gt, false, 5⟩] [some true])
theorem R32k_ok {zs ns : List Int} {gk gn : Nat} {cpk cpn : Option Nat} {ms ts : List Int} {gm gt n m : Nat} {nk nn : Nat} (h : allP [.eqN gk gk, .p (((↑nk : Int) != 16) = true)]) : OkR (R32k zs ns gk gn cpk cpn ms ts gm gt n m nk nn) := OkR.dem (fl := [false, false]) (by kernel_rfl) (by kernel_rfl) (by kernel_rfl) h
theorem R32k_val {zs ns : List Int} {gk gn : Nat} {cpk cpn : Option Nat} {ms ts : List Int} {gm gt n m : Nat} {nk nn : Nat} : (R32k zs ns gk gn cpk cpn ms ts gm gt n m nk nn).val = .tuple [.nilSlice, .int .i64 1] := by kernel_rfl
theorem R32k_tab {zs ns : List Int} {gk gn : Nat} {cpk cpn : Option Nat} {ms ts : List Int} {gm gt n m : Nat} {nk nn : Nat} : (R32k zs ns gk gn cpk cpn ms ts gm gt n m nk nn).tab = [some ⟨.ints .u8 zs, gk, false, 5⟩, some ⟨.ints .u8 ns, gn, false, 5⟩, some ⟨.ints .u8 ms, gm, false, 5⟩, some ⟨.ints .u8 ts, gt, false, 5⟩] := by kernel_rfl
noncomputable def R32n (zs ns : List Int) (gk gn : Nat) (cpk cpn : Option Nat) (ms ts : List Int) (gm gt n m : Nat) (nn : Nat) : Res := resG 4 [0,1,2,3] (runF eGp f32 [] 400 [.slice 1 0 gk 0 16 cpk, .slice 1 1 gn 0 nn cpn, .slice 1 2 gm 0 m none, .slice 1 3 gt 0 n none] [some ⟨.ints .u8 zs, gk, false, 5⟩, some ⟨.ints .u8 ns, gn, false, 5⟩, some ⟨.ints .u8 ms, gm, false, 5⟩, some ⟨.ints .u8 ts, gt, false, 5⟩] [some false, some true])
theorem R32n_ok {zs ns : List Int} {gk gn : Nat} {cpk cpn : Option Nat} {ms ts : List Int} {gm gt n m : Nat} {nn : Nat} (h : allP [.eqN gk gk, .p (false = false), .eqN gn gn, .p (((↑nn : Int) != 12) = true)]) : OkR (R32n zs ns gk gn cpk cpn ms ts gm gt n m nn) := OkR.dem (fl := [false, false, false, false]) (by kernel_rfl) (by kernel_rfl) (by kernel_rfl) h
theorem R32n_val {zs ns : List Int} {gk gn : Nat} {cpk cpn : Option Nat} {ms ts : List Int} {gm gt n m : Nat} {nn : Nat} : (R32n zs ns gk gn cpk cpn ms ts gm gt n m nn).val = .tuple [.nilSlice, .int .i64 1] := by kernel_rfl
theorem R32n_tab {zs ns : List Int} {gk gn : Nat} {cpk cpn : Option Nat} {ms ts : List Int} {gm gt n m : Nat} {nn : Nat} : (R32n zs ns gk gn cpk cpn ms ts gm gt n m nn).tab = [some ⟨.ints .u8 zs, gk, false, 5⟩, some ⟨.ints .u8 ns, gn, false, 5⟩, some ⟨.ints .u8 ms, gm, false, 5⟩, some ⟨.ints .u8 ts, gt, false, 5⟩] := by kernel_rfl
noncomputable def R32m (zs ns : List Int) (gk gn : Nat) (cpk cpn : Option Nat) (ms ts : List Int) (gm gt n m : Nat) : Res := resG 4 [0,1,2,3] (runF eGp f32 [] 400 [.slice 1 0 gk 0 16 cpk, .slice 1 1 gn 0 12 cpn, .slice 1 2 gm 0 m none, .slice 1 3 gt 0 n none] [some ⟨.ints .u8 zs, gk, false, 5⟩, some ⟨.ints .u8 ns, gn, false, 5⟩, some ⟨.ints .u8 ms, gm, false, 5⟩, some ⟨.ints .u8 ts, gt, false, 5⟩] [some false, some false, some true])
theorem R32m_ok {zs ns : List Int} {gk gn : Nat} {cpk cpn : Option Nat} {ms ts : List Int} {gm gt n m : Nat} (h : allP [.eqN gk gk, .p (false = false), .eqN gn gn, .p (false = false), .eqN gm gm, .p (decide (65536 < (↑m : Int)) = true)]) : OkR (R32m zs ns gk gn cpk cpn ms ts gm gt n m) := OkR.dem (fl := [false, false, false, false, false, false]) (by kernel_rfl) (by kernel_rfl) (by kernel_rfl) h
theorem R32m_val {zs ns : List Int} {gk gn : Nat} {cpk cpn : Option Nat} {ms ts : List Int} {gm gt n m : Nat} : (R32m zs ns gk gn cpk cpn ms ts gm gt n m).val = .tuple [.nilSlice, .int .i64 6] := by kernel_rfl
theorem R32m_tab {zs ns : List Int} {gk gn : Nat} {cpk cpn : Option Nat} {ms ts : List Int} {gm gt n m : Nat} : (R32m zs ns gk gn cpk cpn ms ts gm gt n m).tab = [some ⟨.ints .u8 zs, gk, false, 5⟩, some ⟨.ints .u8 ns, gn, false, 5⟩, some ⟨.ints .u8 ms, gm, false, 5⟩, some ⟨.ints .u8 ts, gt, false, 5⟩] := by kernel_rfl
noncomputable def R32t (zs ns : List Int) (gk gn : Nat) (cpk cpn : Option Nat) (ms ts : List Int) (gm gt n m : Nat) : Res := resG 4 [0,1,2,3] (runF eGp f32 [] 400 [.slice 1 0 gk 0 16 cpk, .slice 1 1 gn 0 12 cpn, .slice 1 2 gm 0 m none, .slice 1 3 gt 0 n none] [some ⟨.ints .u8 zs, gk, false, 5⟩, some ⟨.ints .u8 ns, gn, false, 5⟩, some ⟨.ints .u8 ms, gm, false, 5⟩, some ⟨.ints .u8 ts, gt, false, 5⟩] [some false, some false, some false, some true])
theorem R32t_ok {zs ns : List Int} {gk gn : Nat} {cpk cpn : Option Nat} {ms ts : List Int} {gm gt n m : Nat} (h : allP [.eqN gk gk, .p (false = false), .eqN gn gn, .p (false = false), .eqN gm gm, .p (decide (65536 < (↑m : Int)) = false), .eqN gt gt, .p (decide (65552 < (↑n : Int)) = true)]) : OkR (R32t zs ns gk gn cpk cpn ms ts gm gt n m) := OkR.dem (fl := [false, false, false, false, false, false,
 false, false]) (by kernel_rfl) (by kernel_rfl) (by kernel_rfl) h
theorem R32t_val {zs ns : List Int} {gk gn : Nat} {cpk cpn : Option Nat} {ms ts : List Int} {gm gt n m : Nat} : (R32t zs ns gk gn cpk cpn ms ts gm gt n m).val = .tuple [.nilSlice, .int .i64 6] := by kernel_rfl
theorem R32t_tab {zs ns : List Int} {gk gn : Nat} {cpk cpn : Option Nat} {ms ts : List Int} {gm gt n m : Nat} : (R32t zs ns gk gn cpk cpn ms ts gm gt n m).tab = [some ⟨.ints .u8 zs, gk, false, 5⟩, some ⟨.ints .u8 ns, gn, false, 5⟩, some ⟨.ints .u8 ms, gm, false, 5⟩, some ⟨.ints .u8 ts, gt, false, 5⟩] := by kernel_rfl
end Go.Abs

set_option linter.unusedVariables false
set_option linter.unusedSimpArgs false
set_option maxRecDepth 8000
namespace Go.Abs
open Go.Proofs.Try
/-! ### contracts of what the program offers -/
theorem gByte_inj {a b : Int} (ha : 0 ≤ a ∧ a < 256) (hb : 0 ≤ b ∧ b < 256) (h : byteOf a = byteOf b) : a = b := by
  have := congrArg UInt8.toNat h
  simp only [byteOf, UInt8.toNat_ofNat'] at this
  omega
theorem gBytes_inj : ∀ {l l' : List Int}, Bytes l → Bytes l' → List.map byteOf l = List.map byteOf l' → l = l'
  | [], [], _, _, _ => rfl
  | [], b :: l', _, _, h => by simp at h
  | a :: l, [], _, _, h => by simp at h
  | a :: l, b :: l', h1, h2, h => by
    simp only [List.map_cons, List.cons.injEq] at h
    have e : a = b := gByte_inj (h1.get 0) (h2.get 0) h.1
    rw [e, gBytes_inj (l := l) (l' := l') (fun i hi => h1.get (i + 1)) (fun i hi => h2.get (i + 1)) h.2]
theorem gBytes_eq (l : List Int) : (List.map byteOf l == List.map byteOf l) = true := beq_self_eq_true _
theorem gBytes_ne {l l' : List Int} (h1 : Bytes l) (h2 : Bytes l') (h : l ≠ l') : (List.map byteOf l == List.map byteOf l') = false := by
  rw [beq_eq_false_iff_ne]
  exact fun e => h (gBytes_inj h1 h2 e)
theorem neq16 {n : Nat} (h : n ≠ 16) : ((n : Int) != 16) = true := by simp only [bne_iff_ne, ne_eq]; omega
theorem neq12 {n : Nat} (h : n ≠ 12) : ((n : Int) != 12) = true := by simp only [bne_iff_ne, ne_eq]; omega
theorem eq16 : (((16 : Nat) : Int) != 16) = false := by decide
def sealLaw (K N M : List Int) (m : Nat) (X : List Int) (n : Nat) : List Int := turnLaw K N X ++ tagLaw K N M m (turnLaw K N X) n
noncomputable def sm28Ac (args : List AVal) (T : Tab) (zs : List Int) (ns : List Int) (gk : Nat) (gn : Nat) (cpk : Option Nat) (cpn : Option Nat) (ms : List Int) (ts : List Int) (gm : Nat) (gt : Nat) (n : Nat) (m : Nat) : Res := ⟨[.tab T [some ⟨.ints .u8 zs, gk, false, 5⟩, some ⟨.ints .u8 ns, gn, false, 5⟩, some ⟨.ints .u8 ms, gm, false, 5⟩, some ⟨.ints .u8 ts, gt, false, 5⟩], .val (.tuple args) (.tuple [.slice 1 0 gk 0 16 cpk, .slice 1 1 gn 0 12 cpn, .slice 1 2 gm 0 m none, .slice 1 3 gt 0 n none]), .leN 16 zs.length, .leN 12 ns.length, .p (Bytes zs), .p (Bytes ns), .leN m ms.length, .leN m 65536, .p (Bytes ms), .leN n ts.length, .leN n 65536, .p (Bytes ts)], .tuple [.slice 1 4 2 0 (n + 16) none, .int .i64 0], [some ⟨.ints .u8 zs, gk, false, 5⟩, some ⟨.ints .u8 ns, gn, false, 5⟩, some ⟨.ints .u8 ms, gm, false, 5⟩, some ⟨.ints .u8 ts, gt, false, 5⟩, some ⟨.ints .u8 (sealLaw (subLaw zs 0 16) (subLaw ns 0 12) ms m (subLaw ts 0 n) n), 2, true, 5⟩]⟩
theorem sm28Ac_ok {args : List AVal} {T : Tab} {zs : List Int} {ns : List Int} {gk : Nat} {gn : Nat} {cpk : Option Nat} {cpn : Option Nat} {ms : List Int} {ts : List Int} {gm : Nat} {gt : Nat} {n : Nat} {m : Nat} (h : allP (sm28Ac args T zs ns gk gn cpk cpn ms ts gm gt n m).cs) : Small prog (fun _ => none) 28 args T (sm28Ac args T zs ns gk gn cpk cpn ms ts gm gt n m).val (sm28Ac args T zs ns gk gn cpk cpn ms ts gm gt n m).tab := by
  obtain ⟨hT, hv, h1, h2, h3, h4, h5, h6, h7, h8, h9, h10, _⟩ := h
  simp only [Con.h] at hT hv h1 h2 h3 h4 h5 h6 h7 h8 h9 h10
  injection hv with hv
  subst hT hv
  have b1 := sub_bytes h3 0 16
  have b2 := sub_bytes h4 0 12
  have lx : (subLaw ts 0 n).length = n := subLaw_len (by omega)
  have lt : (turnLaw (subLaw zs 0 16) (subLaw ns 0 12) (subLaw ts 0 n)).length = n := by rw [turn_len, lx]
  have bx := sub_bytes h10 0 n
  have bt := turn_bytes b1 b2 bx
  refine small_ofG (R := R28A zs ns gk gn cpk cpn ms ts gm gt n m) (keep := [0,1,2,3,5]) eGp_ok hmA (f := 28) (fn := f28) (by kernel_rfl) (by kernel_rfl) FnOrc.nil rfl (R28A_ok ?_) (by rw [R28A_val, addO_eq]; rfl) (by rw [R28A_tab, take_n lt, take_n (tag_len _ _ _ _ _ _)]; rfl)
  simp only [allP, Con.h, lx, lt, bt, addO_eq, h1, h2, h3, h4, h5, h7, h8, h10, decide_eq_false_iff_not, eq_self, true_and, and_true]
  omega
noncomputable def sm28A : Summary := fun args T => sm28Ac args T (xsAt T 0) (xsAt T 1) (gAt T 0) (gAt T 1) (capOf (vAt args 0)) (capOf (vAt args 1)) (xsAt T 2) (xsAt T 3) (gAt T 2) (gAt T 3) (lenOf (vAt args 3)) (lenOf (vAt args 2))
theorem sm28A_ok : SmOk prog (fun _ => none) 28 sm28A := fun args T h => sm28Ac_ok h
noncomputable def sm28Bc (args : List AVal) (T : Tab) (zs : List Int) (ns : List Int) (gk : Nat) (gn : Nat) (cpk : Option Nat) (cpn : Option Nat) (ts : List Int) (gt : Nat) (n : Nat) : Res := ⟨[.tab T [some ⟨.ints .u8 zs, gk, false, 5⟩, some ⟨.ints .u8 ns, gn, false, 5⟩, some ⟨.ints .u8 ts, gt, false, 5⟩], .val (.tuple args) (.tuple [.slice 1 0 gk 0 16 cpk, .slice 1 1 gn 0 12 cpn, .nilSlice, .slice 1 2 gt 0 n none]), .leN 16 zs.length, .leN 12 ns.length, .p (Bytes zs), .p (Bytes ns), .leN n ts.length, .leN n 65536, .p (Bytes ts)], .tuple [.slice 1 4 2 0 (n + 16) none, .int .i64 0], [some ⟨.ints .u8 zs, gk, false, 5⟩, some ⟨.ints .u8 ns, gn, false, 5⟩, some ⟨.ints .u8 ts, gt, false, 5⟩, some ⟨.ints .u8 [], 0, true, 5⟩, some ⟨.ints .u8 (sealLaw (subLaw zs 0 16) (subLaw ns 0 12) [] 0 (subLaw ts 0 n) n), 2, true, 5⟩]⟩
theorem sm28Bc_ok {args : List AVal} {T : Tab} {zs : List Int} {ns : List Int} {gk : Nat} {gn : Nat} {cpk : Option Nat} {cpn : Option Nat} {ts : List Int} {gt : Nat} {n : Nat} (h : allP (sm28Bc args T zs ns gk gn cpk cpn ts gt n).cs) : Small prog (fun _ => none) 28 args T (sm28Bc args T zs ns gk gn cpk cpn ts gt n).val (sm28Bc args T zs ns gk gn cpk cpn ts gt n).tab := by
  obtain ⟨hT, hv, h1, h2, h3, h4, h5, h6, h7, _⟩ := h
  simp only [Con.h] at hT hv h1 h2 h3 h4 h5 h6 h7
  injection hv with hv
  subst hT hv
  have b1 := sub_bytes h3 0 16
  have b2 := sub_bytes h4 0 12
  have lx : (subLaw ts 0 n).length = n := subLaw_len (by omega)
  have lt : (turnLaw (subLaw zs 0 16) (subLaw ns 0 12) (subLaw ts 0 n)).length = n := by rw [turn_len, lx]
  have bx := sub_bytes h7 0 n
  have bt := turn_bytes b1 b2 bx
  have b0 : Bytes [] := fun i hi => absurd hi (Nat.not_lt_zero i)
  refine small_fill (args2 := [.slice 1 0 gk 0 16 cpk, .slice 1 1 gn 0 12 cpn, .slice 1 3 0 0 0 none, .slice 1 2 gt 0 n none]) (T2 := [some ⟨.ints .u8 zs, gk, false, 5⟩, some ⟨.ints .u8 ns, gn, false, 5⟩, some ⟨.ints .u8 ts, gt, false, 5⟩, some ⟨.ints .u8 [], 0, true, 5⟩]) rfl rfl ?_
  refine small_ofG (R := R28B zs ns gk gn cpk cpn ts gt n) (keep := [0,1,2,3,5]) eGp_ok hmA (f := 28) (fn := f28) (by kernel_rfl) (by kernel_rfl) FnOrc.nil rfl (R28B_ok ?_) (by rw [R28B_val, addO_eq]; rfl) (by rw [R28B_tab, take_n lt, take_n (tag_len _ _ _ _ _ _)]; rfl)
  simp only [allP, Con.h, lx, lt, bt, b0, addO_eq, h1, h2, h3, h4, h5, h7, decide_eq_false_iff_not, eq_self, true_and, and_true]
  omega
noncomputable def sm28B : Summary := fun args T => sm28Bc args T (xsAt T 0) (xsAt T 1) (gAt T 0) (gAt T 1) (capOf (vAt args 0)) (capOf (vAt args 1)) (xsAt T 2) (gAt T 2) (lenOf (vAt args 3))
theorem sm28B_ok : SmOk prog (fun _ => none) 28 sm28B := fun args T h => sm28Bc_ok h
noncomputable def sm28Cc (args : List AVal) (T : Tab) (zs : List Int) (ns : List Int) (gk : Nat) (gn : Nat) (cpk : Option Nat) (cpn : Option Nat) : Res := ⟨[.tab T [some ⟨.ints .u8 zs, gk, false, 5⟩, some ⟨.ints .u8 ns, gn, false, 5⟩], .val (.tuple args) (.tuple [.slice 1 0 gk 0 16 cpk, .slice 1 1 gn 0 12 cpn, .nilSlice, .nilSlice]), .leN 16 zs.length, .leN 12 ns.length, .p (Bytes zs), .p (Bytes ns)], .tuple [.slice 1 3 2 0 16 none, .int .i64 0], [some ⟨.ints .u8 zs, gk, false, 5⟩, some ⟨.ints .u8 ns, gn, false, 5⟩, some ⟨.ints .u8 [], 0, true, 5⟩, some ⟨.ints .u8 (tagLaw (subLaw zs 0 16) (subLaw ns 0 12) [] 0 [] 0), 2, true, 5⟩]⟩
theorem sm28Cc_ok {args : List AVal} {T : Tab} {zs : List Int} {ns : List Int} {gk : Nat} {gn : Nat} {cpk : Option Nat} {cpn : Option Nat} (h : allP (sm28Cc args T zs ns gk gn cpk cpn).cs) : Small prog (fun _ => none) 28 args T (sm28Cc args T zs ns gk gn cpk cpn).val (sm28Cc args T zs ns gk gn cpk cpn).tab := by
  obtain ⟨hT, hv, h1, h2, h3, h4, _⟩ := h
  simp only [Con.h] at hT hv h1 h2 h3 h4
  injection hv with hv
  subst hT hv
  have b1 := sub_bytes h3 0 16
  have b2 := sub_bytes h4 0 12
  have b0 : Bytes [] := fun i hi => absurd hi (Nat.not_lt_zero i)
  have e0 : subLaw [] 0 0 = [] := rfl
  have e1 : turnLaw (subLaw zs 0 16) (subLaw ns 0 12) [] = [] := rfl
  refine small_fill (args2 := [.slice 1 0 gk 0 16 cpk, .slice 1 1 gn 0 12 cpn, .slice 1 2 0 0 0 none, .slice 1 2 0 0 0 none]) (T2 := [some ⟨.ints .u8 zs, gk, false, 5⟩, some ⟨.ints .u8 ns, gn, false, 5⟩, some ⟨.ints .u8 [], 0, true, 5⟩]) rfl rfl ?_
  refine small_ofG (R := R28C zs ns gk gn cpk cpn) (keep := [0,1,2,4]) eGp_ok hmA (f := 28) (fn := f28) (by kernel_rfl) (by kernel_rfl) FnOrc.nil rfl (R28C_ok ?_) R28C_val (by rw [R28C_tab, e0, e1, take_n (tag_len _ _ _ _ _ _)]; rfl)
  rw [e0, e1]
  simp only [allP, Con.h, b0, h1, h2, h3, h4, eq_self, true_and, and_true]
noncomputable def sm28C : Summary := fun args T => sm28Cc args T (xsAt T 0) (xsAt T 1) (gAt T 0) (gAt T 1) (capOf (vAt args 0)) (capOf (vAt args 1))
theorem sm28C_ok : SmOk prog (fun _ => none) 28 sm28C := fun args T h => sm28Cc_ok h
noncomputable def sm28 : Summary := fun args T => match vAt args 2, vAt args 3 with
  | .nilSlice, .nilSlice => sm28C args T
  | .nilSlice, _ => sm28B args T
  | _, _ => sm28A args T
theorem sm28_ok : SmOk prog (fun _ => none) 28 sm28 := fun args T h => by
  unfold sm28 at h ⊢
  split at h
  · exact sm28C_ok args T h
  · exact sm28B_ok args T h
  · exact sm28A_ok args T h
noncomputable def S28 : Summary := callR sm28 []
theorem S28_ok : SumOk prog (fun _ => none) 28 S28 := callR_ok sm28_ok []
noncomputable def sm32xc (args : List AVal) (T : Tab) (zs : List Int) (ns : List Int) (gk : Nat) (gn : Nat) (cpk : Option Nat) (cpn : Option Nat) (ms : List Int) (ts : List Int) (gm : Nat) (gt : Nat) (n : Nat) (m : Nat) (nk : Nat) (nn : Nat) : Res := ⟨[.tab T [some ⟨.ints .u8 zs, gk, false, 5⟩, some ⟨.ints .u8 ns, gn, false, 5⟩, some ⟨.ints .u8 ms, gm, false, 5⟩, some ⟨.ints .u8 ts, gt, false, 5⟩], .val (.tuple args) (.tuple [.slice 1 0 gk 0 nk cpk, .slice 1 1 gn 0 nn cpn, .slice 1 2 gm 0 m none, .slice 1 3 gt 0 n none]), .p (nk ≠ 16 ∨ nn ≠ 12)], .tuple [.nilSlice, .int .i64 1], [some ⟨.ints .u8 zs, gk, false, 5⟩, some ⟨.ints .u8 ns, gn, false, 5⟩, some ⟨.ints .u8 ms, gm, false, 5⟩, some ⟨.ints .u8 ts, gt, false, 5⟩]⟩
theorem sm32xc_ok {args : List AVal} {T : Tab} {zs : List Int} {ns : List Int} {gk : Nat} {gn : Nat} {cpk : Option Nat} {cpn : Option Nat} {ms : List Int} {ts : List Int} {gm : Nat} {gt : Nat} {n : Nat} {m : Nat} {nk : Nat} {nn : Nat} (h : allP (sm32xc args T zs ns gk gn cpk cpn ms ts gm gt n m nk nn).cs) : Small prog (fun _ => none) 32 args T (sm32xc args T zs ns gk gn cpk cpn ms ts gm gt n m nk nn).val (sm32xc args T zs ns gk gn cpk cpn ms ts gm gt n m nk nn).tab := by
  obtain ⟨hT, hv, h1, _⟩ := h
  simp only [Con.h] at hT hv h1
  injection hv with hv
  subst hT hv
  by_cases h : nk = 16
  · subst h
    have h2 := neq12 (h1.resolve_left (fun h => h rfl))
    refine small_ofG (R := R32n zs ns gk gn cpk cpn ms ts gm gt n m nn) (keep := [0,1,2,3]) eGp_ok hmA (f := 32) (fn := f32) (by kernel_rfl) (by kernel_rfl) FnOrc.nil rfl (R32n_ok ?_) R32n_val R32n_tab
    simp only [allP, Con.h, h2, eq16, eq_self, true_and, and_true]
  · refine small_ofG (R := R32k zs ns gk gn cpk cpn ms ts gm gt n m nk nn) (keep := [0,1,2,3]) eGp_ok hmA (f := 32) (fn := f32) (by kernel_rfl) (by kernel_rfl) FnOrc.nil rfl (R32k_ok ?_) R32k_val R32k_tab
    simp only [allP, Con.h, neq16 h, eq_self, true_and, and_true]
noncomputable def sm32x : Summary := fun args T => sm32xc args T (xsAt T 0) (xsAt T 1) (gAt T 0) (gAt T 1) (capOf (vAt args 0)) (capOf (vAt args 1)) (xsAt T 2) (xsAt T 3) (gAt T 2) (gAt T 3) (lenOf (vAt args 3)) (lenOf (vAt args 2)) (lenOf (vAt args 0)) (lenOf (vAt args 1))
theorem sm32x_ok : SmOk prog (fun _ => none) 32 sm32x := fun args T h => sm32xc_ok h
noncomputable def S32x : Summary := callR sm32x []
theorem S32x_ok : SumOk prog (fun _ => none) 32 S32x := callR_ok sm32x_ok []
noncomputable def sm32yc (args : List AVal) (T : Tab) (zs : List Int) (ns : List Int) (gk : Nat) (gn : Nat) (cpk : Option Nat) (cpn : Option Nat) (ms : List Int) (ts : List Int) (gm : Nat) (gt : Nat) (n : Nat) (m : Nat) : Res := ⟨[.tab T [some ⟨.ints .u8 zs, gk, false, 5⟩, some ⟨.ints .u8 ns, gn, false, 5⟩, some ⟨.ints .u8 ms, gm, false, 5⟩, some ⟨.ints .u8 ts, gt, false, 5⟩], .val (.tuple args) (.tuple [.slice 1 0 gk 0 16 cpk, .slice 1 1 gn 0 12 cpn, .slice 1 2 gm 0 m none, .slice 1 3 gt 0 n none]), .p (65536 < m ∨ 65552 < n)], .tuple [.nilSlice, .int .i64 6], [some ⟨.ints .u8 zs, gk, false, 5⟩, some ⟨.ints .u8 ns, gn, false, 5⟩, some ⟨.ints .u8 ms, gm, false, 5⟩, some ⟨.ints .u8 ts, gt, false, 5⟩]⟩
theorem sm32yc_ok {args : List AVal} {T : Tab} {zs : List Int} {ns : List Int} {gk : Nat} {gn : Nat} {cpk : Option Nat} {cpn : Option Nat} {ms : List Int} {ts : List Int} {gm : Nat} {gt : Nat} {n : Nat} {m : Nat} (h : allP (sm32yc args T zs ns gk gn cpk cpn ms ts gm gt n m).cs) : Small prog (fun _ => none) 32 args T (sm32yc args T zs ns gk gn cpk cpn ms ts gm gt n m).val (sm32yc args T zs ns gk gn cpk cpn ms ts gm gt n m).tab := by
  obtain ⟨hT, hv, h1, _⟩ := h
  simp only [Con.h] at hT hv h1
  injection hv with hv
  subst hT hv
  by_cases h : 65536 < m
  · refine small_ofG (R := R32m zs ns gk gn cpk cpn ms ts gm gt n m) (keep := [0,1,2,3]) eGp_ok hmA (f := 32) (fn := f32) (by kernel_rfl) (by kernel_rfl) FnOrc.nil rfl (R32m_ok ?_) R32m_val R32m_tab
    simp only [allP, Con.h, decide_eq_true_eq, eq_self, true_and, and_true]
    omega
  · have h2 := h1.resolve_left h
    refine small_ofG (R := R32t zs ns gk gn cpk cpn ms ts gm gt n m) (keep := [0,1,2,3]) eGp_ok hmA (f := 32) (fn := f32) (by kernel_rfl) (by kernel_rfl) FnOrc.nil rfl (R32t_ok ?_) R32t_val R32t_tab
    simp only [allP, Con.h, decide_eq_true_eq, decide_eq_false_iff_not, eq_self, true_and, and_true]
    omega
noncomputable def sm32y : Summary := fun args T => sm32yc args T (xsAt T 0) (xsAt T 1) (gAt T 0) (gAt T 1) (capOf (vAt args 0)) (capOf (vAt args 1)) (xsAt T 2) (xsAt T 3) (gAt T 2) (gAt T 3) (lenOf (vAt args 3)) (lenOf (vAt args 2))
theorem sm32y_ok : SmOk prog (fun _ => none) 32 sm32y := fun args T h => sm32yc_ok h
noncomputable def S32y : Summary := callR sm32y []
theorem S32y_ok : SumOk prog (fun _ => none) 32 S32y := callR_ok sm32y_ok []
noncomputable def sm32Ac (args : List AVal) (T : Tab) (zs : List Int) (ns : List Int) (gk : Nat) (gn : Nat) (cpk : Option Nat) (cpn : Option Nat) (ms : List Int) (ts : List Int) (gm : Nat) (gt : Nat) (n : Nat) (m : Nat) : Res := ⟨[.tab T [some ⟨.ints .u8 zs, gk, false, 5⟩, some ⟨.ints .u8 ns, gn, false, 5⟩, some ⟨.ints .u8 ms, gm, false, 5⟩, some ⟨.ints .u8 ts, gt, false, 5⟩], .val (.tuple args) (.tuple [.slice 1 0 gk 0 16 cpk, .slice 1 1 gn 0 12 cpn, .slice 1 2 gm 0 m none, .slice 1 3 gt 0 n none]), .leN 16 zs.length, .leN 12 ns.length, .p (Bytes zs), .p (Bytes ns), .leN m ms.length, .leN m 65536, .p (Bytes ms), .leN n ts.length, .leN n 65552, .p (Bytes ts), .leN 16 n, .p (tagLaw (subLaw zs 0 16) (subLaw ns 0 12) ms m ts (n - 16) = subLaw ts (n - 16) 16)], .tuple [.slice 1 4 1 0 (n - 16) none, .int .i64 0], [some ⟨.ints .u8 zs, gk, false, 5⟩, some ⟨.ints .u8 ns, gn, false, 5⟩, some ⟨.ints .u8 ms, gm, false, 5⟩, some ⟨.ints .u8 ts, gt, false, 5⟩, some ⟨.ints .u8 (turnLaw (subLaw zs 0 16) (subLaw ns 0 12) (subLaw ts 0 (n - 16))), 1, true, 5⟩]⟩
theorem sm32Ac_ok {args : List AVal} {T : Tab} {zs : List Int} {ns : List Int} {gk : Nat} {gn : Nat} {cpk : Option Nat} {cpn : Option Nat} {ms : List Int} {ts : List Int} {gm : Nat} {gt : Nat} {n : Nat} {m : Nat} (h : allP (sm32Ac args T zs ns gk gn cpk cpn ms ts gm gt n m).cs) : Small prog (fun _ => none) 32 args T (sm32Ac args T zs ns gk gn cpk cpn ms ts gm gt n m).val (sm32Ac args T zs ns gk gn cpk cpn ms ts gm gt n m).tab := by
  obtain ⟨hT, hv, h1, h2, h3, h4, h5, h6, h7, h8, h9, h10, h11, h12, _⟩ := h
  simp only [Con.h] at hT hv h1 h2 h3 h4 h5 h6 h7 h8 h9 h10 h11 h12
  injection hv with hv
  subst hT hv
  have e1 : ((n : Int) - 16).toNat = n - 16 := by omega
  have e2 : subO n (n - 16) = 16 := by rw [subO_eq]; omega
  have e3 : List.take 16 (dropO (n - 16) ts) = subLaw ts (n - 16) 16 := by rw [dropO_eq]; rfl
  refine small_ofG (R := R32A zs ns gk gn cpk cpn ms ts gm gt n m) (keep := [0,1,2,3,6]) eGp_ok hmA (f := 32) (fn := f32) (by kernel_rfl) (by kernel_rfl) FnOrc.nil rfl (R32A_ok ?_) (by rw [R32A_val, e1]; rfl) (by rw [R32A_tab, e1]; rfl)
  rw [e1, e2, e3, take_n (tag_len _ _ _ _ _ _), h12]
  simp only [allP, Con.h, gBytes_eq, h1, h2, h3, h4, h5, h7, h10, decide_eq_false_iff_not, eq_self, true_and, and_true]
  omega
noncomputable def sm32A : Summary := fun args T => sm32Ac args T (xsAt T 0) (xsAt T 1) (gAt T 0) (gAt T 1) (capOf (vAt args 0)) (capOf (vAt args 1)) (xsAt T 2) (xsAt T 3) (gAt T 2) (gAt T 3) (lenOf (vAt args 3)) (lenOf (vAt args 2))
theorem sm32A_ok : SmOk prog (fun _ => none) 32 sm32A := fun args T h => sm32Ac_ok h
noncomputable def S32A : Summary := callR sm32A []
theorem S32A_ok : SumOk prog (fun _ => none) 32 S32A := callR_ok sm32A_ok []
noncomputable def sm32Xc (args : List AVal) (T : Tab) (zs : List Int) (ns : List Int) (gk : Nat) (gn : Nat) (cpk : Option Nat) (cpn : Option Nat) (ms : List Int) (ts : List Int) (gm : Nat) (gt : Nat) (n : Nat) (m : Nat) : Res := ⟨[.tab T [some ⟨.ints .u8 zs, gk, false, 5⟩, some ⟨.ints .u8 ns, gn, false, 5⟩, some ⟨.ints .u8 ms, gm, false, 5⟩, some ⟨.ints .u8 ts, gt, false, 5⟩], .val (.tuple args) (.tuple [.slice 1 0 gk 0 16 cpk, .slice 1 1 gn 0 12 cpn, .slice 1 2 gm 0 m none, .slice 1 3 gt 0 n none]), .leN 16 zs.length, .leN 12 ns.length, .p (Bytes zs), .p (Bytes ns), .leN m ms.length, .leN m 65536, .p (Bytes ms), .leN n ts.length, .leN n 65552, .p (Bytes ts), .leN 16 n, .p (tagLaw (subLaw zs 0 16) (subLaw ns 0 12) ms m ts (n - 16) ≠ subLaw ts (n - 16) 16)], .tuple [.nilSlice, .int .i64 32], [some ⟨.ints .u8 zs, gk, false, 5⟩, some ⟨.ints .u8 ns, gn, false, 5⟩, some ⟨.ints .u8 ms, gm, false, 5⟩, some ⟨.ints .u8 ts, gt, false, 5⟩]⟩
theorem sm32Xc_ok {args : List AVal} {T : Tab} {zs : List Int} {ns : List Int} {gk : Nat} {gn : Nat} {cpk : Option Nat} {cpn : Option Nat} {ms : List Int} {ts : List Int} {gm : Nat} {gt : Nat} {n : Nat} {m : Nat} (h : allP (sm32Xc args T zs ns gk gn cpk cpn ms ts gm gt n m).cs) : Small prog (fun _ => none) 32 args T (sm32Xc args T zs ns gk gn cpk cpn ms ts gm gt n m).val (sm32Xc args T zs ns gk gn cpk cpn ms ts gm gt n m).tab := by
  obtain ⟨hT, hv, h1, h2, h3, h4, h5, h6, h7, h8, h9, h10, h11, h12, _⟩ := h
  simp only [Con.h] at hT hv h1 h2 h3 h4 h5 h6 h7 h8 h9 h10 h11 h12
  injection hv with hv
  subst hT hv
  have e1 : ((n : Int) - 16).toNat = n - 16 := by omega
  have e2 : subO n (n - 16) = 16 := by rw [subO_eq]; omega
  have e3 : List.take 16 (dropO (n - 16) ts) = subLaw ts (n - 16) 16 := by rw [dropO_eq]; rfl
  refine small_ofG (R := R32X zs ns gk gn cpk cpn ms ts gm gt n m) (keep := [0,1,2,3]) eGp_ok hmA (f := 32) (fn := f32) (by kernel_rfl) (by kernel_rfl) FnOrc.nil rfl (R32X_ok ?_) R32X_val R32X_tab
  have ne := gBytes_ne (tag_bytes (subLaw zs 0 16) (subLaw ns 0 12) ms m ts (n - 16)) (sub_bytes h10 (n - 16) 16) h12
  rw [e1, e2, e3, take_n (tag_len _ _ _ _ _ _), ne]
  simp only [allP, Con.h, h1, h2, h3, h4, h5, h7, h10, decide_eq_false_iff_not, eq_self, true_and, and_true]
  omega
noncomputable def sm32X : Summary := fun args T => sm32Xc args T (xsAt T 0) (xsAt T 1) (gAt T 0) (gAt T 1) (capOf (vAt args 0)) (capOf (vAt args 1)) (xsAt T 2) (xsAt T 3) (gAt T 2) (gAt T 3) (lenOf (vAt args 3)) (lenOf (vAt args 2))
theorem sm32X_ok : SmOk prog (fun _ => none) 32 sm32X := fun args T h => sm32Xc_ok h
noncomputable def S32X : Summary := callR sm32X []
theorem S32X_ok : SumOk prog (fun _ => none) 32 S32X := callR_ok sm32X_ok []
noncomputable def sm32sc (args : List AVal) (T : Tab) (zs : List Int) (ns : List Int) (gk : Nat) (gn : Nat) (cpk : Option Nat) (cpn : Option Nat) (ms : List Int) (ts : List Int) (gm : Nat) (gt : Nat) (n : Nat) (m : Nat) : Res := ⟨[.tab T [some ⟨.ints .u8 zs, gk, false, 5⟩, some ⟨.ints .u8 ns, gn, false, 5⟩, some ⟨.ints .u8 ms, gm, false, 5⟩, some ⟨.ints .u8 ts, gt, false, 5⟩], .val (.tuple args) (.tuple [.slice 1 0 gk 0 16 cpk, .slice 1 1 gn 0 12 cpn, .slice 1 2 gm 0 m none, .slice 1 3 gt 0 n none]), .leN m 65536, .p (n < 16)], .tuple [.nilSlice, .int .i64 32], [some ⟨.ints .u8 zs, gk, false, 5⟩, some ⟨.ints .u8 ns, gn, false, 5⟩, some ⟨.ints .u8 ms, gm, false, 5⟩, some ⟨.ints .u8 ts, gt, false, 5⟩]⟩
theorem sm32sc_ok {args : List AVal} {T : Tab} {zs : List Int} {ns : List Int} {gk : Nat} {gn : Nat} {cpk : Option Nat} {cpn : Option Nat} {ms : List Int} {ts : List Int} {gm : Nat} {gt : Nat} {n : Nat} {m : Nat} (h : allP (sm32sc args T zs ns gk gn cpk cpn ms ts gm gt n m).cs) : Small prog (fun _ => none) 32 args T (sm32sc args T zs ns gk gn cpk cpn ms ts gm gt n m).val (sm32sc args T zs ns gk gn cpk cpn ms ts gm gt n m).tab := by
  obtain ⟨hT, hv, h1, h2, _⟩ := h
  simp only [Con.h] at hT hv h1 h2
  injection hv with hv
  subst hT hv
  refine small_ofG (R := R32s zs ns gk gn cpk cpn ms ts gm gt n m) (keep := [0,1,2,3]) eGp_ok hmA (f := 32) (fn := f32) (by kernel_rfl) (by kernel_rfl) FnOrc.nil rfl (R32s_ok ?_) R32s_val R32s_tab
  simp only [allP, Con.h, decide_eq_true_eq, decide_eq_false_iff_not, eq_self, true_and, and_true]
  omega
noncomputable def sm32s : Summary := fun args T => sm32sc args T (xsAt T 0) (xsAt T 1) (gAt T 0) (gAt T 1) (capOf (vAt args 0)) (capOf (vAt args 1)) (xsAt T 2) (xsAt T 3) (gAt T 2) (gAt T 3) (lenOf (vAt args 3)) (lenOf (vAt args 2))
theorem sm32s_ok : SmOk prog (fun _ => none) 32 sm32s := fun args T h => sm32sc_ok h
noncomputable def S32s : Summary := callR sm32s []
theorem S32s_ok : SumOk prog (fun _ => none) 32 S32s := callR_ok sm32s_ok []
noncomputable def sm32Cc (args : List AVal) (T : Tab) (zs : List Int) (ns : List Int) (gk : Nat) (gn : Nat) (cpk : Option Nat) (cpn : Option Nat) (ts : List Int) (gt : Nat) (n : Nat) (c : Nat) : Res := ⟨[.tab T [some ⟨.ints .u8 zs, gk, false, 5⟩, some ⟨.ints .u8 ns, gn, false, 5⟩, some ⟨.ints .u8 ts, gt, false, 5⟩], .val (.tuple args) (.tuple [.slice 1 0 gk 0 16 cpk, .slice 1 1 gn 0 12 cpn, .nilSlice, .slice 1 2 gt 0 n (some c)]), .leN 16 zs.length, .leN 12 ns.length, .p (Bytes zs), .p (Bytes ns), .eqN n ts.length, .leN n 65552, .p (Bytes ts), .leN 16 n, .p (tagLaw (subLaw zs 0 16) (subLaw ns 0 12) [] 0 ts (n - 16) ≠ subLaw ts (n - 16) 16)], .tuple [.nilSlice, .int .i64 32], [some ⟨.ints .u8 zs, gk, false, 5⟩, some ⟨.ints .u8 ns, gn, false, 5⟩, some ⟨.ints .u8 ts, gt, false, 5⟩, some ⟨.ints .u8 [], 0, true, 5⟩, some ⟨.ints .u8 ts, gt, false, 5⟩]⟩
theorem sm32Cc_ok {args : List AVal} {T : Tab} {zs : List Int} {ns : List Int} {gk : Nat} {gn : Nat} {cpk : Option Nat} {cpn : Option Nat} {ts : List Int} {gt : Nat} {n : Nat} {c : Nat} (h : allP (sm32Cc args T zs ns gk gn cpk cpn ts gt n c).cs) : Small prog (fun _ => none) 32 args T (sm32Cc args T zs ns gk gn cpk cpn ts gt n c).val (sm32Cc args T zs ns gk gn cpk cpn ts gt n c).tab := by
  obtain ⟨hT, hv, h1, h2, h3, h4, h5, h6, h7, h8, h9, _⟩ := h
  simp only [Con.h] at hT hv h1 h2 h3 h4 h5 h6 h7 h8 h9
  injection hv with hv
  subst hT hv
  have e1 : ((n : Int) - 16).toNat = n - 16 := by omega
  have e2 : subO n (n - 16) = 16 := by rw [subO_eq]; omega
  have e3 : List.take 16 (dropO (n - 16) ts) = subLaw ts (n - 16) 16 := by rw [dropO_eq]; rfl
  have b0 : Bytes [] := fun i hi => absurd hi (Nat.not_lt_zero i)
  have et : List.take n ts = ts := List.take_of_length_le (by omega)
  refine small_fill (args2 := [.slice 1 0 gk 0 16 cpk, .slice 1 1 gn 0 12 cpn, .slice 1 3 0 0 0 none, .slice 1 2 gt 0 n (some c)]) (T2 := [some ⟨.ints .u8 zs, gk, false, 5⟩, some ⟨.ints .u8 ns, gn, false, 5⟩, some ⟨.ints .u8 ts, gt, false, 5⟩, some ⟨.ints .u8 [], 0, true, 5⟩]) rfl rfl ?_
  refine small_cap 3 2 gt n c ts 5 rfl rfl (by omega) rfl (T2 := [some ⟨.ints .u8 zs, gk, false, 5⟩, some ⟨.ints .u8 ns, gn, false, 5⟩, some ⟨.ints .u8 ts, gt, false, 5⟩, some ⟨.ints .u8 [], 0, true, 5⟩, some ⟨.ints .u8 ts, gt, false, 5⟩]) (by rw [et]; rfl) ?_
  refine small_ofG (R := R32C zs ns gk gn cpk cpn ts ts gt n) (keep := [0,1,2,3,4]) eGp_ok hmA (f := 32) (fn := f32) (by kernel_rfl) (by kernel_rfl) FnOrc.nil rfl (R32C_ok ?_) R32C_val R32C_tab
  have ne := gBytes_ne (tag_bytes (subLaw zs 0 16) (subLaw ns 0 12) [] 0 ts (n - 16)) (sub_bytes h7 (n - 16) 16) h9
  rw [e1, e2, e3, take_n (tag_len _ _ _ _ _ _), ne]
  simp only [allP, Con.h, b0, h1, h2, h3, h4, h7, decide_eq_false_iff_not, eq_self, true_and, and_true]
  omega
noncomputable def sm32C : Summary := fun args T => sm32Cc args T (xsAt T 0) (xsAt T 1) (gAt T 0) (gAt T 1) (capOf (vAt args 0)) (capOf (vAt args 1)) (xsAt T 2) (gAt T 2) (lenOf (vAt args 3)) ((capOf (vAt args 3)).getD 0)
theorem sm32C_ok : SmOk prog (fun _ => none) 32 sm32C := fun args T h => sm32Cc_ok h
noncomputable def S32C : Summary := callR sm32C []
theorem S32C_ok : SumOk prog (fun _ => none) 32 S32C := callR_ok sm32C_ok []
end Go.Abs

set_option linter.unusedVariables false
set_option linter.unusedSimpArgs false
set_option maxRecDepth 8000
namespace Go.Abs
open Go.Proofs.Try
/-! ### the document's products -/
noncomputable def S76 : Summary := sumI modeO (eA []) f76 [] 100 [] []
theorem S76_ok : SumOk prog (fun _ => none) 76 S76 := sumI_ok eA0_ok hmA (fn := f76) (by kernel_rfl) (by kernel_rfl) [] FnOrc.nil 100 [] []
noncomputable def eGb : Env := eA [(76, S76)]
theorem eGb_ok : EnvOk eGb := envOf_ok tysA_ok (SumsOk.cons (fn := f76) S76_ok (by kernel_rfl) (by kernel_rfl) (by kernel_rfl) trivial)
theorem l16_setG {f : Nat → Int} {k : Nat} (hk : k < 16) (v : Int) : (l16 f).set k v = l16 (fun j => if j = k then v else f j) := by
  match k, hk with
  | 0, _ => rfl | 1, _ => rfl | 2, _ => rfl | 3, _ => rfl | 4, _ => rfl | 5, _ => rfl | 6, _ => rfl | 7, _ => rfl
  | 8, _ => rfl | 9, _ => rfl | 10, _ => rfl | 11, _ => rfl | 12, _ => rfl | 13, _ => rfl | 14, _ => rfl | 15, _ => rfl
  | n + 16, h => exact absurd h (by omega)
def pxLaw (p x : List Int) (k : Nat) : List Int := l16 fun j => if j < k then ixor (p.getD j 0) (x.getD j 0) else p.getD j 0
theorem px_step {p x : List Int} {k : Nat} (hk : k < 16) : (pxLaw p x k).set k (ixor ((pxLaw p x k).getD k 0) (x.getD k 0)) = pxLaw p x (k + 1) := by
  unfold pxLaw
  rw [l16_setG hk, l16_get _ k hk, if_neg (Nat.lt_irrefl k)]
  refine l16_congr fun j hj => ?_
  by_cases h : j = k
  · subst h; rw [if_pos rfl, if_pos (Nat.lt_succ_self j)]
  · by_cases h2 : j < k
    · rw [if_neg h, if_pos h2, if_pos (by omega)]
    · rw [if_neg h, if_neg h2, if_neg (by omega)]
theorem px_len (p x : List Int) (k : Nat) : (pxLaw p x k).length = 16 := rfl
theorem px_bytes {p x : List Int} (hp : Bytes p) (hx : Bytes x) (k : Nat) : Bytes (pxLaw p x k) := l16_bytes fun j _ => by
  split
  · exact ixor_lt8 (hp.get j) (hx.get j)
  · exact hp.get j
theorem px_zero {p x : List Int} (h : p.length = 16) : pxLaw p x 0 = p := Eq.trans (l16_congr fun j _ => if_neg (Nat.not_lt_zero j)) (l16_of h)
theorem px_end (p x : List Int) : pxLaw p x 16 = plusLaw p x := l16_congr fun j hj => if_pos hj
noncomputable def A62 (az bz : List Int) (ga gb : Nat) (owa owb : Bool) (cb : Option Nat) (ps xs : List Int) (i k : Int) : Out := trim 4 4 [1,5,6,7,8] (run eGb 73 ⟨4, []⟩ 400 (roundOf 2 f62) [(1, .slice 1 1 gb 0 16 cb), (5, .slice 1 2 0 0 16 (some 16)), (6, .slice 1 3 1 0 16 none), (7, .int .i64 i), (8, .int .i64 k)] [some ⟨.ints .u8 az, ga, owa, 5⟩, some ⟨.ints .u8 bz, gb, owb, 5⟩, some ⟨.ints .u8 ps, 0, true, 5⟩, some ⟨.ints .u8 xs, 1, true, 5⟩] [some true])
theorem A62_ok {az bz : List Int} {ga gb : Nat} {owa owb : Bool} {cb : Option Nat} {ps xs : List Int} {i k : Int} (h : allP [.p (decide (k < 16) = true), .leI 0 k, .leI (k + 1) 16, .leN (k.toNat + 1) ps.length, .leI 0 k, .leI (k + 1) 16, .leN (k.toNat + 1) xs.length, .nn .u8 (ps.getD k.toNat 0), .nn .u8 (xs.getD k.toNat 0), .leI 0 k, .leI (k + 1) 16, .leN (k.toNat + 1) ps.length, .rng
 (-9223372036854775808) (k + 1) 9223372036854775807]) : Ok (A62 az bz ga gb owa owb cb ps xs i k) := Ok.dem (fl := bitsF 23 1459364) (by kernel_rfl) (by kernel_rfl) (by kernel_rfl) h
theorem A62_ex {az bz : List Int} {ga gb : Nat} {owa owb : Bool} {cb : Option Nat} {ps xs : List Int} {i k : Int} : (A62 az bz ga gb owa owb cb ps xs i k).ex = .normal := by kernel_rfl
theorem A62_fm {az bz : List Int} {ga gb : Nat} {owa owb : Bool} {cb : Option Nat} {ps xs : List Int} {i k : Int} : (A62 az bz ga gb owa owb cb ps xs i k).fm = [(1, .slice 1 1 gb 0 16 cb), (5, .slice 1 2 0 0 16 (some 16)), (6, .slice 1 3 1 0 16 none), (7, .int .i64 i), (8, .int .i64 (k + 1))] := by kernel_rfl
theorem A62_tab {az bz : List Int} {ga gb : Nat} {owa owb : Bool} {cb : Option Nat} {ps xs : List Int} {i k : Int} : (A62 az bz ga gb owa owb cb ps xs i k).tab = [some ⟨.ints .u8 az, ga, owa, 5⟩, some ⟨.ints .u8 bz, gb, owb, 5⟩, some ⟨.ints .u8 (ps.set k.toNat (ixor (ps.getD k.toNat 0) (xs.getD k.toNat 0))), 0, true, 5⟩, some ⟨.ints .u8 xs, 1, true, 5⟩] := by kernel_rfl
noncomputable def D62 (az bz : List Int) (ga gb : Nat) (owa owb : Bool) (cb : Option Nat) (ps xs : List Int) (i : Int) : Out := trim 4 4 [1,5,6,7] (run eGb 73 ⟨4, []⟩ 400 (roundOf 2 f62) [(1, .slice 1 1 gb 0 16 cb), (5, .slice 1 2 0 0 16 (some 16)), (6, .slice 1 3 1 0 16 none), (7, .int .i64 i), (8, .int .i64 16)] [some ⟨.ints .u8 az, ga, owa, 5⟩, some ⟨.ints .u8 bz, gb, owb, 5⟩, some ⟨.ints .u8 ps, 0, true, 5⟩, some ⟨.ints .u8 xs, 1, true, 5⟩] [])
theorem D62_ok {az bz : List Int} {ga gb : Nat} {owa owb : Bool} {cb : Option Nat} {ps xs : List Int} {i : Int} (h : allP []) : Ok (D62 az bz ga gb owa owb cb ps xs i) := Ok.dem (fl := []) (by kernel_rfl) (by kernel_rfl) (by kernel_rfl) h
theorem D62_ex {az bz : List Int} {ga gb : Nat} {owa owb : Bool} {cb : Option Nat} {ps xs : List Int} {i : Int} : (D62 az bz ga gb owa owb cb ps xs i).ex = .exit 2 := by kernel_rfl
theorem D62_fm {az bz : List Int} {ga gb : Nat} {owa owb : Bool} {cb : Option Nat} {ps xs : List Int} {i : Int} : (D62 az bz ga gb owa owb cb ps xs i).fm = [(1, .slice 1 1 gb 0 16 cb), (5, .slice 1 2 0 0 16 (some 16)), (6, .slice 1 3 1 0 16 none), (7, .int .i64 i)] := by kernel_rfl
theorem D62_tab {az bz : List Int} {ga gb : Nat} {owa owb : Bool} {cb : Option Nat} {ps xs : List Int} {i : Int} : (D62 az bz ga gb owa owb cb ps xs i).tab = [some ⟨.ints .u8 az, ga, owa, 5⟩, some ⟨.ints .u8 bz, gb, owb, 5⟩, some ⟨.ints .u8 ps, 0, true, 5⟩, some ⟨.ints .u8 xs, 1, true, 5⟩] := by kernel_rfl
theorem loop62a {az bz : List Int} {ga gb : Nat} {owa owb : Bool} {cb : Option Nat} {ps xs : List Int} (hp : Bytes ps) (hx : Bytes xs) (lp : ps.length = 16) (lx : xs.length = 16) (i : Int) : To eGb 73 4 (.block 2 (.loop (roundOf 2 f62))) [(1, .slice 1 1 gb 0 16 cb), (5, .slice 1 2 0 0 16 (some 16)), (6, .slice 1 3 1 0 16 none), (7, .int .i64 i), (8, .int .i64 0)] [some ⟨.ints .u8 az, ga, owa, 5⟩, some ⟨.ints .u8 bz, gb, owb, 5⟩, some ⟨.ints .u8 ps, 0, true, 5⟩, some ⟨.ints .u8 xs, 1, true, 5⟩] .normal [(1, .slice 1 1 gb 0 16 cb), (5, .slice 1 2 0 0 16 (some 16)), (6, .slice 1 3 1 0 16 none), (7, .int .i64 i)] [some ⟨.ints .u8 az, ga, owa, 5⟩, some ⟨.ints .u8 bz, gb, owb, 5⟩, some ⟨.ints .u8 (plusLaw ps xs), 0, true, 5⟩, some ⟨.ints .u8 xs, 1, true, 5⟩] := by
  have := To.rounds (E := eGb) (n := 73) (k := 4) (id := 2) (c := roundOf 2 f62) (fun k : Nat => [(1, .slice 1 1 gb 0 16 cb), (5, .slice 1 2 0 0 16 (some 16)), (6, .slice 1 3 1 0 16 none), (7, .int .i64 i), (8, .int .i64 (k : Nat))]) (fun k => [some ⟨.ints .u8 az, ga, owa, 5⟩, some ⟨.ints .u8 bz, gb, owb, 5⟩, some ⟨.ints .u8 (pxLaw ps xs k), 0, true, 5⟩, some ⟨.ints .u8 xs, 1, true, 5⟩]) 16 (fun k hk => ?_) (To.of (o := D62 az bz ga gb owa owb cb (pxLaw ps xs 16) xs i) eGb_ok hmA (Nat.le_refl 4) OrcOk.nil rfl (D62_ok trivial) D62_ex D62_fm D62_tab)
  · rw [px_zero lp, px_end] at this
    exact this
  · have h1 := (px_bytes hp hx k).get k
    have h2 := hx.get k
    refine To.of (o := A62 az bz ga gb owa owb cb (pxLaw ps xs k) xs i (k : Nat)) eGb_ok hmA (Nat.le_refl 4) OrcOk.nil rfl (A62_ok ?_) A62_ex A62_fm ?_
    · simp only [allP, Con.h, nonneg, addO_eq, Nat.zero_add, Nat.add_zero, Int.toNat_natCast, px_len, lx, decide_eq_true_eq, eq_self, true_and, and_true]
      omega
    · rw [A62_tab]
      simp only [addO_eq, Nat.zero_add, Nat.add_zero, Int.toNat_natCast]
      rw [px_step hk]
def hxLaw (x : List Int) (k : Nat) : List Int := l16 fun j => if k < j then ior (x.getD j 0 / 2) (x.getD (j - 1) 0 * 128 % 256) else x.getD j 0
theorem hx_step {x : List Int} {k : Nat} (hk : k + 1 < 16) : (hxLaw x (k + 1)).set (k + 1) (ior ((hxLaw x (k + 1)).getD (k + 1) 0 / 2) ((hxLaw x (k + 1)).getD k 0 * 128 % 256)) = hxLaw x k := by
  unfold hxLaw
  rw [l16_setG hk, l16_get _ _ hk, l16_get _ k (by omega), if_neg (Nat.lt_irrefl _), if_neg (by omega)]
  refine l16_congr fun j hj => ?_
  by_cases h : j = k + 1
  · subst h; rw [if_pos rfl, if_pos (Nat.lt_succ_self k)]; rfl
  · by_cases h2 : k + 1 < j
    · rw [if_neg h, if_pos h2, if_pos (by omega)]
    · rw [if_neg h, if_neg h2, if_neg (by omega)]
theorem hx_len (x : List Int) (k : Nat) : (hxLaw x k).length = 16 := rfl
theorem hx_byte {a b : Int} (ha : 0 ≤ a ∧ a < 256) : 0 ≤ ior (a / 2) (b * 128 % 256) ∧ ior (a / 2) (b * 128 % 256) < 256 := by
  have := Nat.or_lt_two_pow (n := 8) (x := (a / 2).toNat) (y := (b * 128 % 256).toNat) (by omega) (by omega)
  simp only [ior]
  omega
theorem hx_bytes {x : List Int} (hx : Bytes x) (k : Nat) : Bytes (hxLaw x k) := l16_bytes fun j _ => by
  split
  · exact hx_byte (hx.get j)
  · exact hx.get j
theorem hx_top {x : List Int} (h : x.length = 16) : hxLaw x 15 = x := Eq.trans (l16_congr fun j hj => if_neg (by omega)) (l16_of h)
def h1Law (x : List Int) : List Int := hxLaw x 0
noncomputable def G62 (az bz : List Int) (ga gb : Nat) (owa owb : Bool) (cb : Option Nat) (ps xs : List Int) (i k : Int) (t : Bool) : Out := trim 4 4 [1,5,6,7,9,10] (run eGb 73 ⟨4, []⟩ 400 (roundOf 4 f62) [(1, .slice 1 1 gb 0 16 cb), (5, .slice 1 2 0 0 16 (some 16)), (6, .slice 1 3 1 0 16 none), (7, .int .i64 i), (9, .bool t), (10, .int .i64 k)] [some ⟨.ints .u8 az, ga, owa, 5⟩, some ⟨.ints .u8 bz, gb, owb, 5⟩, some ⟨.ints .u8 ps, 0, true, 5⟩, some ⟨.ints .u8 xs, 1, true, 5⟩] [some true])
theorem G62_ok {az bz : List Int} {ga gb : Nat} {owa owb : Bool} {cb : Option Nat} {ps xs : List Int} {i k : Int} {t : Bool} (h : allP [.p (decide (0 < k) = true), .leI 0 k, .leI (k + 1) 16, .leN (k.toNat + 1) xs.length, .rng (-9223372036854775808) (k - 1) 9223372036854775807, .leI 0 (k - 1), .leI (k - 1 + 1) 16, .leN ((k - 1).toNat + 1) xs.length, .nn .u8 (xs.getD k.toNat 0 / 2), .nn .u8 (xs.getD
 (k - 1).toNat 0 * 128 % 256), .leI 0 k, .leI (k + 1) 16, .leN (k.toNat + 1) xs.length, .rng (-9223372036854775808) (k - 1) 9223372036854775807]) : Ok (G62 az bz ga gb owa owb cb ps xs i k t) := Ok.dem (fl := bitsF 26 11686564) (by kernel_rfl) (by kernel_rfl) (by kernel_rfl) h
theorem G62_ex {az bz : List Int} {ga gb : Nat} {owa owb : Bool} {cb : Option Nat} {ps xs : List Int} {i k : Int} {t : Bool} : (G62 az bz ga gb owa owb cb ps xs i k t).ex = .normal := by kernel_rfl
theorem G62_fm {az bz : List Int} {ga gb : Nat} {owa owb : Bool} {cb : Option Nat} {ps xs : List Int} {i k : Int} {t : Bool} : (G62 az bz ga gb owa owb cb ps xs i k t).fm = [(1, .slice 1 1 gb 0 16 cb), (5, .slice 1 2 0 0 16 (some 16)), (6, .slice 1 3 1 0 16 none), (7, .int .i64 i), (9, .bool t), (10, .int .i64 (k - 1))] := by kernel_rfl
theorem G62_tab {az bz : List Int} {ga gb : Nat} {owa owb : Bool} {cb : Option Nat} {ps xs : List Int} {i k : Int} {t : Bool} : (G62 az bz ga gb owa owb cb ps xs i k t).tab = [some ⟨.ints .u8 az, ga, owa, 5⟩, some ⟨.ints .u8 bz, gb, owb, 5⟩, some ⟨.ints .u8 ps, 0, true, 5⟩, some ⟨.ints .u8 (xs.set k.toNat (ior (xs.getD k.toNat 0 / 2) (xs.getD (k - 1).toNat 0 * 128 % 256))), 1, true, 5⟩] := by
 kernel_rfl
noncomputable def E62 (az bz : List Int) (ga gb : Nat) (owa owb : Bool) (cb : Option Nat) (ps xs : List Int) (i : Int) (t : Bool) : Out := trim 4 4 [1,5,6,7,9] (run eGb 73 ⟨4, []⟩ 400 (roundOf 4 f62) [(1, .slice 1 1 gb 0 16 cb), (5, .slice 1 2 0 0 16 (some 16)), (6, .slice 1 3 1 0 16 none), (7, .int .i64 i), (9, .bool t), (10, .int .i64 0)] [some ⟨.ints .u8 az, ga, owa, 5⟩, some ⟨.ints .u8 bz, gb, owb, 5⟩, some ⟨.ints .u8 ps, 0, true, 5⟩, some ⟨.ints .u8 xs, 1, true, 5⟩] [])
theorem E62_ok {az bz : List Int} {ga gb : Nat} {owa owb : Bool} {cb : Option Nat} {ps xs : List Int} {i : Int} {t : Bool} (h : allP []) : Ok (E62 az bz ga gb owa owb cb ps xs i t) := Ok.dem (fl := []) (by kernel_rfl) (by kernel_rfl) (by kernel_rfl) h
theorem E62_ex {az bz : List Int} {ga gb : Nat} {owa owb : Bool} {cb : Option Nat} {ps xs : List Int} {i : Int} {t : Bool} : (E62 az bz ga gb owa owb cb ps xs i t).ex = .exit 4 := by kernel_rfl
theorem E62_fm {az bz : List Int} {ga gb : Nat} {owa owb : Bool} {cb : Option Nat} {ps xs : List Int} {i : Int} {t : Bool} : (E62 az bz ga gb owa owb cb ps xs i t).fm = [(1, .slice 1 1 gb 0 16 cb), (5, .slice 1 2 0 0 16 (some 16)), (6, .slice 1 3 1 0 16 none), (7, .int .i64 i), (9, .bool t)] := by kernel_rfl
theorem E62_tab {az bz : List Int} {ga gb : Nat} {owa owb : Bool} {cb : Option Nat} {ps xs : List Int} {i : Int} {t : Bool} : (E62 az bz ga gb owa owb cb ps xs i t).tab = [some ⟨.ints .u8 az, ga, owa, 5⟩, some ⟨.ints .u8 bz, gb, owb, 5⟩, some ⟨.ints .u8 ps, 0, true, 5⟩, some ⟨.ints .u8 xs, 1, true, 5⟩] := by kernel_rfl
theorem loop62b {az bz : List Int} {ga gb : Nat} {owa owb : Bool} {cb : Option Nat} {ps xs : List Int} (hx : Bytes xs) (lx : xs.length = 16) (i : Int) (t : Bool) : To eGb 73 4 (.block 4 (.loop (roundOf 4 f62))) [(1, .slice 1 1 gb 0 16 cb), (5, .slice 1 2 0 0 16 (some 16)), (6, .slice 1 3 1 0 16 none), (7, .int .i64 i), (9, .bool t), (10, .int .i64 15)] [some ⟨.ints .u8 az, ga, owa, 5⟩, some ⟨.ints .u8 bz, gb, owb, 5⟩, some ⟨.ints .u8 ps, 0, true, 5⟩, some ⟨.ints .u8 xs, 1, true, 5⟩] .normal [(1, .slice 1 1 gb 0 16 cb), (5, .slice 1 2 0 0 16 (some 16)), (6, .slice 1 3 1 0 16 none), (7, .int .i64 i), (9, .bool t)] [some ⟨.ints .u8 az, ga, owa, 5⟩, some ⟨.ints .u8 bz, gb, owb, 5⟩, some ⟨.ints .u8 ps, 0, true, 5⟩, some ⟨.ints .u8 (h1Law xs), 1, true, 5⟩] := by
  have := To.rounds (E := eGb) (n := 73) (k := 4) (id := 4) (c := roundOf 4 f62) (fun k : Nat => [(1, .slice 1 1 gb 0 16 cb), (5, .slice 1 2 0 0 16 (some 16)), (6, .slice 1 3 1 0 16 none), (7, .int .i64 i), (9, .bool t), (10, .int .i64 (15 - (k : Int)))]) (fun k => [some ⟨.ints .u8 az, ga, owa, 5⟩, some ⟨.ints .u8 bz, gb, owb, 5⟩, some ⟨.ints .u8 ps, 0, true, 5⟩, some ⟨.ints .u8 (hxLaw xs (15 - k)), 1, true, 5⟩]) 15 (fun k hk => ?_) (To.of (o := E62 az bz ga gb owa owb cb ps (hxLaw xs (15 - 15)) i t) eGb_ok hmA (Nat.le_refl 4) OrcOk.nil rfl (E62_ok trivial) E62_ex E62_fm E62_tab)
  · rw [show (15 : Nat) - 0 = 15 by rfl, hx_top lx] at this
    exact this
  · obtain ⟨q, hq⟩ : ∃ q, 15 - k = q + 1 := ⟨14 - k, by omega⟩
    have h1 := (hx_bytes hx (q + 1)).get (q + 1)
    have h2 := (hx_bytes hx (q + 1)).get q
    have e1 : (15 - (k : Int)).toNat = q + 1 := by omega
    have e2 : (15 - (k : Int) - 1).toNat = q := by omega
    have e3 : 15 - (k + 1) = q := by omega
    refine To.of (o := G62 az bz ga gb owa owb cb ps (hxLaw xs (15 - k)) i (15 - (k : Int)) t) eGb_ok hmA (Nat.le_refl 4) OrcOk.nil rfl (G62_ok ?_) G62_ex ?_ ?_
    · rw [e1, e2, hq]
      simp only [allP, Con.h, nonneg, addO_eq, Nat.zero_add, Nat.add_zero, hx_len, decide_eq_true_eq, eq_self, true_and, and_true]
      omega
    · rw [G62_fm, show 15 - (k : Int) - 1 = 15 - ((k + 1 : Nat) : Int) by omega]
    · rw [G62_tab, e1, e2, hq, e3]
      try simp only [addO_eq, Nat.zero_add, Nat.add_zero]
      rw [hx_step (by omega)]
noncomputable def g62ac (vs : List AVal) (T : Tab) (az : List Int) (bz : List Int) (ga : Nat) (gb : Nat) (owa : Bool) (owb : Bool) (cb : Option Nat) (ps : List Int) (xs : List Int) (i : Int) : Out := ⟨[.tab T [some ⟨.ints .u8 az, ga, owa, 5⟩, some ⟨.ints .u8 bz, gb, owb, 5⟩, some ⟨.ints .u8 ps, 0, true, 5⟩, some ⟨.ints .u8 xs, 1, true, 5⟩], .val (.tuple vs) (.tuple [.slice 1 1 gb 0 16 cb, .slice 1 2 0 0 16 (some 16), .slice 1 3 1 0 16 none, .int .i64 i, .int .i64 0]), .p (Bytes ps), .p (Bytes xs), .eqN ps.length 16, .eqN xs.length 16], .normal, [(1, .slice 1 1 gb 0 16 cb), (5, .slice 1 2 0 0 16 (some 16)), (6, .slice 1 3 1 0 16 none), (7, .int .i64 i)], [some ⟨.ints .u8 az, ga, owa, 5⟩, some ⟨.ints .u8 bz, gb, owb, 5⟩, some ⟨.ints .u8 (plusLaw ps xs), 0, true, 5⟩, some ⟨.ints .u8 xs, 1, true, 5⟩], []⟩
theorem g62ac_ok {vs : List AVal} {T : Tab} {az : List Int} {bz : List Int} {ga : Nat} {gb : Nat} {owa : Bool} {owb : Bool} {cb : Option Nat} {ps : List Int} {xs : List Int} {i : Int} (h : Ok (g62ac vs T az bz ga gb owa owb cb ps xs i)) : To eGb 73 4 (.block 2 (.loop (roundOf 2 f62))) (zipF [1,5,6,7,8] vs) T (g62ac vs T az bz ga gb owa owb cb ps xs i).ex (g62ac vs T az bz ga gb owa owb cb ps xs i).fm (g62ac vs T az bz ga gb owa owb cb ps xs i).tab := by
  obtain ⟨hT, hv, h1, h2, h3, h4, _⟩ := h.h
  simp only [Con.h] at hT hv h1 h2 h3 h4
  injection hv with hv
  subst hT hv
  exact loop62a h1 h2 h3 h4 i
noncomputable def g62a : List AVal → Tab → Out := fun vs T => g62ac vs T (xsAt T 0) (xsAt T 1) (gAt T 0) (gAt T 1) (owAt T 0) (owAt T 1) (capOf (vAt vs 0)) (xsAt T 2) (xsAt T 3) (iOf (vAt vs 3))
theorem g62a_ok : BlkOk eGb f62 2 (.loop (roundOf 2 f62)) (blkS 4 [1,5,6,7,8] g62a) := blkS_ok fun vs T h => g62ac_ok h
noncomputable def g62bc (vs : List AVal) (T : Tab) (az : List Int) (bz : List Int) (ga : Nat) (gb : Nat) (owa : Bool) (owb : Bool) (cb : Option Nat) (ps : List Int) (xs : List Int) (i : Int) (t : Bool) : Out := ⟨[.tab T [some ⟨.ints .u8 az, ga, owa, 5⟩, some ⟨.ints .u8 bz, gb, owb, 5⟩, some ⟨.ints .u8 ps, 0, true, 5⟩, some ⟨.ints .u8 xs, 1, true, 5⟩], .val (.tuple vs) (.tuple [.slice 1 1 gb 0 16 cb, .slice 1 2 0 0 16 (some 16), .slice 1 3 1 0 16 none, .int .i64 i, .bool t, .int .i64 15]), .p (Bytes xs), .eqN xs.length 16], .normal, [(1, .slice 1 1 gb 0 16 cb), (5, .slice 1 2 0 0 16 (some 16)), (6, .slice 1 3 1 0 16 none), (7, .int .i64 i), (9, .bool t)], [some ⟨.ints .u8 az, ga, owa, 5⟩, some ⟨.ints .u8 bz, gb, owb, 5⟩, some ⟨.ints .u8 ps, 0, true, 5⟩, some ⟨.ints .u8 (h1Law xs), 1, true, 5⟩], []⟩
theorem g62bc_ok {vs : List AVal} {T : Tab} {az : List Int} {bz : List Int} {ga : Nat} {gb : Nat} {owa : Bool} {owb : Bool} {cb : Option Nat} {ps : List Int} {xs : List Int} {i : Int} {t : Bool} (h : Ok (g62bc vs T az bz ga gb owa owb cb ps xs i t)) : To eGb 73 4 (.block 4 (.loop (roundOf 4 f62))) (zipF [1,5,6,7,9,10] vs) T (g62bc vs T az bz ga gb owa owb cb ps xs i t).ex (g62bc vs T az bz ga gb owa owb cb ps xs i t).fm (g62bc vs T az bz ga gb owa owb cb ps xs i t).tab := by
  obtain ⟨hT, hv, h1, h2, _⟩ := h.h
  simp only [Con.h] at hT hv h1 h2
  injection hv with hv
  subst hT hv
  exact loop62b h1 h2 i t
noncomputable def g62b : List AVal → Tab → Out := fun vs T => g62bc vs T (xsAt T 0) (xsAt T 1) (gAt T 0) (gAt T 1) (owAt T 0) (owAt T 1) (capOf (vAt vs 0)) (xsAt T 2) (xsAt T 3) (iOf (vAt vs 3)) (bOf (vAt vs 4))
theorem g62b_ok : BlkOk eGb f62 4 (.loop (roundOf 4 f62)) (blkS 4 [1,5,6,7,9,10] g62b) := blkS_ok fun vs T h => g62bc_ok h
noncomputable def orc62i : OrcL := [(2, blkS 4 [1,5,6,7,8] g62a), (4, blkS 4 [1,5,6,7,9,10] g62b)]
theorem orc62i_ok {kb : Nat} : OrcOk eGb 73 ⟨kb, orc62i⟩ (roundOf 0 f62) := OrcOk.cons (fn := f62) g62a_ok (by kernel_rfl) (OrcOk.cons (fn := f62) g62b_ok (by kernel_rfl) OrcOk.nil)
noncomputable def O62tt (az bz : List Int) (ga gb : Nat) (owa owb : Bool) (cb : Option Nat) (ps xs : List Int) (i : Int) : Out := trim 4 4 [1,5,6,7] (run eGb 73 ⟨4, orc62i⟩ 400 (roundOf 0 f62) [(1, .slice 1 1 gb 0 16 cb), (5, .slice 1 2 0 0 16 (some 16)), (6, .slice 1 3 1 0 16 none), (7, .int .i64 i)] [some ⟨.ints .u8 az, ga, owa, 5⟩, some ⟨.ints .u8 bz, gb, owb, 5⟩, some ⟨.ints .u8 ps, 0, true, 5⟩, some ⟨.ints .u8 xs, 1, true, 5⟩] [some true, some true, some true])
theorem O62tt_ok {az bz : List Int} {ga gb : Nat} {owa owb : Bool} {cb : Option Nat} {ps xs : List Int} {i : Int} (h : allP [.p (decide (i < 128) = true), .eqN gb gb, .rng (-9223372036854775808) (i.tdiv 8) 9223372036854775807, .eqN gb gb, .leI 0 (i.tdiv 8), .leI (i.tdiv 8 + 1) 16, .eqN gb gb, .leN ((i.tdiv 8).toNat + 1) bz.length, .rng (-9223372036854775808) (7 - i.tmod 8) 9223372036854775807, .rng
 0 (7 - i.tmod 8) 18446744073709551615, .rng 0 (7 - i.tmod 8) 8, .nn .u8 (bz.getD (i.tdiv 8).toNat 0 / 2 ^ (7 - i.tmod 8).toNat), .p ((iand (bz.getD (i.tdiv 8).toNat 0 / 2 ^ (7 - i.tmod 8).toNat) 1 == 1) = true), .p (Bytes ps), .p (Bytes xs), .eqN ps.length 16, .eqN xs.length 16, .leN 16 xs.length, .nn .u8 (xs.getD 15 0 / 1), .p ((iand (xs.getD 15 0 / 1) 1 == 1) = true), .p (Bytes xs), .eqN
 xs.length 16, .nn .u8 (xs.getD 0 0 / 2), .rng (-9223372036854775808) (i + 1) 9223372036854775807]) : Ok (O62tt az bz ga gb owa owb cb ps xs i) := Ok.dem (fl := bitsF 69 294571442279024706052) (by kernel_rfl) (by kernel_rfl) (by kernel_rfl) h
theorem O62tt_ex {az bz : List Int} {ga gb : Nat} {owa owb : Bool} {cb : Option Nat} {ps xs : List Int} {i : Int} : (O62tt az bz ga gb owa owb cb ps xs i).ex = .normal := by kernel_rfl
theorem O62tt_fm {az bz : List Int} {ga gb : Nat} {owa owb : Bool} {cb : Option Nat} {ps xs : List Int} {i : Int} : (O62tt az bz ga gb owa owb cb ps xs i).fm = [(1, .slice 1 1 gb 0 16 cb), (5, .slice 1 2 0 0 16 (some 16)), (6, .slice 1 3 1 0 16 none), (7, .int .i64 (i + 1))] := by kernel_rfl
theorem O62tt_tab {az bz : List Int} {ga gb : Nat} {owa owb : Bool} {cb : Option Nat} {ps xs : List Int} {i : Int} : (O62tt az bz ga gb owa owb cb ps xs i).tab = [some ⟨.ints .u8 az, ga, owa, 5⟩, some ⟨.ints .u8 bz, gb, owb, 5⟩, some ⟨.ints .u8 (plusLaw ps xs), 0, true, 5⟩, some ⟨.ints .u8 (((h1Law xs).set 0 (xs.getD 0 0 / 2)).set 0 (ixor (xs.getD 0 0 / 2) 225)), 1, true, 5⟩] := by kernel_rfl
noncomputable def O62tf (az bz : List Int) (ga gb : Nat) (owa owb : Bool) (cb : Option Nat) (ps xs : List Int) (i : Int) : Out := trim 4 4 [1,5,6,7] (run eGb 73 ⟨4, orc62i⟩ 400 (roundOf 0 f62) [(1, .slice 1 1 gb 0 16 cb), (5, .slice 1 2 0 0 16 (some 16)), (6, .slice 1 3 1 0 16 none), (7, .int .i64 i)] [some ⟨.ints .u8 az, ga, owa, 5⟩, some ⟨.ints .u8 bz, gb, owb, 5⟩, some ⟨.ints .u8 ps, 0, true, 5⟩, some ⟨.ints .u8 xs, 1, true, 5⟩] [some true, some true, some false])
theorem O62tf_ok {az bz : List Int} {ga gb : Nat} {owa owb : Bool} {cb : Option Nat} {ps xs : List Int} {i : Int} (h : allP [.p (decide (i < 128) = true), .eqN gb gb, .rng (-9223372036854775808) (i.tdiv 8) 9223372036854775807, .eqN gb gb, .leI 0 (i.tdiv 8), .leI (i.tdiv 8 + 1) 16, .eqN gb gb, .leN ((i.tdiv 8).toNat + 1) bz.length, .rng (-9223372036854775808) (7 - i.tmod 8) 9223372036854775807, .rng
 0 (7 - i.tmod 8) 18446744073709551615, .rng 0 (7 - i.tmod 8) 8, .nn .u8 (bz.getD (i.tdiv 8).toNat 0 / 2 ^ (7 - i.tmod 8).toNat), .p ((iand (bz.getD (i.tdiv 8).toNat 0 / 2 ^ (7 - i.tmod 8).toNat) 1 == 1) = true), .p (Bytes ps), .p (Bytes xs), .eqN ps.length 16, .eqN xs.length 16, .leN 16 xs.length, .nn .u8 (xs.getD 15 0 / 1), .p ((iand (xs.getD 15 0 / 1) 1 == 1) = false), .p (Bytes xs), .eqN
 xs.length 16, .rng (-9223372036854775808) (i + 1) 9223372036854775807]) : Ok (O62tf az bz ga gb owa owb cb ps xs i) := Ok.dem (fl := bitsF 55 18012250484785668) (by kernel_rfl) (by kernel_rfl) (by kernel_rfl) h
theorem O62tf_ex {az bz : List Int} {ga gb : Nat} {owa owb : Bool} {cb : Option Nat} {ps xs : List Int} {i : Int} : (O62tf az bz ga gb owa owb cb ps xs i).ex = .normal := by kernel_rfl
theorem O62tf_fm {az bz : List Int} {ga gb : Nat} {owa owb : Bool} {cb : Option Nat} {ps xs : List Int} {i : Int} : (O62tf az bz ga gb owa owb cb ps xs i).fm = [(1, .slice 1 1 gb 0 16 cb), (5, .slice 1 2 0 0 16 (some 16)), (6, .slice 1 3 1 0 16 none), (7, .int .i64 (i + 1))] := by kernel_rfl
theorem O62tf_tab {az bz : List Int} {ga gb : Nat} {owa owb : Bool} {cb : Option Nat} {ps xs : List Int} {i : Int} : (O62tf az bz ga gb owa owb cb ps xs i).tab = [some ⟨.ints .u8 az, ga, owa, 5⟩, some ⟨.ints .u8 bz, gb, owb, 5⟩, some ⟨.ints .u8 (plusLaw ps xs), 0, true, 5⟩, some ⟨.ints .u8 ((h1Law xs).set 0 (xs.getD 0 0 / 2)), 1, true, 5⟩] := by kernel_rfl
noncomputable def O62ft (az bz : List Int) (ga gb : Nat) (owa owb : Bool) (cb : Option Nat) (ps xs : List Int) (i : Int) : Out := trim 4 4 [1,5,6,7] (run eGb 73 ⟨4, orc62i⟩ 400 (roundOf 0 f62) [(1, .slice 1 1 gb 0 16 cb), (5, .slice 1 2 0 0 16 (some 16)), (6, .slice 1 3 1 0 16 none), (7, .int .i64 i)] [some ⟨.ints .u8 az, ga, owa, 5⟩, some ⟨.ints .u8 bz, gb, owb, 5⟩, some ⟨.ints .u8 ps, 0, true, 5⟩, some ⟨.ints .u8 xs, 1, true, 5⟩] [some true, some false, some true])
theorem O62ft_ok {az bz : List Int} {ga gb : Nat} {owa owb : Bool} {cb : Option Nat} {ps xs : List Int} {i : Int} (h : allP [.p (decide (i < 128) = true), .eqN gb gb, .rng (-9223372036854775808) (i.tdiv 8) 9223372036854775807, .eqN gb gb, .leI 0 (i.tdiv 8), .leI (i.tdiv 8 + 1) 16, .eqN gb gb, .leN ((i.tdiv 8).toNat + 1) bz.length, .rng (-9223372036854775808) (7 - i.tmod 8) 9223372036854775807, .rng
 0 (7 - i.tmod 8) 18446744073709551615, .rng 0 (7 - i.tmod 8) 8, .nn .u8 (bz.getD (i.tdiv 8).toNat 0 / 2 ^ (7 - i.tmod 8).toNat), .p ((iand (bz.getD (i.tdiv 8).toNat 0 / 2 ^ (7 - i.tmod 8).toNat) 1 == 1) = false), .leN 16 xs.length, .nn .u8 (xs.getD 15 0 / 1), .p ((iand (xs.getD 15 0 / 1) 1 == 1) = true), .p (Bytes xs), .eqN xs.length 16, .nn .u8 (xs.getD 0 0 / 2), .rng (-9223372036854775808) (i +
 1) 9223372036854775807]) : Ok (O62ft az bz ga gb owa owb cb ps xs i) := Ok.dem (fl := bitsF 63 4602678785609777668) (by kernel_rfl) (by kernel_rfl) (by kernel_rfl) h
theorem O62ft_ex {az bz : List Int} {ga gb : Nat} {owa owb : Bool} {cb : Option Nat} {ps xs : List Int} {i : Int} : (O62ft az bz ga gb owa owb cb ps xs i).ex = .normal := by kernel_rfl
theorem O62ft_fm {az bz : List Int} {ga gb : Nat} {owa owb : Bool} {cb : Option Nat} {ps xs : List Int} {i : Int} : (O62ft az bz ga gb owa owb cb ps xs i).fm = [(1, .slice 1 1 gb 0 16 cb), (5, .slice 1 2 0 0 16 (some 16)), (6, .slice 1 3 1 0 16 none), (7, .int .i64 (i + 1))] := by kernel_rfl
theorem O62ft_tab {az bz : List Int} {ga gb : Nat} {owa owb : Bool} {cb : Option Nat} {ps xs : List Int} {i : Int} : (O62ft az bz ga gb owa owb cb ps xs i).tab = [some ⟨.ints .u8 az, ga, owa, 5⟩, some ⟨.ints .u8 bz, gb, owb, 5⟩, some ⟨.ints .u8 ps, 0, true, 5⟩, some ⟨.ints .u8 (((h1Law xs).set 0 (xs.getD 0 0 / 2)).set 0 (ixor (xs.getD 0 0 / 2) 225)), 1, true, 5⟩] := by kernel_rfl
noncomputable def O62ff (az bz : List Int) (ga gb : Nat) (owa owb : Bool) (cb : Option Nat) (ps xs : List Int) (i : Int) : Out := trim 4 4 [1,5,6,7] (run eGb 73 ⟨4, orc62i⟩ 400 (roundOf 0 f62) [(1, .slice 1 1 gb 0 16 cb), (5, .slice 1 2 0 0 16 (some 16)), (6, .slice 1 3 1 0 16 none), (7, .int .i64 i)] [some ⟨.ints .u8 az, ga, owa, 5⟩, some ⟨.ints .u8 bz, gb, owb, 5⟩, some ⟨.ints .u8 ps, 0, true, 5⟩, some ⟨.ints .u8 xs, 1, true, 5⟩] [some true, some false, some false])
theorem O62ff_ok {az bz : List Int} {ga gb : Nat} {owa owb : Bool} {cb : Option Nat} {ps xs : List Int} {i : Int} (h : allP [.p (decide (i < 128) = true), .eqN gb gb, .rng (-9223372036854775808) (i.tdiv 8) 9223372036854775807, .eqN gb gb, .leI 0 (i.tdiv 8), .leI (i.tdiv 8 + 1) 16, .eqN gb gb, .leN ((i.tdiv 8).toNat + 1) bz.length, .rng (-9223372036854775808) (7 - i.tmod 8) 9223372036854775807, .rng
 0 (7 - i.tmod 8) 18446744073709551615, .rng 0 (7 - i.tmod 8) 8, .nn .u8 (bz.getD (i.tdiv 8).toNat 0 / 2 ^ (7 - i.tmod 8).toNat), .p ((iand (bz.getD (i.tdiv 8).toNat 0 / 2 ^ (7 - i.tmod 8).toNat) 1 == 1) = false), .leN 16 xs.length, .nn .u8 (xs.getD 15 0 / 1), .p ((iand (xs.getD 15 0 / 1) 1 == 1) = false), .p (Bytes xs), .eqN xs.length 16, .rng (-9223372036854775808) (i + 1) 9223372036854775807]) :
 Ok (O62ff az bz ga gb owa owb cb ps xs i) := Ok.dem (fl := bitsF 49 281441413841412) (by kernel_rfl) (by kernel_rfl) (by kernel_rfl) h
theorem O62ff_ex {az bz : List Int} {ga gb : Nat} {owa owb : Bool} {cb : Option Nat} {ps xs : List Int} {i : Int} : (O62ff az bz ga gb owa owb cb ps xs i).ex = .normal := by kernel_rfl
theorem O62ff_fm {az bz : List Int} {ga gb : Nat} {owa owb : Bool} {cb : Option Nat} {ps xs : List Int} {i : Int} : (O62ff az bz ga gb owa owb cb ps xs i).fm = [(1, .slice 1 1 gb 0 16 cb), (5, .slice 1 2 0 0 16 (some 16)), (6, .slice 1 3 1 0 16 none), (7, .int .i64 (i + 1))] := by kernel_rfl
theorem O62ff_tab {az bz : List Int} {ga gb : Nat} {owa owb : Bool} {cb : Option Nat} {ps xs : List Int} {i : Int} : (O62ff az bz ga gb owa owb cb ps xs i).tab = [some ⟨.ints .u8 az, ga, owa, 5⟩, some ⟨.ints .u8 bz, gb, owb, 5⟩, some ⟨.ints .u8 ps, 0, true, 5⟩, some ⟨.ints .u8 ((h1Law xs).set 0 (xs.getD 0 0 / 2)), 1, true, 5⟩] := by kernel_rfl
noncomputable def X62 (az bz : List Int) (ga gb : Nat) (owa owb : Bool) (cb : Option Nat) (ps xs : List Int) : Out := trim 4 4 [5] (run eGb 73 ⟨4, []⟩ 400 (roundOf 0 f62) [(1, .slice 1 1 gb 0 16 cb), (5, .slice 1 2 0 0 16 (some 16)), (6, .slice 1 3 1 0 16 none), (7, .int .i64 128)] [some ⟨.ints .u8 az, ga, owa, 5⟩, some ⟨.ints .u8 bz, gb, owb, 5⟩, some ⟨.ints .u8 ps, 0, true, 5⟩, some ⟨.ints .u8 xs, 1, true, 5⟩] [])
theorem X62_ok {az bz : List Int} {ga gb : Nat} {owa owb : Bool} {cb : Option Nat} {ps xs : List Int} (h : allP []) : Ok (X62 az bz ga gb owa owb cb ps xs) := Ok.dem (fl := []) (by kernel_rfl) (by kernel_rfl) (by kernel_rfl) h
theorem X62_ex {az bz : List Int} {ga gb : Nat} {owa owb : Bool} {cb : Option Nat} {ps xs : List Int} : (X62 az bz ga gb owa owb cb ps xs).ex = .exit 0 := by kernel_rfl
theorem X62_fm {az bz : List Int} {ga gb : Nat} {owa owb : Bool} {cb : Option Nat} {ps xs : List Int} : (X62 az bz ga gb owa owb cb ps xs).fm = [(5, .slice 1 2 0 0 16 (some 16))] := by kernel_rfl
theorem X62_tab {az bz : List Int} {ga gb : Nat} {owa owb : Bool} {cb : Option Nat} {ps xs : List Int} : (X62 az bz ga gb owa owb cb ps xs).tab = [some ⟨.ints .u8 az, ga, owa, 5⟩, some ⟨.ints .u8 bz, gb, owb, 5⟩, some ⟨.ints .u8 ps, 0, true, 5⟩, some ⟨.ints .u8 xs, 1, true, 5⟩] := by kernel_rfl
end Go.Abs

set_option linter.unusedVariables false
set_option linter.unusedSimpArgs false
set_option maxRecDepth 8000
namespace Go.Abs
open Go.Proofs.Try
/-! ### the document's products, the whole -/
theorem half_nat {a : Int} (h : 0 ≤ a) : a / 2 = ((a.toNat / 2 : Nat) : Int) := by omega
theorem mul_nat {a : Int} (h : 0 ≤ a) : a * 128 % 256 = ((a.toNat * 128 % 256 : Nat) : Int) := by omega
theorem h1_eq {x : List Int} (hx : Bytes x) : (h1Law x).set 0 (x.getD 0 0 / 2) = hLaw x := by
  unfold h1Law hxLaw hLaw
  rw [l16_setG (by decide)]
  refine l16_congr fun j hj => ?_
  by_cases h : j = 0
  · subst h; rw [if_pos rfl, if_pos rfl, half_nat (hx.get 0).1]
  · rw [if_neg h, if_neg h, if_pos (by omega), half_nat (hx.get j).1, mul_nat (hx.get (j - 1)).1]
theorem dLaw_bN {x : Nat} (h : x < 2 ^ 128) : dLaw (bN x) = bN (dN x) := by
  have := bN_nB (dLaw_bytes (bN_bytes x)) (dLaw_len (bN x))
  rw [← this, nB_d (bN_bytes x) (bN_len x), nB_bN h]
theorem iand_bit (y s : Nat) : (iand ((y : Int) / 2 ^ s) 1 == 1) = y.testBit s := by
  have : (y : Int) / 2 ^ s = ((y >>> s : Nat) : Int) := by rw [Nat.shiftRight_eq_div_pow]; simp
  rw [this]
  simp only [iand, Int.toNat_natCast, show (1 : Int).toNat = 1 by rfl, Nat.and_one_is_mod]
  rw [← Nat.zero_add s, ← Nat.add_comm s, ← Nat.testBit_shiftRight, Nat.testBit_zero, Nat.add_zero]
  have : y >>> s % 2 < 2 := Nat.mod_lt _ (by decide)
  by_cases h : y >>> s % 2 = 1
  · simp [h]
  · have : y >>> s % 2 = 0 := by omega
    simp [this]
theorem iand_bit' {z : Int} (h : 0 ≤ z) (s : Nat) : (iand (z / 2 ^ s) 1 == 1) = z.toNat.testBit s := by
  obtain ⟨y, rfl⟩ := Int.eq_ofNat_of_zero_le h
  exact iand_bit y s
theorem sub_getD (l : List Int) {k n : Nat} (h : k < n) : (subLaw l 0 n).getD k 0 = l.getD k 0 := by
  unfold subLaw
  rw [List.drop_zero, List.getD_eq_getElem?_getD, List.getElem?_take_of_lt h, ← List.getD_eq_getElem?_getD]
theorem byte_div {z : Int} (h : 0 ≤ z ∧ z < 256) (s : Nat) : nonneg .u8 (z / 2 ^ s) := by
  have hp : (0 : Int) < 2 ^ s := by
    have := Nat.two_pow_pos s
    have e : (2 : Int) ^ s = ((2 ^ s : Nat) : Int) := by simp
    rw [e]; omega
  exact ⟨Int.ediv_nonneg h.1 (by omega), Int.lt_of_le_of_lt (Int.ediv_le_self _ h.1) h.2⟩
def T62 (az bz : List Int) (ga gb : Nat) (owa owb : Bool) (cb : Option Nat) (a b i : Nat) : Tab := [some ⟨.ints .u8 az, ga, owa, 5⟩, some ⟨.ints .u8 bz, gb, owb, 5⟩, some ⟨.ints .u8 (bN (accN a b i)), 0, true, 5⟩, some ⟨.ints .u8 (bN (apN a i)), 1, true, 5⟩]
theorem loop62 {az bz : List Int} {ga gb : Nat} {owa owb : Bool} {cb : Option Nat} (hbl : 16 ≤ bz.length) (hb : Bytes bz) {a b : Nat} (ha : a < 2 ^ 128) (eb : b = nB (subLaw bz 0 16)) : To eGb 73 4 (.block 0 (.loop (roundOf 0 f62))) [(1, .slice 1 1 gb 0 16 cb), (5, .slice 1 2 0 0 16 (some 16)), (6, .slice 1 3 1 0 16 none), (7, .int .i64 0)] (T62 az bz ga gb owa owb cb a b 0) .normal [(5, .slice 1 2 0 0 16 (some 16))] (T62 az bz ga gb owa owb cb a b 128) := by
  refine To.rounds (fun i : Nat => [(1, .slice 1 1 gb 0 16 cb), (5, .slice 1 2 0 0 16 (some 16)), (6, .slice 1 3 1 0 16 none), (7, .int .i64 (i : Nat))]) (T62 az bz ga gb owa owb cb a b) 128 (fun i hi => ?_) (To.of (o := X62 az bz ga gb owa owb cb (bN (accN a b 128)) (bN (apN a 128))) eGb_ok hmA (Nat.le_refl 4) OrcOk.nil rfl (X62_ok trivial) X62_ex X62_fm X62_tab)
  have hB := sub_bytes hb 0 16
  have lB : (subLaw bz 0 16).length = 16 := subLaw_len (by omega)
  have h1 := apN_lt ha i
  have e0 : (i : Int).tdiv 8 = ((i / 8 : Nat) : Int) := by rw [Int.tdiv_eq_ediv_of_nonneg (by omega)]; omega
  have e1 : (i : Int).tmod 8 = ((i % 8 : Nat) : Int) := by rw [Int.tmod_eq_emod_of_nonneg (by omega)]; omega
  have e2 : (7 - ((i % 8 : Nat) : Int)).toNat = 7 - i % 8 := by omega
  have hz := hb.get (i / 8)
  have bit : (iand (bz.getD (i / 8) 0 / 2 ^ (7 - i % 8)) 1 == 1) = b.testBit (127 - i) := by
    rw [iand_bit' hz.1, eb, nB_tbit hB lB hi, sub_getD bz (by omega), Nat.testBit_shiftRight, Nat.add_zero]
  have nb := byte_div hz (7 - i % 8)
  have xb := bN_bytes (apN a i)
  have pb := bN_bytes (accN a b i)
  have xl := bN_len (apN a i)
  have pl := bN_len (accN a b i)
  have x15 := xb.get 15
  have x0 := xb.get 0
  have top : (iand ((bN (apN a i)).getD 15 0 / 1) 1 == 1) = ((bN (apN a i)).getD 15 0).toNat.testBit 0 := by
    have := iand_bit' x15.1 0
    rwa [Int.pow_zero] at this
  have n15 : nonneg .u8 ((bN (apN a i)).getD 15 0 / 1) := by rw [Int.ediv_one]; exact x15
  have n0 : nonneg .u8 ((bN (apN a i)).getD 0 0 / 2) := by simp only [nonneg]; omega
  have hh := h1_eq xb
  have hd := dLaw_bN h1
  have hx0 : (hLaw (bN (apN a i))).getD 0 0 = (bN (apN a i)).getD 0 0 / 2 := by rw [half_nat x0.1]; rfl
  have acc1 : b.testBit (127 - i) = true → plusLaw (bN (accN a b i)) (bN (apN a i)) = bN (accN a b (i + 1)) := fun h => by
    rw [← bN_xor]; simp only [accN, h, if_true]
  have acc0 : b.testBit (127 - i) = false → bN (accN a b i) = bN (accN a b (i + 1)) := fun h => by
    simp only [accN, h, Bool.false_eq_true, if_false, Nat.xor_zero]
  have up1 : ((bN (apN a i)).getD 15 0).toNat.testBit 0 = true → ((h1Law (bN (apN a i))).set 0 ((bN (apN a i)).getD 0 0 / 2)).set 0 (ixor ((bN (apN a i)).getD 0 0 / 2) 225) = bN (apN a (i + 1)) := fun h => by
    show _ = bN (dN (apN a i))
    rw [hh, ← hd]
    unfold dLaw
    rw [if_pos h, hx0]
  have up0 : ((bN (apN a i)).getD 15 0).toNat.testBit 0 = false → (h1Law (bN (apN a i))).set 0 ((bN (apN a i)).getD 0 0 / 2) = bN (apN a (i + 1)) := fun h => by
    show _ = bN (dN (apN a i))
    rw [hh, ← hd]
    unfold dLaw
    rw [if_neg (by rw [h]; decide)]
  have hrange : i / 8 + 1 ≤ 16 := by omega
  cases hbit : b.testBit (127 - i) with
  | true =>
    rw [hbit] at bit
    cases htop : ((bN (apN a i)).getD 15 0).toNat.testBit 0 with
    | true =>
      rw [htop] at top
      refine To.of (o := O62tt az bz ga gb owa owb cb (bN (accN a b i)) (bN (apN a i)) (i : Nat)) eGb_ok hmA (Nat.le_refl 4) orc62i_ok rfl (O62tt_ok ?_) O62tt_ex O62tt_fm ?_
      · rw [e0, e1, e2, Int.toNat_natCast]
        simp only [allP, Con.h, bit, top, nb, n15, n0, xb, pb, xl, pl, decide_eq_true_eq, eq_self, true_and, and_true]
        omega
      · rw [O62tt_tab, acc1 hbit, up1 htop]; rfl
    | false =>
      rw [htop] at top
      refine To.of (o := O62tf az bz ga gb owa owb cb (bN (accN a b i)) (bN (apN a i)) (i : Nat)) eGb_ok hmA (Nat.le_refl 4) orc62i_ok rfl (O62tf_ok ?_) O62tf_ex O62tf_fm ?_
      · rw [e0, e1, e2, Int.toNat_natCast]
        simp only [allP, Con.h, bit, top, nb, n15, n0, xb, pb, xl, pl, decide_eq_true_eq, eq_self, true_and, and_true]
        omega
      · rw [O62tf_tab, acc1 hbit, up0 htop]; rfl
  | false =>
    rw [hbit] at bit
    cases htop : ((bN (apN a i)).getD 15 0).toNat.testBit 0 with
    | true =>
      rw [htop] at top
      refine To.of (o := O62ft az bz ga gb owa owb cb (bN (accN a b i)) (bN (apN a i)) (i : Nat)) eGb_ok hmA (Nat.le_refl 4) orc62i_ok rfl (O62ft_ok ?_) O62ft_ex O62ft_fm ?_
      · rw [e0, e1, e2, Int.toNat_natCast]
        simp only [allP, Con.h, bit, top, nb, n15, n0, xb, pb, xl, pl, decide_eq_true_eq, eq_self, true_and, and_true]
        omega
      · rw [O62ft_tab, acc0 hbit, up1 htop]; rfl
    | false =>
      rw [htop] at top
      refine To.of (o := O62ff az bz ga gb owa owb cb (bN (accN a b i)) (bN (apN a i)) (i : Nat)) eGb_ok hmA (Nat.le_refl 4) orc62i_ok rfl (O62ff_ok ?_) O62ff_ex O62ff_fm ?_
      · rw [e0, e1, e2, Int.toNat_natCast]
        simp only [allP, Con.h, bit, top, nb, n15, n0, xb, pb, xl, pl, decide_eq_true_eq, eq_self, true_and, and_true]
        omega
      · rw [O62ff_tab, acc0 hbit, up0 htop]; rfl
def mbLaw (x y : List Int) : List Int := bN (mulN (nB x) (nB y))
def apLaw128 (x : List Int) : List Int := bN (apN (nB x) 128)
noncomputable def g62c (vs : List AVal) (T : Tab) (az : List Int) (bz : List Int) (ga : Nat) (gb : Nat) (owa : Bool) (owb : Bool) (cb : Option Nat) (xs : List Int) : Out := ⟨[.tab T [some ⟨.ints .u8 az, ga, owa, 5⟩, some ⟨.ints .u8 bz, gb, owb, 5⟩, some ⟨.ints .u8 [0, 0, 0, 0, 0, 0, 0, 0, 0, 0, 0, 0, 0, 0, 0, 0], 0, true, 5⟩, some ⟨.ints .u8 xs, 1, true, 5⟩], .val (.tuple vs) (.tuple [.slice 1 1 gb 0 16 cb, .slice 1 2 0 0 16 (some 16), .slice 1 3 1 0 16 none, .int .i64 0]), .leN 16 bz.length, .p (Bytes bz), .p (Bytes xs), .eqN xs.length 16], .normal, [(5, .slice 1 2 0 0 16 (some 16))], [some ⟨.ints .u8 az, ga, owa, 5⟩, some ⟨.ints .u8 bz, gb, owb, 5⟩, some ⟨.ints .u8 (mbLaw xs (subLaw bz 0 16)), 0, true, 5⟩, some ⟨.ints .u8 (apLaw128 xs), 1, true, 5⟩], []⟩
theorem g62c_ok {vs : List AVal} {T : Tab} {az : List Int} {bz : List Int} {ga : Nat} {gb : Nat} {owa : Bool} {owb : Bool} {cb : Option Nat} {xs : List Int} (h : Ok (g62c vs T az bz ga gb owa owb cb xs)) : To eGb 73 4 (.block 0 (.loop (roundOf 0 f62))) (zipF [1,5,6,7] vs) T (g62c vs T az bz ga gb owa owb cb xs).ex (g62c vs T az bz ga gb owa owb cb xs).fm (g62c vs T az bz ga gb owa owb cb xs).tab := by
  obtain ⟨hT, hv, h1, h2, h3, h4, _⟩ := h.h
  simp only [Con.h] at hT hv h1 h2 h3 h4
  injection hv with hv
  subst hT hv
  have h := loop62 (az := az) (ga := ga) (gb := gb) (owa := owa) (owb := owb) (cb := cb) h1 h2 (nB_lt16 h3 h4) (b := nB (subLaw bz 0 16)) rfl
  have e0 : T62 az bz ga gb owa owb cb (nB xs) (nB (subLaw bz 0 16)) 0 = [some ⟨.ints .u8 az, ga, owa, 5⟩, some ⟨.ints .u8 bz, gb, owb, 5⟩, some ⟨.ints .u8 [0, 0, 0, 0, 0, 0, 0, 0, 0, 0, 0, 0, 0, 0, 0, 0], 0, true, 5⟩, some ⟨.ints .u8 xs, 1, true, 5⟩] := by
    show ([some ⟨.ints .u8 az, ga, owa, 5⟩, some ⟨.ints .u8 bz, gb, owb, 5⟩, some ⟨.ints .u8 (bN 0), 0, true, 5⟩, some ⟨.ints .u8 (bN (nB xs)), 1, true, 5⟩] : Tab) = _
    rw [bN_nB h3 h4, show bN 0 = [0, 0, 0, 0, 0, 0, 0, 0, 0, 0, 0, 0, 0, 0, 0, 0] by kernel_rfl]
  rw [e0] at h
  exact h
noncomputable def g62 : List AVal → Tab → Out := fun vs T => g62c vs T (xsAt T 0) (xsAt T 1) (gAt T 0) (gAt T 1) (owAt T 0) (owAt T 1) (capOf (vAt vs 0)) (xsAt T 3)
theorem g62_ok : BlkOk eGb f62 0 (.loop (roundOf 0 f62)) (blkS 4 [1,5,6,7] g62) := blkS_ok fun vs T h => g62c_ok h
noncomputable def orc62 : OrcL := [(0, blkS 4 [1,5,6,7] g62)]
theorem orc62_ok : FnOrc eGb f62 orc62 := FnOrc.cons g62_ok (by kernel_rfl) FnOrc.nil
noncomputable def R62 (az bz : List Int) (ga gb : Nat) (owa owb : Bool) (cb : Option Nat) (ca : Option Nat) : Res := resG 2 [0,1,2] (runF eGb f62 orc62 400 [.slice 1 0 ga 0 16 ca, .slice 1 1 gb 0 16 cb] [some ⟨.ints .u8 az, ga, owa, 5⟩, some ⟨.ints .u8 bz, gb, owb, 5⟩] [])
theorem R62_ok {az bz : List Int} {ga gb : Nat} {owa owb : Bool} {cb : Option Nat} {ca : Option Nat} (h : allP [.eqN ga ga, .leN 16 az.length, .leN 16 bz.length, .p (Bytes bz), .p (Bytes ([] ++ List.take 16 az)), .eqN ([] ++ List.take 16 az).length 16]) : OkR (R62 az bz ga gb owa owb cb ca) := OkR.dem (fl := bitsF 17 1279) (by kernel_rfl) (by kernel_rfl) (by kernel_rfl) h
theorem R62_val {az bz : List Int} {ga gb : Nat} {owa owb : Bool} {cb : Option Nat} {ca : Option Nat} : (R62 az bz ga gb owa owb cb ca).val = .slice 1 2 0 0 16 (some 16) := by kernel_rfl
theorem R62_tab {az bz : List Int} {ga gb : Nat} {owa owb : Bool} {cb : Option Nat} {ca : Option Nat} : (R62 az bz ga gb owa owb cb ca).tab = [some ⟨.ints .u8 az, ga, owa, 5⟩, some ⟨.ints .u8 bz, gb, owb, 5⟩, some ⟨.ints .u8 (mbLaw ([] ++ List.take 16 az) (subLaw bz 0 16)), 0, true, 5⟩] := by kernel_rfl
noncomputable def sm62c (args : List AVal) (T : Tab) (az : List Int) (bz : List Int) (ga : Nat) (gb : Nat) (owa : Bool) (owb : Bool) (cb : Option Nat) (ca : Option Nat) : Res := ⟨[.tab T [some ⟨.ints .u8 az, ga, owa, 5⟩, some ⟨.ints .u8 bz, gb, owb, 5⟩], .val (.tuple args) (.tuple [.slice 1 0 ga 0 16 ca, .slice 1 1 gb 0 16 cb]), .leN 16 az.length, .leN 16 bz.length, .p (Bytes az), .p (Bytes bz)], .slice 1 2 0 0 16 (some 16), [some ⟨.ints .u8 az, ga, owa, 5⟩, some ⟨.ints .u8 bz, gb, owb, 5⟩, some ⟨.ints .u8 (mbLaw (subLaw az 0 16) (subLaw bz 0 16)), 0, true, 5⟩]⟩
theorem sm62c_ok {args : List AVal} {T : Tab} {az : List Int} {bz : List Int} {ga : Nat} {gb : Nat} {owa : Bool} {owb : Bool} {cb : Option Nat} {ca : Option Nat} (h : allP (sm62c args T az bz ga gb owa owb cb ca).cs) : Small prog (fun _ => none) 62 args T (sm62c args T az bz ga gb owa owb cb ca).val (sm62c args T az bz ga gb owa owb cb ca).tab := by
  obtain ⟨hT, hv, h1, h2, h3, h4, _⟩ := h
  simp only [Con.h] at hT hv h1 h2 h3 h4
  injection hv with hv
  subst hT hv
  have b1 := sub_bytes h3 0 16
  have l1 : (subLaw az 0 16).length = 16 := subLaw_len (by omega)
  have e1 : ([] : List Int) ++ List.take 16 az = (subLaw az 0 16) := rfl
  refine small_ofG (R := R62 az bz ga gb owa owb cb ca) (keep := [0,1,2]) eGb_ok hmA (f := 62) (fn := f62) (by kernel_rfl) (by kernel_rfl) orc62_ok rfl (R62_ok ?_) R62_val R62_tab
  simp only [allP, Con.h, e1, l1, b1, h1, h2, h3, h4, eq_self, true_and, and_true]
  try omega
noncomputable def sm62 : Summary := fun args T => sm62c args T (xsAt T 0) (xsAt T 1) (gAt T 0) (gAt T 1) (owAt T 0) (owAt T 1) (capOf (vAt args 1)) (capOf (vAt args 0))
theorem sm62_ok : SmOk prog (fun _ => none) 62 sm62 := fun args T h => sm62c_ok h
noncomputable def S62 : Summary := callR sm62 []
theorem S62_ok : SumOk prog (fun _ => none) 62 S62 := callR_ok sm62_ok []
end Go.Abs

set_option linter.unusedVariables false
set_option linter.unusedSimpArgs false
set_option maxRecDepth 8000
namespace Go.Abs
open Go.Proofs.Try
/-! ### the document: full, counter, length, Times, Hash -/
def padLaw (n : Nat) : Nat := (16 - n % 16) % 16
def fullLaw (x : List Int) (k : Nat) : List Int := x ++ List.replicate k 0
theorem full_len (x : List Int) (k : Nat) : (fullLaw x k).length = x.length + k := by unfold fullLaw; rw [List.length_append, List.length_replicate]
theorem full_bytes {x : List Int} (h : Bytes x) (k : Nat) : Bytes (fullLaw x k) := h.append (Bytes.zer k)
theorem full_step (x : List Int) (k : Nat) : fullLaw x k ++ [0] = fullLaw x (k + 1) := by
  unfold fullLaw
  rw [List.append_assoc, ← List.replicate_succ']
noncomputable def A64 (zs : List Int) (g n : Nat) (cp : Option Nat) (ow : Bool) (x : List Int) (gg l : Nat) : Out := trimG 1 [0,1] [3] (run (eA []) 15 ⟨1, []⟩ 400 (roundOf 0 f64) [(3, .slice 1 1 gg 0 l none)] [some ⟨.ints .u8 zs, g, ow, 5⟩, some ⟨.ints .u8 x, gg, true, 5⟩] [some true])
theorem A64_ok {zs : List Int} {g n : Nat} {cp : Option Nat} {ow : Bool} {x : List Int} {gg l : Nat} (h : allP [.eqN gg gg, .p (((↑l : Int).tmod 16 != 0) = true), .eqN gg gg, .leN (0 + l) x.length, .leN (addO l 1) 140737488355328]) : Ok (A64 zs g n cp ow x gg l) := Ok.dem (fl := bitsF 12 3642) (by kernel_rfl) (by kernel_rfl) (by kernel_rfl) h
theorem A64_ex {zs : List Int} {g n : Nat} {cp : Option Nat} {ow : Bool} {x : List Int} {gg l : Nat} : (A64 zs g n cp ow x gg l).ex = .normal := by kernel_rfl
theorem A64_fm {zs : List Int} {g n : Nat} {cp : Option Nat} {ow : Bool} {x : List Int} {gg l : Nat} : (A64 zs g n cp ow x gg l).fm = [(3, .slice 1 1 (gg + 1) 0 (addO l 1) none)] := by kernel_rfl
theorem A64_tab {zs : List Int} {g n : Nat} {cp : Option Nat} {ow : Bool} {x : List Int} {gg l : Nat} : (A64 zs g n cp ow x gg l).tab = [some ⟨.ints .u8 zs, g, ow, 5⟩, some ⟨.ints .u8 (List.take l x ++ [0]), gg + 1, true, 5⟩] := by kernel_rfl
noncomputable def D64 (zs : List Int) (g n : Nat) (cp : Option Nat) (ow : Bool) (x : List Int) (gg l : Nat) : Out := trimG 1 [0,1] [3] (run (eA []) 15 ⟨1, []⟩ 400 (roundOf 0 f64) [(3, .slice 1 1 gg 0 l none)] [some ⟨.ints .u8 zs, g, ow, 5⟩, some ⟨.ints .u8 x, gg, true, 5⟩] [some false])
theorem D64_ok {zs : List Int} {g n : Nat} {cp : Option Nat} {ow : Bool} {x : List Int} {gg l : Nat} (h : allP [.eqN gg gg, .p (((↑l : Int).tmod 16 != 0) = false)]) : Ok (D64 zs g n cp ow x gg l) := Ok.dem (fl := [false, true, false]) (by kernel_rfl) (by kernel_rfl) (by kernel_rfl) h
theorem D64_ex {zs : List Int} {g n : Nat} {cp : Option Nat} {ow : Bool} {x : List Int} {gg l : Nat} : (D64 zs g n cp ow x gg l).ex = .exit 0 := by kernel_rfl
theorem D64_fm {zs : List Int} {g n : Nat} {cp : Option Nat} {ow : Bool} {x : List Int} {gg l : Nat} : (D64 zs g n cp ow x gg l).fm = [(3, .slice 1 1 gg 0 l none)] := by kernel_rfl
theorem D64_tab {zs : List Int} {g n : Nat} {cp : Option Nat} {ow : Bool} {x : List Int} {gg l : Nat} : (D64 zs g n cp ow x gg l).tab = [some ⟨.ints .u8 zs, g, ow, 5⟩, some ⟨.ints .u8 x, gg, true, 5⟩] := by kernel_rfl
theorem loop64 {zs : List Int} {g n : Nat} {cp : Option Nat} {ow : Bool} {x : List Int} (hx : x.length = n) (hn : n ≤ 140737488352000) : To (eA []) 15 1 (.block 0 (.loop (roundOf 0 f64))) [(3, .slice 1 1 1 0 n none)] [some ⟨.ints .u8 zs, g, ow, 5⟩, some ⟨.ints .u8 x, 1, true, 5⟩] .normal [(3, .slice 1 1 (1 + padLaw n) 0 (n + padLaw n) none)] [some ⟨.ints .u8 zs, g, ow, 5⟩, some ⟨.ints .u8 (fullLaw x (padLaw n)), (1 + padLaw n), true, 5⟩] := by
  have := To.rounds (E := eA []) (n := 15) (k := 1) (id := 0) (c := roundOf 0 f64) (fun k => [(3, .slice 1 1 (1 + k) 0 (n + k) none)]) (fun k => [some ⟨.ints .u8 zs, g, ow, 5⟩, some ⟨.ints .u8 (fullLaw x k), (1 + k), true, 5⟩]) (padLaw n) (fun k hk => ?_) (To.ofG (k := 1) (o := D64 zs g n cp ow (fullLaw x (padLaw n)) (1 + padLaw n) (n + padLaw n)) eA0_ok hmA (Nat.le_refl 1) OrcOk.nil rfl (D64_ok ?_) D64_ex D64_fm D64_tab)
  · rw [show fullLaw x 0 = x by unfold fullLaw; rw [List.replicate_zero, List.append_nil]] at this
    exact this
  · have hl := full_len x k
    unfold padLaw at hk
    refine To.ofG (k := 1) (o := A64 zs g n cp ow (fullLaw x k) (1 + k) (n + k)) eA0_ok hmA (Nat.le_refl 1) OrcOk.nil rfl (A64_ok ?_) A64_ex ?_ ?_
    · have e : (((n + k : Nat) : Int)).tmod 16 = (((n + k) % 16 : Nat) : Int) := by rw [Int.tmod_eq_emod_of_nonneg (by omega)]; omega
      simp only [allP, Con.h, e, hl, addO_eq, Nat.zero_add, bne_iff_ne, ne_eq, eq_self, true_and, and_true]
      omega
    · rw [A64_fm]; simp only [addO_eq]; rfl
    · rw [A64_tab, List.take_of_length_le (by omega), full_step]; rfl
  · have e : (((n + padLaw n : Nat) : Int)).tmod 16 = (((n + padLaw n) % 16 : Nat) : Int) := by rw [Int.tmod_eq_emod_of_nonneg (by omega)]; omega
    have : (n + padLaw n) % 16 = 0 := by unfold padLaw; omega
    simp only [allP, Con.h, e, this, eq_self, true_and, and_true]
    try decide
noncomputable def g64c (vs : List AVal) (T : Tab) (zs : List Int) (g : Nat) (n : Nat) (ow : Bool) (x : List Int) : Out := ⟨[.tab T [some ⟨.ints .u8 zs, g, ow, 5⟩, some ⟨.ints .u8 x, 1, true, 5⟩], .val (.tuple vs) (.tuple [.slice 1 1 1 0 n none]), .eqN x.length n, .leN n 140737488352000], .normal, [(3, .slice 1 1 (1 + padLaw n) 0 (n + padLaw n) none)], [some ⟨.ints .u8 zs, g, ow, 5⟩, some ⟨.ints .u8 (fullLaw x (padLaw n)), (1 + padLaw n), true, 5⟩], []⟩
theorem g64c_ok {vs : List AVal} {T : Tab} {zs : List Int} {g : Nat} {n : Nat} {ow : Bool} {x : List Int} (h : Ok (g64c vs T zs g n ow x)) : To (eA []) 15 1 (.block 0 (.loop (roundOf 0 f64))) (zipF [3] vs) T (g64c vs T zs g n ow x).ex (g64c vs T zs g n ow x).fm (g64c vs T zs g n ow x).tab := by
  obtain ⟨hT, hv, h1, h2, _⟩ := h.h
  simp only [Con.h] at hT hv h1 h2
  injection hv with hv
  subst hT hv
  exact loop64 (cp := none) h1 h2
noncomputable def g64 : List AVal → Tab → Out := fun vs T => g64c vs T (xsAt T 0) (gAt T 0) (lenOf (vAt vs 0)) (owAt T 0) (xsAt T 1)
theorem g64_ok : BlkOk (eA []) f64 0 (.loop (roundOf 0 f64)) (blkS2 1 2 [3] g64) := blkS2_ok fun vs T h => g64c_ok h
noncomputable def orc64 : OrcL := [(0, blkS2 1 2 [3] g64)]
theorem orc64_ok : FnOrc (eA []) f64 orc64 := FnOrc.cons g64_ok (by kernel_rfl) FnOrc.nil
noncomputable def R64 (zs : List Int) (g n : Nat) (cp : Option Nat) (ow : Bool) : Res := resG 1 [0,1] (runF (eA []) f64 orc64 400 [.slice 1 0 g 0 n cp] [some ⟨.ints .u8 zs, g, ow, 5⟩] [])
theorem R64_ok {zs : List Int} {g n : Nat} {cp : Option Nat} {ow : Bool} (h : allP [.leN n 140737488355328, .eqN g g, .leN (0 + n) zs.length, .eqN ([] ++ List.take n zs).length n, .leN n 140737488352000]) : OkR (R64 zs g n cp ow) := OkR.dem (fl := [true, true, true, false, false, false, true, false, false, false, false]) (by kernel_rfl) (by kernel_rfl) (by kernel_rfl) h
theorem R64_val {zs : List Int} {g n : Nat} {cp : Option Nat} {ow : Bool} : (R64 zs g n cp ow).val = .slice 1 1 (1 + padLaw n) 0 (n + padLaw n) none := by kernel_rfl
theorem R64_tab {zs : List Int} {g n : Nat} {cp : Option Nat} {ow : Bool} : (R64 zs g n cp ow).tab = [some ⟨.ints .u8 zs, g, ow, 5⟩, some ⟨.ints .u8 (fullLaw ([] ++ List.take n zs) (padLaw n)), 1 + padLaw n, true, 5⟩] := by kernel_rfl
noncomputable def sm64c (args : List AVal) (T : Tab) (zs : List Int) (g : Nat) (n : Nat) (cp : Option Nat) (ow : Bool) : Res := ⟨[.tab T [some ⟨.ints .u8 zs, g, ow, 5⟩], .val (.tuple args) (.tuple [.slice 1 0 g 0 n cp]), .leN n zs.length, .leN n 140737488352000], .slice 1 1 (1 + padLaw n) 0 (n + padLaw n) none, [some ⟨.ints .u8 zs, g, ow, 5⟩, some ⟨.ints .u8 (fullLaw (subLaw zs 0 n) (padLaw n)), 1 + padLaw n, true, 5⟩]⟩
theorem sm64c_ok {args : List AVal} {T : Tab} {zs : List Int} {g : Nat} {n : Nat} {cp : Option Nat} {ow : Bool} (h : allP (sm64c args T zs g n cp ow).cs) : Small prog (fun _ => none) 64 args T (sm64c args T zs g n cp ow).val (sm64c args T zs g n cp ow).tab := by
  obtain ⟨hT, hv, h1, h2, _⟩ := h
  simp only [Con.h] at hT hv h1 h2
  injection hv with hv
  subst hT hv
  have hx : (([] : List Int) ++ List.take n zs).length = n := by rw [List.nil_append, List.length_take]; omega
  refine small_ofG (R := R64 zs g n cp ow) (keep := [0,1]) eA0_ok hmA (f := 64) (fn := f64) (by kernel_rfl) (by kernel_rfl) orc64_ok rfl (R64_ok ?_) R64_val R64_tab
  simp only [allP, Con.h, hx, h1, Nat.zero_add, eq_self, true_and, and_true]
  try omega
noncomputable def sm64 : Summary := fun args T => sm64c args T (xsAt T 0) (gAt T 0) (lenOf (vAt args 0)) (capOf (vAt args 0)) (owAt T 0)
theorem sm64_ok : SmOk prog (fun _ => none) 64 sm64 := fun args T h => sm64c_ok h
noncomputable def S64 : Summary := callR sm64 []
theorem S64_ok : SumOk prog (fun _ => none) 64 S64 := callR_ok sm64_ok []
end Go.Abs

set_option linter.unusedVariables false
set_option linter.unusedSimpArgs false
set_option maxRecDepth 8000
namespace Go.Abs
open Go.Proofs.Try
/-! ### the document: Times, Hash -/
noncomputable def eGs : Env := eA [(62, S62), (64, S64)]
theorem eGs_ok : EnvOk eGs := envOf_ok tysA_ok (SumsOk.cons (fn := f62) S62_ok (by kernel_rfl) (by kernel_rfl) (by kernel_rfl) (SumsOk.cons (fn := f64) S64_ok (by kernel_rfl) (by kernel_rfl) (by kernel_rfl) trivial))
noncomputable def A38 (az bz : List Int) (ga gb gx l : Nat) (owa owb : Bool) (ca : Option Nat) (y x : List Int) (i k : Int) : Out := trim 4 4 [0,6,7,8,9] (run eGs 44 ⟨4, []⟩ 400 (roundOf 2 f38) [(0, .slice 1 0 ga 0 16 ca), (6, .slice 1 2 0 0 16 (some 16)), (7, .slice 1 3 gx 0 l none), (8, .int .i64 i), (9, .int .i64 k)] [some ⟨.ints .u8 az, ga, owa, 5⟩, some ⟨.ints .u8 bz, gb, owb, 5⟩, some ⟨.ints .u8 y, 0, true, 5⟩, some ⟨.ints .u8 x, gx, true, 5⟩] [some true])
theorem A38_ok {az bz : List Int} {ga gb gx l : Nat} {owa owb : Bool} {ca : Option Nat} {y x : List Int} {i k : Int} (h : allP [.p (decide (k < 16) = true), .leI 0 k, .leI (k + 1) 16, .leN (k.toNat + 1) y.length, .rng (-9223372036854775808) (i + k) 9223372036854775807, .eqN gx gx, .leI 0 (i + k), .leI (i + k + 1) (↑l : Int), .eqN gx gx, .leN ((i + k).toNat + 1) x.length, .nn .u8 (y.getD k.toNat 0),
 .nn .u8 (x.getD (i + k).toNat 0), .leI 0 k, .leI (k + 1) 16, .leN (k.toNat + 1) y.length, .rng (-9223372036854775808) (k + 1) 9223372036854775807]) : Ok (A38 az bz ga gb gx l owa owb ca y x i k) := Ok.dem (fl := bitsF 24 2916388) (by kernel_rfl) (by kernel_rfl) (by kernel_rfl) h
theorem A38_ex {az bz : List Int} {ga gb gx l : Nat} {owa owb : Bool} {ca : Option Nat} {y x : List Int} {i k : Int} : (A38 az bz ga gb gx l owa owb ca y x i k).ex = .normal := by kernel_rfl
theorem A38_fm {az bz : List Int} {ga gb gx l : Nat} {owa owb : Bool} {ca : Option Nat} {y x : List Int} {i k : Int} : (A38 az bz ga gb gx l owa owb ca y x i k).fm = [(0, .slice 1 0 ga 0 16 ca), (6, .slice 1 2 0 0 16 (some 16)), (7, .slice 1 3 gx 0 l none), (8, .int .i64 i), (9, .int .i64 (k + 1))] := by kernel_rfl
theorem A38_tab {az bz : List Int} {ga gb gx l : Nat} {owa owb : Bool} {ca : Option Nat} {y x : List Int} {i k : Int} : (A38 az bz ga gb gx l owa owb ca y x i k).tab = [some ⟨.ints .u8 az, ga, owa, 5⟩, some ⟨.ints .u8 bz, gb, owb, 5⟩, some ⟨.ints .u8 (y.set k.toNat (ixor (y.getD k.toNat 0) (x.getD (i + k).toNat 0))), 0, true, 5⟩, some ⟨.ints .u8 x, gx, true, 5⟩] := by kernel_rfl
noncomputable def D38 (az bz : List Int) (ga gb gx l : Nat) (owa owb : Bool) (ca : Option Nat) (y x : List Int) (i : Int) : Out := trim 4 4 [0,6,7,8] (run eGs 44 ⟨4, []⟩ 400 (roundOf 2 f38) [(0, .slice 1 0 ga 0 16 ca), (6, .slice 1 2 0 0 16 (some 16)), (7, .slice 1 3 gx 0 l none), (8, .int .i64 i), (9, .int .i64 16)] [some ⟨.ints .u8 az, ga, owa, 5⟩, some ⟨.ints .u8 bz, gb, owb, 5⟩, some ⟨.ints .u8 y, 0, true, 5⟩, some ⟨.ints .u8 x, gx, true, 5⟩] [])
theorem D38_ok {az bz : List Int} {ga gb gx l : Nat} {owa owb : Bool} {ca : Option Nat} {y x : List Int} {i : Int} (h : allP []) : Ok (D38 az bz ga gb gx l owa owb ca y x i) := Ok.dem (fl := []) (by kernel_rfl) (by kernel_rfl) (by kernel_rfl) h
theorem D38_ex {az bz : List Int} {ga gb gx l : Nat} {owa owb : Bool} {ca : Option Nat} {y x : List Int} {i : Int} : (D38 az bz ga gb gx l owa owb ca y x i).ex = .exit 2 := by kernel_rfl
theorem D38_fm {az bz : List Int} {ga gb gx l : Nat} {owa owb : Bool} {ca : Option Nat} {y x : List Int} {i : Int} : (D38 az bz ga gb gx l owa owb ca y x i).fm = [(0, .slice 1 0 ga 0 16 ca), (6, .slice 1 2 0 0 16 (some 16)), (7, .slice 1 3 gx 0 l none), (8, .int .i64 i)] := by kernel_rfl
theorem D38_tab {az bz : List Int} {ga gb gx l : Nat} {owa owb : Bool} {ca : Option Nat} {y x : List Int} {i : Int} : (D38 az bz ga gb gx l owa owb ca y x i).tab = [some ⟨.ints .u8 az, ga, owa, 5⟩, some ⟨.ints .u8 bz, gb, owb, 5⟩, some ⟨.ints .u8 y, 0, true, 5⟩, some ⟨.ints .u8 x, gx, true, 5⟩] := by kernel_rfl
theorem loop38i {az bz : List Int} {ga gb gx l : Nat} {owa owb : Bool} {ca : Option Nat} {y x : List Int} (ly : y.length = 16) (lx : x.length = l) (hy : Bytes y) (hx : Bytes x) {i : Nat} (hi : i + 16 ≤ l) (hl : l ≤ 140737488355300) : To eGs 44 4 (.block 2 (.loop (roundOf 2 f38))) [(0, .slice 1 0 ga 0 16 ca), (6, .slice 1 2 0 0 16 (some 16)), (7, .slice 1 3 gx 0 l none), (8, .int .i64 (i : Nat)), (9, .int .i64 0)] [some ⟨.ints .u8 az, ga, owa, 5⟩, some ⟨.ints .u8 bz, gb, owb, 5⟩, some ⟨.ints .u8 y, 0, true, 5⟩, some ⟨.ints .u8 x, gx, true, 5⟩] .normal [(0, .slice 1 0 ga 0 16 ca), (6, .slice 1 2 0 0 16 (some 16)), (7, .slice 1 3 gx 0 l none), (8, .int .i64 (i : Nat))] [some ⟨.ints .u8 az, ga, owa, 5⟩, some ⟨.ints .u8 bz, gb, owb, 5⟩, some ⟨.ints .u8 (plusLaw y (subLaw x i 16)), 0, true, 5⟩, some ⟨.ints .u8 x, gx, true, 5⟩] := by
  have := To.rounds (E := eGs) (n := 44) (k := 4) (id := 2) (c := roundOf 2 f38) (fun k : Nat => [(0, .slice 1 0 ga 0 16 ca), (6, .slice 1 2 0 0 16 (some 16)), (7, .slice 1 3 gx 0 l none), (8, .int .i64 (i : Nat)), (9, .int .i64 (k : Nat))]) (fun k => [some ⟨.ints .u8 az, ga, owa, 5⟩, some ⟨.ints .u8 bz, gb, owb, 5⟩, some ⟨.ints .u8 (pxLaw y (subLaw x i 16) k), 0, true, 5⟩, some ⟨.ints .u8 x, gx, true, 5⟩]) 16 (fun k hk => ?_) (To.of (o := D38 az bz ga gb gx l owa owb ca (pxLaw y (subLaw x i 16) 16) x (i : Nat)) eGs_ok hmA (Nat.le_refl 4) OrcOk.nil rfl (D38_ok trivial) D38_ex D38_fm D38_tab)
  · rw [px_zero ly, px_end] at this
    exact this
  · have h1 := (px_bytes hy (sub_bytes hx i 16) k).get k
    have h2 := hx.get (i + k)
    have e : ((i : Int) + k).toNat = i + k := by omega
    have e2 : (subLaw x i 16).getD k 0 = x.getD (i + k) 0 := by
      unfold subLaw
      rw [List.getD_eq_getElem?_getD, List.getElem?_take_of_lt hk, ← List.getD_eq_getElem?_getD, getD_drop]
    refine To.of (o := A38 az bz ga gb gx l owa owb ca (pxLaw y (subLaw x i 16) k) x (i : Nat) (k : Nat)) eGs_ok hmA (Nat.le_refl 4) OrcOk.nil rfl (A38_ok ?_) A38_ex A38_fm ?_
    · rw [e]
      simp only [allP, Con.h, nonneg, addO_eq, Nat.zero_add, Nat.add_zero, Int.toNat_natCast, px_len, lx, decide_eq_true_eq, eq_self, true_and, and_true]
      omega
    · rw [A38_tab, e]
      simp only [addO_eq, Nat.zero_add, Nat.add_zero, Int.toNat_natCast]
      rw [← e2, px_step hk]
noncomputable def g38ic (vs : List AVal) (T : Tab) (az : List Int) (bz : List Int) (ga : Nat) (gb : Nat) (gx : Nat) (l : Nat) (owa : Bool) (owb : Bool) (ca : Option Nat) (y : List Int) (x : List Int) (i : Nat) (ii : Int) : Out := ⟨[.tab T [some ⟨.ints .u8 az, ga, owa, 5⟩, some ⟨.ints .u8 bz, gb, owb, 5⟩, some ⟨.ints .u8 y, 0, true, 5⟩, some ⟨.ints .u8 x, gx, true, 5⟩], .val (.tuple vs) (.tuple [.slice 1 0 ga 0 16 ca, .slice 1 2 0 0 16 (some 16), .slice 1 3 gx 0 l none, .int .i64 ii, .int .i64 0]), .eqN y.length 16, .eqN x.length l, .p (Bytes y), .p (Bytes x), .p (ii = (i : Nat)), .leN (i + 16) l, .leN l 140737488355300], .normal, [(0, .slice 1 0 ga 0 16 ca), (6, .slice 1 2 0 0 16 (some 16)), (7, .slice 1 3 gx 0 l none), (8, .int .i64 ii)], [some ⟨.ints .u8 az, ga, owa, 5⟩, some ⟨.ints .u8 bz, gb, owb, 5⟩, some ⟨.ints .u8 (plusLaw y (subLaw x i 16)), 0, true, 5⟩, some ⟨.ints .u8 x, gx, true, 5⟩], []⟩
theorem g38ic_ok {vs : List AVal} {T : Tab} {az : List Int} {bz : List Int} {ga : Nat} {gb : Nat} {gx : Nat} {l : Nat} {owa : Bool} {owb : Bool} {ca : Option Nat} {y : List Int} {x : List Int} {i : Nat} {ii : Int} (h : Ok (g38ic vs T az bz ga gb gx l owa owb ca y x i ii)) : To eGs 44 4 (.block 2 (.loop (roundOf 2 f38))) (zipF [0,6,7,8,9] vs) T (g38ic vs T az bz ga gb gx l owa owb ca y x i ii).ex (g38ic vs T az bz ga gb gx l owa owb ca y x i ii).fm (g38ic vs T az bz ga gb gx l owa owb ca y x i ii).tab := by
  obtain ⟨hT, hv, h1, h2, h3, h4, h5, h6, h7, _⟩ := h.h
  simp only [Con.h] at hT hv h1 h2 h3 h4 h5 h6 h7
  injection hv with hv
  subst hT hv
  subst h5
  exact loop38i h1 h2 h3 h4 h6 h7
noncomputable def g38i : List AVal → Tab → Out := fun vs T => g38ic vs T (xsAt T 0) (xsAt T 1) (gAt T 0) (gAt T 1) (gAt T 3) (lenOf (vAt vs 2)) (owAt T 0) (owAt T 1) (capOf (vAt vs 0)) (xsAt T 2) (xsAt T 3) ((iOf (vAt vs 3)).toNat) (iOf (vAt vs 3))
theorem g38i_ok : BlkOk eGs f38 2 (.loop (roundOf 2 f38)) (blkS 4 [0,6,7,8,9] g38i) := blkS_ok fun vs T h => g38ic_ok h
noncomputable def orc38i : OrcL := [(2, blkS 4 [0,6,7,8,9] g38i)]
theorem orc38i_ok {kb : Nat} : OrcOk eGs 44 ⟨kb, orc38i⟩ (roundOf 0 f38) := OrcOk.cons (fn := f38) g38i_ok (by kernel_rfl) OrcOk.nil
noncomputable def O38 (az bz : List Int) (ga gb gx l : Nat) (owa owb : Bool) (ca : Option Nat) (y x : List Int) (i : Int) : Out := trimG 2 [0,1,4,3] [0,6,7,8] (run eGs 44 ⟨4, orc38i⟩ 400 (roundOf 0 f38) [(0, .slice 1 0 ga 0 16 ca), (6, .slice 1 2 0 0 16 (some 16)), (7, .slice 1 3 gx 0 l none), (8, .int .i64 i)] [some ⟨.ints .u8 az, ga, owa, 5⟩, some ⟨.ints .u8 bz, gb, owb, 5⟩, some ⟨.ints .u8 y, 0, true, 5⟩, some ⟨.ints .u8 x, gx, true, 5⟩] [some true])
theorem O38_ok {az bz : List Int} {ga gb gx l : Nat} {owa owb : Bool} {ca : Option Nat} {y x : List Int} {i : Int} (h : allP [.eqN gx gx, .p (decide (i < (↑l : Int)) = true), .eqN y.length 16, .eqN x.length l, .p (Bytes y), .p (Bytes x), .p (i = (↑i.toNat : Int)), .leN (i.toNat + 16) l, .leN l 140737488355300, .eqN ga ga, .leN 16 az.length, .p (Bytes (plusLaw y (subLaw x i.toNat 16))), .p (Bytes
 az), .rng (-9223372036854775808) (i + 16) 9223372036854775807]) : Ok (O38 az bz ga gb gx l owa owb ca y x i) := Ok.dem (fl := bitsF 20 34816) (by kernel_rfl) (by kernel_rfl) (by kernel_rfl) h
theorem O38_ex {az bz : List Int} {ga gb gx l : Nat} {owa owb : Bool} {ca : Option Nat} {y x : List Int} {i : Int} : (O38 az bz ga gb gx l owa owb ca y x i).ex = .normal := by kernel_rfl
theorem O38_fm {az bz : List Int} {ga gb gx l : Nat} {owa owb : Bool} {ca : Option Nat} {y x : List Int} {i : Int} : (O38 az bz ga gb gx l owa owb ca y x i).fm = [(0, .slice 1 0 ga 0 16 ca), (6, .slice 1 2 0 0 16 (some 16)), (7, .slice 1 3 gx 0 l none), (8, .int .i64 (i + 16))] := by kernel_rfl
theorem O38_tab {az bz : List Int} {ga gb gx l : Nat} {owa owb : Bool} {ca : Option Nat} {y x : List Int} {i : Int} : (O38 az bz ga gb gx l owa owb ca y x i).tab = [some ⟨.ints .u8 az, ga, owa, 5⟩, some ⟨.ints .u8 bz, gb, owb, 5⟩, some ⟨.ints .u8 (mbLaw (subLaw (plusLaw y (subLaw x i.toNat 16)) 0 16) (subLaw az 0 16)), 0, true, 5⟩, some ⟨.ints .u8 x, gx, true, 5⟩] := by kernel_rfl
noncomputable def E38 (az bz : List Int) (ga gb gx l : Nat) (owa owb : Bool) (ca : Option Nat) (y x : List Int) (i : Int) : Out := trim 4 4 [6] (run eGs 44 ⟨4, []⟩ 400 (roundOf 0 f38) [(0, .slice 1 0 ga 0 16 ca), (6, .slice 1 2 0 0 16 (some 16)), (7, .slice 1 3 gx 0 l none), (8, .int .i64 i)] [some ⟨.ints .u8 az, ga, owa, 5⟩, some ⟨.ints .u8 bz, gb, owb, 5⟩, some ⟨.ints .u8 y, 0, true, 5⟩, some ⟨.ints .u8 x, gx, true, 5⟩] [some false])
theorem E38_ok {az bz : List Int} {ga gb gx l : Nat} {owa owb : Bool} {ca : Option Nat} {y x : List Int} {i : Int} (h : allP [.eqN gx gx, .p (decide (i < (↑l : Int)) = false)]) : Ok (E38 az bz ga gb gx l owa owb ca y x i) := Ok.dem (fl := [false, false]) (by kernel_rfl) (by kernel_rfl) (by kernel_rfl) h
theorem E38_ex {az bz : List Int} {ga gb gx l : Nat} {owa owb : Bool} {ca : Option Nat} {y x : List Int} {i : Int} : (E38 az bz ga gb gx l owa owb ca y x i).ex = .exit 0 := by kernel_rfl
theorem E38_fm {az bz : List Int} {ga gb gx l : Nat} {owa owb : Bool} {ca : Option Nat} {y x : List Int} {i : Int} : (E38 az bz ga gb gx l owa owb ca y x i).fm = [(6, .slice 1 2 0 0 16 (some 16))] := by kernel_rfl
theorem E38_tab {az bz : List Int} {ga gb gx l : Nat} {owa owb : Bool} {ca : Option Nat} {y x : List Int} {i : Int} : (E38 az bz ga gb gx l owa owb ca y x i).tab = [some ⟨.ints .u8 az, ga, owa, 5⟩, some ⟨.ints .u8 bz, gb, owb, 5⟩, some ⟨.ints .u8 y, 0, true, 5⟩, some ⟨.ints .u8 x, gx, true, 5⟩] := by kernel_rfl
def rhLaw (H x : List Int) : Nat → List Int
  | 0 => [0, 0, 0, 0, 0, 0, 0, 0, 0, 0, 0, 0, 0, 0, 0, 0]
  | j + 1 => mbLaw (plusLaw (rhLaw H x j) (subLaw x (16 * j) 16)) H
theorem mb_bytes (x y : List Int) : Bytes (mbLaw x y) := bN_bytes _
theorem rh_len (H x : List Int) : ∀ j, (rhLaw H x j).length = 16
  | 0 => rfl
  | j + 1 => rfl
theorem rh_bytes (H x : List Int) : ∀ j, Bytes (rhLaw H x j)
  | 0 => Bytes.zer 16
  | j + 1 => mb_bytes _ _
def rhashLaw (H x : List Int) : List Int := rhLaw H x (x.length / 16)
theorem loop38 {az bz : List Int} {ga gb gx l : Nat} {owa owb : Bool} {ca : Option Nat} {x : List Int} (ha : 16 ≤ az.length) (hb : Bytes az) (lx : x.length = l) (hx : Bytes x) (hm : l % 16 = 0) (hl : l ≤ 140737488355200) : To eGs 44 2 (.block 0 (.loop (roundOf 0 f38))) [(0, .slice 1 0 ga 0 16 ca), (6, .slice 1 2 0 0 16 (some 16)), (7, .slice 1 3 gx 0 l none), (8, .int .i64 0)] [some ⟨.ints .u8 az, ga, owa, 5⟩, some ⟨.ints .u8 bz, gb, owb, 5⟩, some ⟨.ints .u8 [0, 0, 0, 0, 0, 0, 0, 0, 0, 0, 0, 0, 0, 0, 0, 0], 0, true, 5⟩, some ⟨.ints .u8 x, gx, true, 5⟩] .normal [(6, .slice 1 2 0 0 16 (some 16))] [some ⟨.ints .u8 az, ga, owa, 5⟩, some ⟨.ints .u8 bz, gb, owb, 5⟩, some ⟨.ints .u8 (rhashLaw (subLaw az 0 16) x), 0, true, 5⟩, some ⟨.ints .u8 x, gx, true, 5⟩] := by
  unfold rhashLaw
  refine To.rounds (fun j : Nat => [(0, .slice 1 0 ga 0 16 ca), (6, .slice 1 2 0 0 16 (some 16)), (7, .slice 1 3 gx 0 l none), (8, .int .i64 ((16 * j : Nat) : Int))]) (fun j => [some ⟨.ints .u8 az, ga, owa, 5⟩, some ⟨.ints .u8 bz, gb, owb, 5⟩, some ⟨.ints .u8 (rhLaw (subLaw az 0 16) x j), 0, true, 5⟩, some ⟨.ints .u8 x, gx, true, 5⟩]) (x.length / 16) (fun j hj => ?_) (To.base (by decide) (To.of (k := 4) (o := E38 az bz ga gb gx l owa owb ca (rhLaw (subLaw az 0 16) x (x.length / 16)) x ((16 * (x.length / 16) : Nat) : Int)) eGs_ok hmA (Nat.le_refl 4) OrcOk.nil rfl (E38_ok ?_) E38_ex E38_fm E38_tab))
  · have h1 := rh_len (subLaw az 0 16) x j
    have h2 := rh_bytes (subLaw az 0 16) x j
    have hp := plus_bytes h2 (sub_bytes hx (16 * j) 16)
    have lp : (plusLaw (rhLaw (subLaw az 0 16) x j) (subLaw x (16 * j) 16)).length = 16 := rfl
    refine To.ofG (k := 2) (o := O38 az bz ga gb gx l owa owb ca (rhLaw (subLaw az 0 16) x j) x ((16 * j : Nat) : Int)) eGs_ok hmA (by decide) orc38i_ok rfl (O38_ok ?_) O38_ex ?_ ?_
    · simp only [allP, Con.h, h1, h2, hp, lp, lx, hx, ha, hb, Int.toNat_natCast, decide_eq_true_eq, eq_self, true_and, and_true]
      omega
    · rw [O38_fm, show ((16 * j : Nat) : Int) + 16 = ((16 * (j + 1) : Nat) : Int) by omega]
    · rw [O38_tab, Int.toNat_natCast, sub_n lp]; rfl
  · simp only [allP, Con.h, decide_eq_false_iff_not, eq_self, true_and, and_true]
    omega
noncomputable def g38c (vs : List AVal) (T : Tab) (az : List Int) (bz : List Int) (ga : Nat) (gb : Nat) (gx : Nat) (l : Nat) (owa : Bool) (owb : Bool) (ca : Option Nat) (x : List Int) : Out := ⟨[.tab T [some ⟨.ints .u8 az, ga, owa, 5⟩, some ⟨.ints .u8 bz, gb, owb, 5⟩, some ⟨.ints .u8 [0, 0, 0, 0, 0, 0, 0, 0, 0, 0, 0, 0, 0, 0, 0, 0], 0, true, 5⟩, some ⟨.ints .u8 x, gx, true, 5⟩], .val (.tuple vs) (.tuple [.slice 1 0 ga 0 16 ca, .slice 1 2 0 0 16 (some 16), .slice 1 3 gx 0 l none, .int .i64 0]), .leN 16 az.length, .p (Bytes az), .eqN x.length l, .p (Bytes x), .eqN (l % 16) 0, .leN l 140737488355200], .normal, [(6, .slice 1 2 0 0 16 (some 16))], [some ⟨.ints .u8 az, ga, owa, 5⟩, some ⟨.ints .u8 bz, gb, owb, 5⟩, some ⟨.ints .u8 (rhashLaw (subLaw az 0 16) x), 0, true, 5⟩, some ⟨.ints .u8 x, gx, true, 5⟩], []⟩
theorem g38c_ok {vs : List AVal} {T : Tab} {az : List Int} {bz : List Int} {ga : Nat} {gb : Nat} {gx : Nat} {l : Nat} {owa : Bool} {owb : Bool} {ca : Option Nat} {x : List Int} (h : Ok (g38c vs T az bz ga gb gx l owa owb ca x)) : To eGs 44 2 (.block 0 (.loop (roundOf 0 f38))) (zipF [0,6,7,8] vs) T (g38c vs T az bz ga gb gx l owa owb ca x).ex (g38c vs T az bz ga gb gx l owa owb ca x).fm (g38c vs T az bz ga gb gx l owa owb ca x).tab := by
  obtain ⟨hT, hv, h1, h2, h3, h4, h5, h6, _⟩ := h.h
  simp only [Con.h] at hT hv h1 h2 h3 h4 h5 h6
  injection hv with hv
  subst hT hv
  exact loop38 h1 h2 h3 h4 h5 h6
noncomputable def g38 : List AVal → Tab → Out := fun vs T => g38c vs T (xsAt T 0) (xsAt T 1) (gAt T 0) (gAt T 1) (gAt T 3) (lenOf (vAt vs 2)) (owAt T 0) (owAt T 1) (capOf (vAt vs 0)) (xsAt T 3)
theorem g38_ok : BlkOk eGs f38 0 (.loop (roundOf 0 f38)) (blkS2 2 4 [0,6,7,8] g38) := blkS2_ok fun vs T h => g38c_ok h
noncomputable def orc38 : OrcL := [(0, blkS2 2 4 [0,6,7,8] g38)]
theorem orc38_ok : FnOrc eGs f38 orc38 := FnOrc.cons g38_ok (by kernel_rfl) FnOrc.nil
noncomputable def R38g (az bz : List Int) (ga gb : Nat) (owa owb : Bool) (ca cb : Option Nat) (n1 : Nat) : Res := resG 2 [0,1,2] (runF eGs f38 orc38 400 [.slice 1 0 ga 0 16 ca, .slice 1 1 gb 0 n1 cb] [some ⟨.ints .u8 az, ga, owa, 5⟩, some ⟨.ints .u8 bz, gb, owb, 5⟩] [some false])
theorem R38g_ok {az bz : List Int} {ga gb : Nat} {owa owb : Bool} {ca cb : Option Nat} {n1 : Nat} (h : allP [.eqN ga ga, .p (false = false), .eqN gb gb, .leN n1 bz.length, .leN n1 140737488352000, .leN 16 az.length, .p (Bytes az), .eqN (fullLaw (subLaw bz 0 n1) (padLaw n1)).length (n1 + padLaw n1), .p (Bytes (fullLaw (subLaw bz 0 n1) (padLaw n1))), .eqN ((n1 + padLaw n1) % 16) 0, .leN (n1 + padLaw
 n1) 140737488355200]) : OkR (R38g az bz ga gb owa owb ca cb n1) := OkR.dem (fl := bitsF 19 60) (by kernel_rfl) (by kernel_rfl) (by kernel_rfl) h
theorem R38g_val {az bz : List Int} {ga gb : Nat} {owa owb : Bool} {ca cb : Option Nat} {n1 : Nat} : (R38g az bz ga gb owa owb ca cb n1).val = .tuple [.slice 1 2 0 0 16 (some 16), .int .i64 0] := by kernel_rfl
theorem R38g_tab {az bz : List Int} {ga gb : Nat} {owa owb : Bool} {ca cb : Option Nat} {n1 : Nat} : (R38g az bz ga gb owa owb ca cb n1).tab = [some ⟨.ints .u8 az, ga, owa, 5⟩, some ⟨.ints .u8 bz, gb, owb, 5⟩, some ⟨.ints .u8 (rhashLaw (subLaw az 0 16) (fullLaw (subLaw bz 0 n1) (padLaw n1))), 0, true, 5⟩] := by kernel_rfl
noncomputable def sm38c (args : List AVal) (T : Tab) (az : List Int) (bz : List Int) (ga : Nat) (gb : Nat) (owa : Bool) (owb : Bool) (ca : Option Nat) (cb : Option Nat) (n1 : Nat) : Res := ⟨[.tab T [some ⟨.ints .u8 az, ga, owa, 5⟩, some ⟨.ints .u8 bz, gb, owb, 5⟩], .val (.tuple args) (.tuple [.slice 1 0 ga 0 16 ca, .slice 1 1 gb 0 n1 cb]), .leN 16 az.length, .leN n1 bz.length, .p (Bytes az), .p (Bytes bz), .leN n1 140737488352000], .tuple [.slice 1 2 0 0 16 (some 16), .int .i64 0], [some ⟨.ints .u8 az, ga, owa, 5⟩, some ⟨.ints .u8 bz, gb, owb, 5⟩, some ⟨.ints .u8 (rhashLaw (subLaw az 0 16) (fullLaw (subLaw bz 0 n1) (padLaw n1))), 0, true, 5⟩]⟩
theorem sm38c_ok {args : List AVal} {T : Tab} {az : List Int} {bz : List Int} {ga : Nat} {gb : Nat} {owa : Bool} {owb : Bool} {ca : Option Nat} {cb : Option Nat} {n1 : Nat} (h : allP (sm38c args T az bz ga gb owa owb ca cb n1).cs) : Small prog (fun _ => none) 38 args T (sm38c args T az bz ga gb owa owb ca cb n1).val (sm38c args T az bz ga gb owa owb ca cb n1).tab := by
  obtain ⟨hT, hv, h1, h2, h3, h4, h5, _⟩ := h
  simp only [Con.h] at hT hv h1 h2 h3 h4 h5
  injection hv with hv
  subst hT hv
  have lx : (subLaw bz 0 n1).length = n1 := subLaw_len (by omega)
  have lf := full_len (subLaw bz 0 n1) (padLaw n1)
  have bf := full_bytes (sub_bytes h4 0 n1) (padLaw n1)
  have hp : padLaw n1 < 16 ∧ (n1 + padLaw n1) % 16 = 0 := by unfold padLaw; omega
  refine small_ofG (R := R38g az bz ga gb owa owb ca cb n1) (keep := [0,1,2]) eGs_ok hmA (f := 38) (fn := f38) (by kernel_rfl) (by kernel_rfl) orc38_ok rfl (R38g_ok ?_) R38g_val R38g_tab
  simp only [allP, Con.h, lf, lx, bf, hp.2, h1, h2, h3, h5, eq_self, true_and, and_true]
  omega
noncomputable def sm38 : Summary := fun args T => sm38c args T (xsAt T 0) (xsAt T 1) (gAt T 0) (gAt T 1) (owAt T 0) (owAt T 1) (capOf (vAt args 0)) (capOf (vAt args 1)) (lenOf (vAt args 1))
theorem sm38_ok : SmOk prog (fun _ => none) 38 sm38 := fun args T h => sm38c_ok h
noncomputable def S38 : Summary := callR sm38 []
theorem S38_ok : SumOk prog (fun _ => none) 38 S38 := callR_ok sm38_ok []
end Go.Abs

set_option linter.unusedVariables false
set_option linter.unusedSimpArgs false
set_option maxRecDepth 8000
namespace Go.Abs
open Go.Proofs.Try
/-! ### blocks, of the document -/
noncomputable def eR : Env := eA [(39, S39), (42, S42), (47, S47), (48, S48), (49, S49), (50, S50)]
theorem eR_ok : EnvOk eR := envOf_ok tysA_ok (SumsOk.cons (fn := f39) S39_ok (by kernel_rfl) (by kernel_rfl) (by kernel_rfl) (SumsOk.cons (fn := f42) S42_ok (by kernel_rfl) (by kernel_rfl) (by kernel_rfl) (SumsOk.cons (fn := f47) S47_ok (by kernel_rfl) (by kernel_rfl) (by kernel_rfl) (SumsOk.cons (fn := f48) S48_ok (by kernel_rfl) (by kernel_rfl) (by kernel_rfl) (SumsOk.cons (fn := f49) S49_ok (by kernel_rfl) (by kernel_rfl) (by kernel_rfl) (SumsOk.cons (fn := f50) S50_ok (by kernel_rfl) (by kernel_rfl) (by kernel_rfl) trivial))))))
noncomputable def A24 (r : Int) (s ks : List Int) (zs bs : List Int) (g0 g1 : Nat) (ow0 ow1 : Bool) : Out := trimG 2 [0,1,2,3,9] [6,7,8,9] (run eR 43 ⟨5, []⟩ 400 (roundOf 0 f24) [(6, .slice 1 2 256 0 256 none), (7, .slice 1 3 161 0 176 none), (8, .slice 1 4 15 0 16 none), (9, .int .i64 r)] [some ⟨.ints .u8 zs, g0, ow0, 5⟩, some ⟨.ints .u8 bs, g1, ow1, 5⟩, some ⟨.ints .u8 BOXLaw, 256, true, 5⟩, some ⟨.ints .u8 ks, 161, true, 5⟩, some ⟨.ints .u8 s, 15, true, 5⟩] [some true, some true])
theorem A24_ok {r : Int} {s ks : List Int} {zs bs : List Int} {g0 g1 : Nat} {ow0 ow1 : Bool} (h : allP [.p (decide (r ≤ 10) = true), .leN 16 s.length, .p (Bytes s), .p (byLaw 1), .p (decide (r < 10) = true), .p (Bytes (turnedLaw 1 (thruLaw BOXLaw s))), .p (colsLaw [2, 3, 1, 1]), .rng 0 r 10, .leN 176 ks.length, .p (Bytes (mixByLaw timesLaw [2, 3, 1, 1] (turnedLaw 1 (thruLaw BOXLaw s)))), .p (Bytes
 ks), .rng (-9223372036854775808) (r + 1) 9223372036854775807]) : Ok (A24 r s ks zs bs g0 g1 ow0 ow1) := Ok.dem (fl := bitsF 41 102676555614) (by kernel_rfl) (by kernel_rfl) (by kernel_rfl) h
theorem A24_ex {r : Int} {s ks : List Int} {zs bs : List Int} {g0 g1 : Nat} {ow0 ow1 : Bool} : (A24 r s ks zs bs g0 g1 ow0 ow1).ex = .normal := by kernel_rfl
theorem A24_fm {r : Int} {s ks : List Int} {zs bs : List Int} {g0 g1 : Nat} {ow0 ow1 : Bool} : (A24 r s ks zs bs g0 g1 ow0 ow1).fm = [(6, .slice 1 2 256 0 256 none), (7, .slice 1 3 161 0 176 none), (8, .slice 1 4 15 0 16 none), (9, .int .i64 (r + 1))] := by kernel_rfl
theorem A24_tab {r : Int} {s ks : List Int} {zs bs : List Int} {g0 g1 : Nat} {ow0 ow1 : Bool} : (A24 r s ks zs bs g0 g1 ow0 ow1).tab = [some ⟨.ints .u8 zs, g0, ow0, 5⟩, some ⟨.ints .u8 bs, g1, ow1, 5⟩, some ⟨.ints .u8 BOXLaw, 256, true, 5⟩, some ⟨.ints .u8 ks, 161, true, 5⟩, some ⟨.ints .u8 (plusLaw (List.take 16 (mixByLaw timesLaw [2, 3, 1, 1] (turnedLaw 1 (thruLaw BOXLaw s)))) (subLaw ks (16 *
 r.toNat) 16)), 15, true, 5⟩] := by kernel_rfl
noncomputable def C24 (r : Int) (s ks : List Int) (zs bs : List Int) (g0 g1 : Nat) (ow0 ow1 : Bool) : Out := trimG 2 [0,1,2,3,7] [6,7,8,9] (run eR 43 ⟨5, []⟩ 400 (roundOf 0 f24) [(6, .slice 1 2 256 0 256 none), (7, .slice 1 3 161 0 176 none), (8, .slice 1 4 15 0 16 none), (9, .int .i64 r)] [some ⟨.ints .u8 zs, g0, ow0, 5⟩, some ⟨.ints .u8 bs, g1, ow1, 5⟩, some ⟨.ints .u8 BOXLaw, 256, true, 5⟩, some ⟨.ints .u8 ks, 161, true, 5⟩, some ⟨.ints .u8 s, 15, true, 5⟩] [some true, some false])
theorem C24_ok {r : Int} {s ks : List Int} {zs bs : List Int} {g0 g1 : Nat} {ow0 ow1 : Bool} (h : allP [.p (decide (r ≤ 10) = true), .leN 16 s.length, .p (Bytes s), .p (byLaw 1), .p (decide (r < 10) = false), .rng 0 r 10, .leN 176 ks.length, .p (Bytes (turnedLaw 1 (thruLaw BOXLaw s))), .p (Bytes ks), .rng (-9223372036854775808) (r + 1) 9223372036854775807]) : Ok (C24 r s ks zs bs g0 g1 ow0 ow1) :=
 Ok.dem (fl := bitsF 25 1566558) (by kernel_rfl) (by kernel_rfl) (by kernel_rfl) h
theorem C24_ex {r : Int} {s ks : List Int} {zs bs : List Int} {g0 g1 : Nat} {ow0 ow1 : Bool} : (C24 r s ks zs bs g0 g1 ow0 ow1).ex = .normal := by kernel_rfl
theorem C24_fm {r : Int} {s ks : List Int} {zs bs : List Int} {g0 g1 : Nat} {ow0 ow1 : Bool} : (C24 r s ks zs bs g0 g1 ow0 ow1).fm = [(6, .slice 1 2 256 0 256 none), (7, .slice 1 3 161 0 176 none), (8, .slice 1 4 15 0 16 none), (9, .int .i64 (r + 1))] := by kernel_rfl
theorem C24_tab {r : Int} {s ks : List Int} {zs bs : List Int} {g0 g1 : Nat} {ow0 ow1 : Bool} : (C24 r s ks zs bs g0 g1 ow0 ow1).tab = [some ⟨.ints .u8 zs, g0, ow0, 5⟩, some ⟨.ints .u8 bs, g1, ow1, 5⟩, some ⟨.ints .u8 BOXLaw, 256, true, 5⟩, some ⟨.ints .u8 ks, 161, true, 5⟩, some ⟨.ints .u8 (plusLaw (List.take 16 (turnedLaw 1 (thruLaw BOXLaw s))) (subLaw ks (16 * r.toNat) 16)), 15, true, 5⟩] := by
 kernel_rfl
noncomputable def D24 (r : Int) (s ks : List Int) (zs bs : List Int) (g0 g1 : Nat) (ow0 ow1 : Bool) : Out := trimG 2 [0,1,2,3,4] [8] (run eR 43 ⟨5, []⟩ 400 (roundOf 0 f24) [(6, .slice 1 2 256 0 256 none), (7, .slice 1 3 161 0 176 none), (8, .slice 1 4 15 0 16 none), (9, .int .i64 r)] [some ⟨.ints .u8 zs, g0, ow0, 5⟩, some ⟨.ints .u8 bs, g1, ow1, 5⟩, some ⟨.ints .u8 BOXLaw, 256, true, 5⟩, some ⟨.ints .u8 ks, 161, true, 5⟩, some ⟨.ints .u8 s, 15, true, 5⟩] [some false])
theorem D24_ok {r : Int} {s ks : List Int} {zs bs : List Int} {g0 g1 : Nat} {ow0 ow1 : Bool} (h : allP [.p (decide (r ≤ 10) = false)]) : Ok (D24 r s ks zs bs g0 g1 ow0 ow1) := Ok.dem (fl := [false]) (by kernel_rfl) (by kernel_rfl) (by kernel_rfl) h
theorem D24_ex {r : Int} {s ks : List Int} {zs bs : List Int} {g0 g1 : Nat} {ow0 ow1 : Bool} : (D24 r s ks zs bs g0 g1 ow0 ow1).ex = .exit 0 := by kernel_rfl
theorem D24_fm {r : Int} {s ks : List Int} {zs bs : List Int} {g0 g1 : Nat} {ow0 ow1 : Bool} : (D24 r s ks zs bs g0 g1 ow0 ow1).fm = [(8, .slice 1 4 15 0 16 none)] := by kernel_rfl
theorem D24_tab {r : Int} {s ks : List Int} {zs bs : List Int} {g0 g1 : Nat} {ow0 ow1 : Bool} : (D24 r s ks zs bs g0 g1 ow0 ow1).tab = [some ⟨.ints .u8 zs, g0, ow0, 5⟩, some ⟨.ints .u8 bs, g1, ow1, 5⟩, some ⟨.ints .u8 BOXLaw, 256, true, 5⟩, some ⟨.ints .u8 ks, 161, true, 5⟩, some ⟨.ints .u8 s, 15, true, 5⟩] := by kernel_rfl
theorem thru_box (s : List Int) : thruLaw BOXLaw s = boxedLaw s := rfl
def T24 (ks zs bs : List Int) (g0 g1 : Nat) (ow0 ow1 : Bool) (s : List Int) : Tab := [some ⟨.ints .u8 zs, g0, ow0, 5⟩, some ⟨.ints .u8 bs, g1, ow1, 5⟩, some ⟨.ints .u8 BOXLaw, 256, true, 5⟩, some ⟨.ints .u8 ks, 161, true, 5⟩, some ⟨.ints .u8 s, 15, true, 5⟩]
def F24 (r : Int) : Fm := [(6, .slice 1 2 256 0 256 none), (7, .slice 1 3 161 0 176 none), (8, .slice 1 4 15 0 16 none), (9, .int .i64 r)]
theorem loop24 {ks s : List Int} (hk : ks.length = 176) (hkb : Bytes ks) (hs : Bytes s) {zs bs : List Int} {g0 g1 : Nat} {ow0 ow1 : Bool} :
    To eR 43 2 (.block 0 (.loop (roundOf 0 f24))) (F24 1) (T24 ks zs bs g0 g1 ow0 ow1 (encLaw ks s 0)) .normal [(8, .slice 1 4 15 0 16 none)] (T24 ks zs bs g0 g1 ow0 ow1 (encLaw ks s 10)) := by
  refine To.rounds (fun i : Nat => F24 (i + 1 : Nat)) (fun i => T24 ks zs bs g0 g1 ow0 ow1 (encLaw ks s i)) 10 (fun i hi => ?_)
    (To.ofG (keep := [0,1,2,3,4]) (o := D24 (11 : Nat) (encLaw ks s 10) ks zs bs g0 g1 ow0 ow1) eR_ok hmA (by decide) OrcOk.nil rfl (D24_ok (by simp [allP, Con.h])) D24_ex D24_fm D24_tab)
  have hl := enc_len ks s i
  have hb := enc_bytes hkb hs i
  have hb1 := turned_bytes (n := 1) (boxed_bytes hb)
  have hm : Bytes (mixByLaw timesLaw [2, 3, 1, 1] (turnedLaw 1 (boxedLaw (encLaw ks s i)))) := mix_bytes (turnedLaw 1 (boxedLaw (encLaw ks s i)))
  by_cases h : i = 9
  · subst h
    refine To.ofG (keep := [0,1,2,3,7]) (o := C24 (10 : Nat) (encLaw ks s 9) ks zs bs g0 g1 ow0 ow1) eR_ok hmA (by decide) OrcOk.nil rfl (C24_ok ?_) C24_ex C24_fm (by rw [C24_tab, take_self rfl]; rfl)
    simp only [allP, Con.h, thru_box, hl, hb, hb1, hk, hkb, by_a, decide_eq_true_eq, decide_eq_false_iff_not, eq_self, and_true, true_and]
    first | omega | simp
  · refine To.ofG (keep := [0,1,2,3,9]) (o := A24 (i + 1 : Nat) (encLaw ks s i) ks zs bs g0 g1 ow0 ow1) eR_ok hmA (by decide) OrcOk.nil rfl (A24_ok ?_) A24_ex A24_fm ?_
    · simp only [allP, Con.h, thru_box, hl, hb, hb1, hm, hk, hkb, by_a, cols_a, decide_eq_true_eq, eq_self, and_true, true_and]
      omega
    · rw [A24_tab, take_self rfl, Int.toNat_natCast]
      show _ = T24 ks zs bs g0 g1 ow0 ow1 (encRLaw ks (encLaw ks s i) (i + 1))
      unfold encRLaw
      rw [if_neg (by omega)]
      rfl
def g24 : List AVal → Tab → Out := fun vs T => match vs, T with
  | [.slice 1 2 256 0 256 none, .slice 1 3 161 0 176 none, .slice 1 4 15 0 16 none, .int .i64 r], [some ⟨.ints .u8 zs, g0, ow0, 5⟩, some ⟨.ints .u8 bs, g1, ow1, 5⟩, some ⟨.ints .u8 bx, 256, true, 5⟩, some ⟨.ints .u8 ks, 161, true, 5⟩, some ⟨.ints .u8 s, 15, true, 5⟩] =>
    ⟨[.rng 1 r 1, .p (bx = BOXLaw), .eqN ks.length 176, .p (Bytes ks), .p (Bytes (subLaw bs 0 16)), .p (s = encLaw ks (subLaw bs 0 16) 0)], .normal, [(8, .slice 1 4 15 0 16 none)],
      [some ⟨.ints .u8 zs, g0, ow0, 5⟩, some ⟨.ints .u8 bs, g1, ow1, 5⟩, some ⟨.ints .u8 bx, 256, true, 5⟩, some ⟨.ints .u8 ks, 161, true, 5⟩, some ⟨.ints .u8 (blockLaw ks (subLaw bs 0 16)), 15, true, 5⟩], []⟩
  | _, _ => failO
theorem g24_ok : BlkOk eR f24 0 (.loop (roundOf 0 f24)) (blkS2 2 5 [6,7,8,9] g24) := by
  refine blkS2_ok fun vs T h => ?_
  unfold g24 at h ⊢
  split at h
  · rename_i r zs g0 ow0 bs g1 ow1 bx ks s
    obtain ⟨h1, h2, h3, h4, h5, h6, _⟩ := h.h
    simp only [Con.h] at h1 h2 h3 h4 h5 h6
    obtain rfl : r = 1 := by omega
    subst h2 h6
    exact loop24 h3 h4 h5
  · exact absurd h nofailO
noncomputable def orc24 : OrcL := [(0, blkS2 2 5 [6,7,8,9] g24)]
theorem orc24_ok : FnOrc eR f24 orc24 := FnOrc.cons g24_ok (by kernel_rfl) FnOrc.nil
noncomputable def R24 (zs bs : List Int) (g0 g1 : Nat) (cp0 cp1 : Option Nat) (ow0 ow1 : Bool) : Res := resG 2 [0,1,4] (runF eR f24 orc24 400 [.slice 1 0 g0 0 16 cp0, .slice 1 1 g1 0 16 cp1] [some ⟨.ints .u8 zs, g0, ow0, 5⟩, some ⟨.ints .u8 bs, g1, ow1, 5⟩] [])
theorem R24_ok {zs bs : List Int} {g0 g1 : Nat} {cp0 cp1 : Option Nat} {ow0 ow1 : Bool} (h : allP [.eqN g0 g0, .eqN g1 g1, .eqN g0 g0, .eqN g0 g0, .leN 16 zs.length, .p (BOXLaw = BOXLaw), .p (Bytes (subLaw zs 0 16)), .eqN g1 g1, .eqN g1 g1, .leN 16 bs.length, .leN 176 (ksLaw (subLaw zs 0 16) 176).length, .p (Bytes bs), .p (Bytes (ksLaw (subLaw zs 0 16) 176)), .p (BOXLaw = BOXLaw), .eqN (ksLaw
 (subLaw zs 0 16) 176).length 176, .p (Bytes (ksLaw (subLaw zs 0 16) 176)), .p (Bytes (subLaw bs 0 16)), .p (plusLaw (List.take 16 bs) (subLaw (ksLaw (subLaw zs 0 16) 176) 0 16) = encLaw (ksLaw (subLaw zs 0 16) 176) (subLaw bs 0 16) 0)]) : OkR (R24 zs bs g0 g1 cp0 cp1 ow0 ow1) := OkR.dem (fl := bitsF 26 1160232) (by kernel_rfl) (by kernel_rfl) (by kernel_rfl) h
theorem R24_val {zs bs : List Int} {g0 g1 : Nat} {cp0 cp1 : Option Nat} {ow0 ow1 : Bool} : (R24 zs bs g0 g1 cp0 cp1 ow0 ow1).val = .tuple [.slice 1 2 15 0 16 none, .int .i64 0] := by kernel_rfl
theorem R24_tab {zs bs : List Int} {g0 g1 : Nat} {cp0 cp1 : Option Nat} {ow0 ow1 : Bool} : (R24 zs bs g0 g1 cp0 cp1 ow0 ow1).tab = [some ⟨.ints .u8 zs, g0, ow0, 5⟩, some ⟨.ints .u8 bs, g1, ow1, 5⟩, some ⟨.ints .u8 (blockLaw (ksLaw (subLaw zs 0 16) 176) (subLaw bs 0 16)), 15, true, 5⟩] := by kernel_rfl
end Go.Abs

set_option linter.unusedVariables false
set_option linter.unusedSimpArgs false
set_option maxRecDepth 8000
namespace Go.Abs
open Go.Proofs.Try
def sm24 : Summary := fun args T => match args, T with
  | [.slice 1 0 g0 0 16 cp0, .slice 1 1 g1 0 16 cp1], [some ⟨.ints .u8 zs, g0', ow0, 5⟩, some ⟨.ints .u8 bs, g1', ow1, 5⟩] =>
    ⟨[.eqN g0 g0', .eqN g1 g1', .leN 16 zs.length, .leN 16 bs.length, .p (Bytes (subLaw zs 0 16)), .p (Bytes bs)], .tuple [.slice 1 2 15 0 16 none, .int .i64 0],
      [some ⟨.ints .u8 zs, g0', ow0, 5⟩, some ⟨.ints .u8 bs, g1', ow1, 5⟩, some ⟨.ints .u8 (blockLaw (ksLaw (subLaw zs 0 16) 176) (subLaw bs 0 16)), 15, true, 5⟩]⟩
  | _, _ => fail
theorem sm24_ok : SmOk prog (fun _ => none) 24 sm24 := by
  intro args T hc
  unfold sm24 at hc ⊢
  split at hc
  · rename_i g0 cp0 g1 cp1 zs g0' ow0 bs g1' ow1
    obtain ⟨h1, h2, h3, h4, h5, h6, _⟩ := hc
    simp only [Con.h] at h1 h2 h3 h4 h5 h6
    subst h1 h2
    have hl := ksLaw_len (subLaw_len (zs := zs) (off := 0) (n := 16) (by omega)) (n := 176) (by decide)
    have hb := ksLaw_bytes h5 176
    have hs : (subLaw bs 0 16).length = 16 := subLaw_len (by omega)
    have hsb := sub_bytes h6 0 16
    have q0 : ∀ l : List Int, List.take 16 l = subLaw l 0 16 := fun l => rfl
    have q1 : ∀ l : List Int, [] ++ l = l := fun l => rfl
    refine small_ofG (keep := [0,1,4]) (R := R24 zs bs g0 g1 cp0 cp1 ow0 ow1) eR_ok hmA (f := 24) (fn := f24) (by kernel_rfl) (by kernel_rfl) orc24_ok rfl (R24_ok ?_) R24_val R24_tab
    generalize ksLaw (subLaw zs 0 16) 176 = ks at hl hb ⊢
    have hsk : (subLaw ks 0 16).length = 16 := subLaw_len (by omega)
    have hbk := sub_bytes hb 0 16
    have hd := dec_bytes hsb (ks := ks) 10
    have hdl := dec_len hs (ks := ks) 10
    simp only [allP, Con.h, q0, q1, hl, hb, hs, hsb, hsk, hbk, hd, hdl, h3, h4, h5, h6, eq_self, and_true, true_and]
    first | trivial | rfl | omega | exact ⟨rfl, by omega⟩ | exact ⟨by omega, rfl⟩
  · exact absurd hc nofail
def S24 : Summary := callR sm24 []
theorem S24_ok : SumOk prog (fun _ => none) 24 S24 := callR_ok sm24_ok []
end Go.Abs

set_option linter.unusedVariables false
set_option linter.unusedSimpArgs false
set_option maxRecDepth 8000
namespace Go.Abs
open Go.Proofs.Try
/-! ### the document: counter, length, turned -/
noncomputable def eGr : Env := eA [(24, S24)]
theorem eGr_ok : EnvOk eGr := envOf_ok tysA_ok (SumsOk.cons (fn := f24) S24_ok (by kernel_rfl) (by kernel_rfl) (by kernel_rfl) trivial)
noncomputable def R74 (zs ns : List Int) (gk gn : Nat) (cpk cpn : Option Nat) (owk own : Bool) (m : Int) : Res := resG 2 [0,1,4] (runF eGr f74 [] 400 [.slice 1 0 gk 0 16 cpk, .slice 1 1 gn 0 12 cpn, .int .i64 m] [some ⟨.ints .u8 zs, gk, owk, 5⟩, some ⟨.ints .u8 ns, gn, own, 5⟩] [])
theorem R74_ok {zs ns : List Int} {gk gn : Nat} {cpk cpn : Option Nat} {owk own : Bool} {m : Int} (h : allP [.eqN gn gn, .leN 12 ns.length, .leN 12 ([] ++ List.take 12 ns).length, .eqN gk gk, .eqN gk gk, .leN 16 zs.length, .leN 16 (List.take 12 ([] ++ List.take 12 ns) ++ [m / 16777216 % 256, m / 65536 % 256, m / 256 % 256, m % 256]).length, .p (Bytes (subLaw zs 0 16)), .p (Bytes (List.take 12 ([]
 ++ List.take 12 ns) ++ [m / 16777216 % 256, m / 65536 % 256, m / 256 % 256, m % 256]))]) : OkR (R74 zs ns gk gn cpk cpn owk own m) := OkR.dem (fl := bitsF 33 368050127) (by kernel_rfl) (by kernel_rfl) (by kernel_rfl) h
theorem R74_val {zs ns : List Int} {gk gn : Nat} {cpk cpn : Option Nat} {owk own : Bool} {m : Int} : (R74 zs ns gk gn cpk cpn owk own m).val = .slice 1 2 15 0 16 none := by kernel_rfl
theorem R74_tab {zs ns : List Int} {gk gn : Nat} {cpk cpn : Option Nat} {owk own : Bool} {m : Int} : (R74 zs ns gk gn cpk cpn owk own m).tab = [some ⟨.ints .u8 zs, gk, owk, 5⟩, some ⟨.ints .u8 ns, gn, own, 5⟩, some ⟨.ints .u8 (blockLaw (ksLaw (subLaw zs 0 16) 176) (subLaw (List.take 12 ([] ++ List.take 12 ns) ++ [m / 16777216 % 256, m / 65536 % 256, m / 256 % 256, m % 256]) 0 16)), 15, true, 5⟩] :=
 by kernel_rfl
noncomputable def R75 (m : Int) : Res := resG 0 [0] (runF (eA []) f75 [] 400 [.int .i64 m] [] [])
theorem R75_ok {m : Int} (h : allP [.rng (-9223372036854775808) (8 * m) 9223372036854775807]) : OkR (R75 m) := OkR.dem (fl := bitsF 21 2097150) (by kernel_rfl) (by kernel_rfl) (by kernel_rfl) h
theorem R75_val {m : Int} : (R75 m).val = .slice 1 0 0 0 8 (some 8) := by kernel_rfl
theorem R75_tab {m : Int} : (R75 m).tab = [some ⟨.ints .u8 [0, 0, 0, 0, 8 * m / 16777216 % 256, 8 * m / 65536 % 256, 8 * m / 256 % 256, 8 * m % 256], 0, true, 5⟩] := by kernel_rfl
def rlLaw (m : Nat) : List Int := [0, 0, 0, 0, 8 * (m : Int) / 16777216 % 256, 8 * (m : Int) / 65536 % 256, 8 * (m : Int) / 256 % 256, 8 * (m : Int) % 256]
noncomputable def sm74c (args : List AVal) (T : Tab) (zs : List Int) (ns : List Int) (gk : Nat) (gn : Nat) (cpk : Option Nat) (cpn : Option Nat) (owk : Bool) (own : Bool) (m : Int) : Res := ⟨[.tab T [some ⟨.ints .u8 zs, gk, owk, 5⟩, some ⟨.ints .u8 ns, gn, own, 5⟩], .val (.tuple args) (.tuple [.slice 1 0 gk 0 16 cpk, .slice 1 1 gn 0 12 cpn, .int .i64 m]), .leN 16 zs.length, .leN 12 ns.length, .p (Bytes zs), .p (Bytes ns), .leI 0 m], .slice 1 2 15 0 16 none, [some ⟨.ints .u8 zs, gk, owk, 5⟩, some ⟨.ints .u8 ns, gn, own, 5⟩, some ⟨.ints .u8 (ctLaw (subLaw zs 0 16) (subLaw ns 0 12) m), 15, true, 5⟩]⟩
theorem sm74c_ok {args : List AVal} {T : Tab} {zs : List Int} {ns : List Int} {gk : Nat} {gn : Nat} {cpk : Option Nat} {cpn : Option Nat} {owk : Bool} {own : Bool} {m : Int} (h : allP (sm74c args T zs ns gk gn cpk cpn owk own m).cs) : Small prog (fun _ => none) 74 args T (sm74c args T zs ns gk gn cpk cpn owk own m).val (sm74c args T zs ns gk gn cpk cpn owk own m).tab := by
  obtain ⟨hT, hv, h1, h2, h3, h4, h5, _⟩ := h
  simp only [Con.h] at hT hv h1 h2 h3 h4 h5
  injection hv with hv
  subst hT hv
  have l1 : (subLaw ns 0 12).length = 12 := subLaw_len (by omega)
  have b1 := sub_bytes h3 0 16
  have b2 := sub_bytes h4 0 12
  have e0 : ([] : List Int) ++ List.take 12 ns = (subLaw ns 0 12) := rfl
  have et : List.take 12 (([] : List Int) ++ List.take 12 ns) ++ [m / 16777216 % 256, m / 65536 % 256, m / 256 % 256, m % 256] = (subLaw ns 0 12) ++ fourLaw m := by rw [e0, take_n l1]; rfl
  have l2 : ((subLaw ns 0 12) ++ fourLaw m).length = 16 := by rw [List.length_append, l1]; rfl
  have b3 := b2.append (four_bytes m)
  refine small_ofG (R := R74 zs ns gk gn cpk cpn owk own m) (keep := [0,1,4]) eGr_ok hmA (f := 74) (fn := f74) (by kernel_rfl) (by kernel_rfl) FnOrc.nil rfl (R74_ok ?_) R74_val (by rw [R74_tab, et, sub_n l2]; rfl)
  rw [et, e0]
  simp only [allP, Con.h, l1, l2, b1, b3, h1, h2, eq_self, true_and, and_true]
  first | omega | decide
noncomputable def sm74 : Summary := fun args T => sm74c args T (xsAt T 0) (xsAt T 1) (gAt T 0) (gAt T 1) (capOf (vAt args 0)) (capOf (vAt args 1)) (owAt T 0) (owAt T 1) (iOf (vAt args 2))
theorem sm74_ok : SmOk prog (fun _ => none) 74 sm74 := fun args T h => sm74c_ok h
noncomputable def S74 : Summary := callR sm74 []
theorem S74_ok : SumOk prog (fun _ => none) 74 S74 := callR_ok sm74_ok []
noncomputable def sm75c (args : List AVal) (T : Tab) (m : Nat) (mm : Int) : Res := ⟨[.tab T [], .val (.tuple args) (.tuple [.int .i64 mm]), .p (mm = (m : Nat)), .leN m 140737488355000], .slice 1 0 0 0 8 (some 8), [some ⟨.ints .u8 (rlLaw m), 0, true, 5⟩]⟩
theorem sm75c_ok {args : List AVal} {T : Tab} {m : Nat} {mm : Int} (h : allP (sm75c args T m mm).cs) : Small prog (fun _ => none) 75 args T (sm75c args T m mm).val (sm75c args T m mm).tab := by
  obtain ⟨hT, hv, h1, h2, _⟩ := h
  simp only [Con.h] at hT hv h1 h2
  injection hv with hv
  subst hT hv
  subst h1
  refine small_ofG (R := R75 m) (keep := [0]) eA0_ok hmA (f := 75) (fn := f75) (by kernel_rfl) (by kernel_rfl) FnOrc.nil rfl (R75_ok ?_) R75_val R75_tab
  simp only [allP, Con.h, and_true]
  omega
noncomputable def sm75 : Summary := fun args T => sm75c args T ((iOf (vAt args 0)).toNat) (iOf (vAt args 0))
theorem sm75_ok : SmOk prog (fun _ => none) 75 sm75 := fun args T h => sm75c_ok h
noncomputable def S75 : Summary := callR sm75 []
theorem S75_ok : SumOk prog (fun _ => none) 75 S75 := callR_ok sm75_ok []
/-! turned -/
noncomputable def eGq : Env := eA [(74, S74)]
theorem eGq_ok : EnvOk eGq := envOf_ok tysA_ok (SumsOk.cons (fn := f74) S74_ok (by kernel_rfl) (by kernel_rfl) (by kernel_rfl) trivial)
noncomputable def Z56 (zs ns : List Int) (gk gn : Nat) (cpk cpn : Option Nat) (owk own : Bool) (ts : List Int) (gt n : Nat) (ct : Option Nat) (owt : Bool) (i : Int) : Out := trimG 3 [0,1,2,5,3] [0,1,2,7,8,9] (run eGq 39 ⟨3, []⟩ 400 (roundOf 0 f56) [(0, .slice 1 0 gk 0 16 cpk), (1, .slice 1 1 gn 0 12 cpn), (2, .slice 1 2 gt 0 n ct), (7, .nilSlice), (8, .nilSlice), (9, .int .i64 i)] [some ⟨.ints .u8 zs, gk, owk, 5⟩, some ⟨.ints .u8 ns, gn, own, 5⟩, some ⟨.ints .u8 ts, gt, owt, 5⟩] [some true, some true])
theorem Z56_ok {zs ns : List Int} {gk gn : Nat} {cpk cpn : Option Nat} {owk own : Bool} {ts : List Int} {gt n : Nat} {ct : Option Nat} {owt : Bool} {i : Int} (h : allP [.eqN gt gt, .p (decide (i < (↑n : Int)) = true), .p ((i.tmod 16 == 0) = true), .rng (-9223372036854775808) (i.tdiv 16) 9223372036854775807, .rng (-9223372036854775808) (2 + i.tdiv 16) 9223372036854775807, .eqN gk gk, .eqN gn gn,
 .leN 16 zs.length, .leN 12 ns.length, .p (Bytes zs), .p (Bytes ns), .leI 0 (2 + i.tdiv 16), .eqN gt gt, .leI 0 i, .leI (i + 1) (↑n : Int), .eqN gt gt, .leN (i.toNat + 1) ts.length, .leI 0 (i.tmod 16), .leI (i.tmod 16 + 1) 16, .leN ((i.tmod 16).toNat + 1) 16, .nn .u8 (ts.getD i.toNat 0), .nn .u8 ((ctLaw (subLaw zs 0 16) (subLaw ns 0 12) (2 + i.tdiv 16)).getD (i.tmod 16).toNat 0), .rng
 (-9223372036854775808) (i + 1) 9223372036854775807]) : Ok (Z56 zs ns gk gn cpk cpn owk own ts gt n ct owt i) := Ok.dem (fl := bitsF 40 265293922324) (by kernel_rfl) (by kernel_rfl) (by kernel_rfl) h
theorem Z56_ex {zs ns : List Int} {gk gn : Nat} {cpk cpn : Option Nat} {owk own : Bool} {ts : List Int} {gt n : Nat} {ct : Option Nat} {owt : Bool} {i : Int} : (Z56 zs ns gk gn cpk cpn owk own ts gt n ct owt i).ex = .normal := by kernel_rfl
theorem Z56_fm {zs ns : List Int} {gk gn : Nat} {cpk cpn : Option Nat} {owk own : Bool} {ts : List Int} {gt n : Nat} {ct : Option Nat} {owt : Bool} {i : Int} : (Z56 zs ns gk gn cpk cpn owk own ts gt n ct owt i).fm = [(0, .slice 1 0 gk 0 16 cpk), (1, .slice 1 1 gn 0 12 cpn), (2, .slice 1 2 gt 0 n ct), (7, .slice 1 3 0 0 1 none), (8, .slice 1 4 15 0 16 none), (9, .int .i64 (i + 1))] := by kernel_rfl
theorem Z56_tab {zs ns : List Int} {gk gn : Nat} {cpk cpn : Option Nat} {owk own : Bool} {ts : List Int} {gt n : Nat} {ct : Option Nat} {owt : Bool} {i : Int} : (Z56 zs ns gk gn cpk cpn owk own ts gt n ct owt i).tab = [some ⟨.ints .u8 zs, gk, owk, 5⟩, some ⟨.ints .u8 ns, gn, own, 5⟩, some ⟨.ints .u8 ts, gt, owt, 5⟩, some ⟨.ints .u8 ([] ++ List.take 1 ([0].set 0 (ixor (ts.getD i.toNat 0) ((ctLaw
 (subLaw zs 0 16) (subLaw ns 0 12) (2 + i.tdiv 16)).getD (i.tmod 16).toNat 0)))), 0, true, 5⟩, some ⟨.ints .u8 (ctLaw (subLaw zs 0 16) (subLaw ns 0 12) (2 + i.tdiv 16)), 15, true, 5⟩] := by kernel_rfl
noncomputable def A56 (zs ns : List Int) (gk gn : Nat) (cpk cpn : Option Nat) (owk own : Bool) (ts : List Int) (gt n : Nat) (ct : Option Nat) (owt : Bool) (u x : List Int) (g l : Nat) (i : Int) : Out := trimG 3 [0,1,2,3,5] [0,1,2,7,8,9] (run eGq 39 ⟨3, []⟩ 400 (roundOf 0 f56) [(0, .slice 1 0 gk 0 16 cpk), (1, .slice 1 1 gn 0 12 cpn), (2, .slice 1 2 gt 0 n ct), (7, .slice 1 3 g 0 l none), (8, .slice 1 4 15 0 16 none), (9, .int .i64 i)] [some ⟨.ints .u8 zs, gk, owk, 5⟩, some ⟨.ints .u8 ns, gn, own, 5⟩, some ⟨.ints .u8 ts, gt, owt, 5⟩, some ⟨.ints .u8 u, g, true, 5⟩, some ⟨.ints .u8 x, 15, true, 5⟩] [some true, some true])
theorem A56_ok {zs ns : List Int} {gk gn : Nat} {cpk cpn : Option Nat} {owk own : Bool} {ts : List Int} {gt n : Nat} {ct : Option Nat} {owt : Bool} {u x : List Int} {g l : Nat} {i : Int} (h : allP [.eqN gt gt, .p (decide (i < (↑n : Int)) = true), .p ((i.tmod 16 == 0) = true), .rng (-9223372036854775808) (i.tdiv 16) 9223372036854775807, .rng (-9223372036854775808) (2 + i.tdiv 16)
 9223372036854775807, .eqN gk gk, .eqN gn gn, .leN 16 zs.length, .leN 12 ns.length, .p (Bytes zs), .p (Bytes ns), .leI 0 (2 + i.tdiv 16), .eqN gt gt, .leI 0 i, .leI (i + 1) (↑n : Int), .eqN gt gt, .leN (i.toNat + 1) ts.length, .leI 0 (i.tmod 16), .leI (i.tmod 16 + 1) 16, .leN ((i.tmod 16).toNat + 1) 16, .nn .u8 (ts.getD i.toNat 0), .nn .u8 ((ctLaw (subLaw zs 0 16) (subLaw ns 0 12) (2 + i.tdiv
 16)).getD (i.tmod 16).toNat 0), .eqN g g, .leN (0 + l) u.length, .leN (addO l 1) 140737488355328, .rng (-9223372036854775808) (i + 1) 9223372036854775807]) : Ok (A56 zs ns gk gn cpk cpn owk own ts gt n ct owt u x g l i) := Ok.dem (fl := bitsF 42 969668558868) (by kernel_rfl) (by kernel_rfl) (by kernel_rfl) h
theorem A56_ex {zs ns : List Int} {gk gn : Nat} {cpk cpn : Option Nat} {owk own : Bool} {ts : List Int} {gt n : Nat} {ct : Option Nat} {owt : Bool} {u x : List Int} {g l : Nat} {i : Int} : (A56 zs ns gk gn cpk cpn owk own ts gt n ct owt u x g l i).ex = .normal := by kernel_rfl
theorem A56_fm {zs ns : List Int} {gk gn : Nat} {cpk cpn : Option Nat} {owk own : Bool} {ts : List Int} {gt n : Nat} {ct : Option Nat} {owt : Bool} {u x : List Int} {g l : Nat} {i : Int} : (A56 zs ns gk gn cpk cpn owk own ts gt n ct owt u x g l i).fm = [(0, .slice 1 0 gk 0 16 cpk), (1, .slice 1 1 gn 0 12 cpn), (2, .slice 1 2 gt 0 n ct), (7, .slice 1 3 (g + 1) 0 (addO l 1) none), (8, .slice 1 4 15 0
 16 none), (9, .int .i64 (i + 1))] := by kernel_rfl
theorem A56_tab {zs ns : List Int} {gk gn : Nat} {cpk cpn : Option Nat} {owk own : Bool} {ts : List Int} {gt n : Nat} {ct : Option Nat} {owt : Bool} {u x : List Int} {g l : Nat} {i : Int} : (A56 zs ns gk gn cpk cpn owk own ts gt n ct owt u x g l i).tab = [some ⟨.ints .u8 zs, gk, owk, 5⟩, some ⟨.ints .u8 ns, gn, own, 5⟩, some ⟨.ints .u8 ts, gt, owt, 5⟩, some ⟨.ints .u8 (List.take l u ++ List.take 1
 ([0].set 0 (ixor (ts.getD i.toNat 0) ((ctLaw (subLaw zs 0 16) (subLaw ns 0 12) (2 + i.tdiv 16)).getD (i.tmod 16).toNat 0)))), g + 1, true, 5⟩, some ⟨.ints .u8 (ctLaw (subLaw zs 0 16) (subLaw ns 0 12) (2 + i.tdiv 16)), 15, true, 5⟩] := by kernel_rfl
noncomputable def B56 (zs ns : List Int) (gk gn : Nat) (cpk cpn : Option Nat) (owk own : Bool) (ts : List Int) (gt n : Nat) (ct : Option Nat) (owt : Bool) (u x : List Int) (g l : Nat) (i : Int) : Out := trimG 3 [0,1,2,3,4] [0,1,2,7,8,9] (run eGq 39 ⟨3, []⟩ 400 (roundOf 0 f56) [(0, .slice 1 0 gk 0 16 cpk), (1, .slice 1 1 gn 0 12 cpn), (2, .slice 1 2 gt 0 n ct), (7, .slice 1 3 g 0 l none), (8, .slice 1 4 15 0 16 none), (9, .int .i64 i)] [some ⟨.ints .u8 zs, gk, owk, 5⟩, some ⟨.ints .u8 ns, gn, own, 5⟩, some ⟨.ints .u8 ts, gt, owt, 5⟩, some ⟨.ints .u8 u, g, true, 5⟩, some ⟨.ints .u8 x, 15, true, 5⟩] [some true, some false])
theorem B56_ok {zs ns : List Int} {gk gn : Nat} {cpk cpn : Option Nat} {owk own : Bool} {ts : List Int} {gt n : Nat} {ct : Option Nat} {owt : Bool} {u x : List Int} {g l : Nat} {i : Int} (h : allP [.eqN gt gt, .p (decide (i < (↑n : Int)) = true), .p ((i.tmod 16 == 0) = false), .eqN gt gt, .leI 0 i, .leI (i + 1) (↑n : Int), .eqN gt gt, .leN (i.toNat + 1) ts.length, .leI 0 (i.tmod 16), .leI (i.tmod
 16 + 1) 16, .leN ((i.tmod 16).toNat + 1) x.length, .nn .u8 (ts.getD i.toNat 0), .nn .u8 (x.getD (i.tmod 16).toNat 0), .eqN g g, .leN (0 + l) u.length, .leN (addO l 1) 140737488355328, .rng (-9223372036854775808) (i + 1) 9223372036854775807]) : Ok (B56 zs ns gk gn cpk cpn owk own ts gt n ct owt u x g l i) := Ok.dem (fl := bitsF 30 236735492) (by kernel_rfl) (by kernel_rfl) (by kernel_rfl) h
theorem B56_ex {zs ns : List Int} {gk gn : Nat} {cpk cpn : Option Nat} {owk own : Bool} {ts : List Int} {gt n : Nat} {ct : Option Nat} {owt : Bool} {u x : List Int} {g l : Nat} {i : Int} : (B56 zs ns gk gn cpk cpn owk own ts gt n ct owt u x g l i).ex = .normal := by kernel_rfl
theorem B56_fm {zs ns : List Int} {gk gn : Nat} {cpk cpn : Option Nat} {owk own : Bool} {ts : List Int} {gt n : Nat} {ct : Option Nat} {owt : Bool} {u x : List Int} {g l : Nat} {i : Int} : (B56 zs ns gk gn cpk cpn owk own ts gt n ct owt u x g l i).fm = [(0, .slice 1 0 gk 0 16 cpk), (1, .slice 1 1 gn 0 12 cpn), (2, .slice 1 2 gt 0 n ct), (7, .slice 1 3 (g + 1) 0 (addO l 1) none), (8, .slice 1 4 15 0
 16 none), (9, .int .i64 (i + 1))] := by kernel_rfl
theorem B56_tab {zs ns : List Int} {gk gn : Nat} {cpk cpn : Option Nat} {owk own : Bool} {ts : List Int} {gt n : Nat} {ct : Option Nat} {owt : Bool} {u x : List Int} {g l : Nat} {i : Int} : (B56 zs ns gk gn cpk cpn owk own ts gt n ct owt u x g l i).tab = [some ⟨.ints .u8 zs, gk, owk, 5⟩, some ⟨.ints .u8 ns, gn, own, 5⟩, some ⟨.ints .u8 ts, gt, owt, 5⟩, some ⟨.ints .u8 (List.take l u ++ [ixor
 (ts.getD i.toNat 0) (x.getD (i.tmod 16).toNat 0)]), g + 1, true, 5⟩, some ⟨.ints .u8 x, 15, true, 5⟩] := by kernel_rfl
noncomputable def E56 (zs ns : List Int) (gk gn : Nat) (cpk cpn : Option Nat) (owk own : Bool) (ts : List Int) (gt n : Nat) (ct : Option Nat) (owt : Bool) (u x : List Int) (g l : Nat) (i : Int) : Out := trimG 3 [0,1,2,3] [7] (run eGq 39 ⟨3, []⟩ 400 (roundOf 0 f56) [(0, .slice 1 0 gk 0 16 cpk), (1, .slice 1 1 gn 0 12 cpn), (2, .slice 1 2 gt 0 n ct), (7, .slice 1 3 g 0 l none), (8, .slice 1 4 15 0 16 none), (9, .int .i64 i)] [some ⟨.ints .u8 zs, gk, owk, 5⟩, some ⟨.ints .u8 ns, gn, own, 5⟩, some ⟨.ints .u8 ts, gt, owt, 5⟩, some ⟨.ints .u8 u, g, true, 5⟩, some ⟨.ints .u8 x, 15, true, 5⟩] [some false])
theorem E56_ok {zs ns : List Int} {gk gn : Nat} {cpk cpn : Option Nat} {owk own : Bool} {ts : List Int} {gt n : Nat} {ct : Option Nat} {owt : Bool} {u x : List Int} {g l : Nat} {i : Int} (h : allP [.eqN gt gt, .p (decide (i < (↑n : Int)) = false)]) : Ok (E56 zs ns gk gn cpk cpn owk own ts gt n ct owt u x g l i) := Ok.dem (fl := [false, false]) (by kernel_rfl) (by kernel_rfl) (by kernel_rfl) h
theorem E56_ex {zs ns : List Int} {gk gn : Nat} {cpk cpn : Option Nat} {owk own : Bool} {ts : List Int} {gt n : Nat} {ct : Option Nat} {owt : Bool} {u x : List Int} {g l : Nat} {i : Int} : (E56 zs ns gk gn cpk cpn owk own ts gt n ct owt u x g l i).ex = .exit 0 := by kernel_rfl
theorem E56_fm {zs ns : List Int} {gk gn : Nat} {cpk cpn : Option Nat} {owk own : Bool} {ts : List Int} {gt n : Nat} {ct : Option Nat} {owt : Bool} {u x : List Int} {g l : Nat} {i : Int} : (E56 zs ns gk gn cpk cpn owk own ts gt n ct owt u x g l i).fm = [(7, .slice 1 3 g 0 l none)] := by kernel_rfl
theorem E56_tab {zs ns : List Int} {gk gn : Nat} {cpk cpn : Option Nat} {owk own : Bool} {ts : List Int} {gt n : Nat} {ct : Option Nat} {owt : Bool} {u x : List Int} {g l : Nat} {i : Int} : (E56 zs ns gk gn cpk cpn owk own ts gt n ct owt u x g l i).tab = [some ⟨.ints .u8 zs, gk, owk, 5⟩, some ⟨.ints .u8 ns, gn, own, 5⟩, some ⟨.ints .u8 ts, gt, owt, 5⟩, some ⟨.ints .u8 u, g, true, 5⟩] := by
 kernel_rfl
def kbLaw (K N : List Int) (i : Nat) : Int := (ctLaw K N (2 + ((i / 16 : Nat) : Int))).getD (i % 16) 0
def udLaw (K N ts : List Int) : Nat → List Int
  | 0 => []
  | i + 1 => udLaw K N ts i ++ [ixor (ts.getD i 0) (kbLaw K N i)]
theorem ud_len (K N ts : List Int) : ∀ i, (udLaw K N ts i).length = i
  | 0 => rfl
  | i + 1 => by rw [udLaw, List.length_append, ud_len K N ts i]; rfl
def uoLaw : Nat → AVal
  | 0 => .nilSlice
  | i + 1 => .slice 1 3 i 0 (i + 1) none
def uxLaw : Nat → AVal
  | 0 => .nilSlice
  | _ + 1 => .slice 1 4 15 0 16 none
def FU56 (zs ns : List Int) (gk gn : Nat) (cpk cpn : Option Nat) (owk own : Bool) (ts : List Int) (gt n : Nat) (ct : Option Nat) (owt : Bool) (i : Nat) : Fm := [(0, .slice 1 0 gk 0 16 cpk), (1, .slice 1 1 gn 0 12 cpn), (2, .slice 1 2 gt 0 n ct), (7, uoLaw i), (8, uxLaw i), (9, .int .i64 (i : Nat))]
def TU56 (zs ns : List Int) (gk gn : Nat) (cpk cpn : Option Nat) (owk own : Bool) (ts : List Int) (gt n : Nat) (ct : Option Nat) (owt : Bool) : Nat → Tab
  | 0 => [some ⟨.ints .u8 zs, gk, owk, 5⟩, some ⟨.ints .u8 ns, gn, own, 5⟩, some ⟨.ints .u8 ts, gt, owt, 5⟩]
  | i + 1 => [some ⟨.ints .u8 zs, gk, owk, 5⟩, some ⟨.ints .u8 ns, gn, own, 5⟩, some ⟨.ints .u8 ts, gt, owt, 5⟩, some ⟨.ints .u8 (udLaw (subLaw zs 0 16) (subLaw ns 0 12) ts (i + 1)), i, true, 5⟩, some ⟨.ints .u8 (ctLaw (subLaw zs 0 16) (subLaw ns 0 12) (2 + ((i / 16 : Nat) : Int))), 15, true, 5⟩]
structure Eu (zs ns : List Int) (gk gn : Nat) (cpk cpn : Option Nat) (owk own : Bool) (ts : List Int) (gt n : Nat) (ct : Option Nat) (owt : Bool) : Prop where
  p1 : 16 ≤ zs.length
  p2 : 12 ≤ ns.length
  p3 : Bytes zs
  p4 : Bytes ns
  p5 : n ≤ ts.length
  p6 : n ≤ 140737488352000
  p7 : Bytes ts
theorem one_set (v : Int) : List.take 1 (([0] : List Int).set 0 v) = [v] := rfl
theorem rd56 {zs ns : List Int} {gk gn : Nat} {cpk cpn : Option Nat} {owk own : Bool} {ts : List Int} {gt n : Nat} {ct : Option Nat} {owt : Bool} (e : Eu zs ns gk gn cpk cpn owk own ts gt n ct owt) {i : Nat} (hi : i < n) : To eGq 39 3 (roundOf 0 f56) (FU56 zs ns gk gn cpk cpn owk own ts gt n ct owt i) (TU56 zs ns gk gn cpk cpn owk own ts gt n ct owt i) .normal (FU56 zs ns gk gn cpk cpn owk own ts gt n ct owt (i + 1)) (TU56 zs ns gk gn cpk cpn owk own ts gt n ct owt (i + 1)) := by
  have p6 := e.p6
  have p5 := e.p5
  have b1 := sub_bytes e.p3 0 16
  have b2 := sub_bytes e.p4 0 12
  have ht := e.p7.get i
  have hc := (ct_bytes b1 b2 (2 + ((i / 16 : Nat) : Int))).get (i % 16)
  have q1 : (i : Int).tdiv 16 = ((i / 16 : Nat) : Int) := by rw [Int.tdiv_eq_ediv_of_nonneg (by omega)]; omega
  have q2 : (i : Int).tmod 16 = ((i % 16 : Nat) : Int) := by rw [Int.tmod_eq_emod_of_nonneg (by omega)]; omega
  cases i with
  | zero =>
    refine To.ofG (o := Z56 zs ns gk gn cpk cpn owk own ts gt n ct owt ((0 : Nat) : Int)) eGq_ok hmA (Nat.le_refl 3) OrcOk.nil rfl (Z56_ok ?_) Z56_ex ?_ ?_
    · rw [q1, q2]
      simp only [allP, Con.h, nonneg, e.p1, e.p2, e.p3, e.p4, Int.toNat_natCast, decide_eq_true_eq, eq_self, true_and, and_true]
      repeat' with_reducible apply And.intro
      all_goals first | omega | exact ht.1 | exact ht.2 | exact hc.1 | exact hc.2 | decide
    · rw [Z56_fm]; rfl
    · rw [Z56_tab, q1, q2, one_set]; rfl
  | succ i =>
    have lu := ud_len (subLaw zs 0 16) (subLaw ns 0 12) ts (i + 1)
    by_cases h : (i + 1) % 16 = 0
    · refine To.ofG (o := A56 zs ns gk gn cpk cpn owk own ts gt n ct owt (udLaw (subLaw zs 0 16) (subLaw ns 0 12) ts (i + 1)) (ctLaw (subLaw zs 0 16) (subLaw ns 0 12) (2 + ((i / 16 : Nat) : Int))) i (i + 1) ((i + 1 : Nat) : Int)) eGq_ok hmA (Nat.le_refl 3) OrcOk.nil rfl (A56_ok ?_) A56_ex ?_ ?_
      · rw [q1, q2]
        have hz : ((((i + 1) % 16 : Nat) : Int) == 0) = true := by rw [h]; rfl
        simp only [allP, Con.h, nonneg, hz, lu, addO_eq, Nat.zero_add, e.p1, e.p2, e.p3, e.p4, Int.toNat_natCast, decide_eq_true_eq, eq_self, true_and, and_true]
        omega
      · rw [A56_fm]; simp only [addO_eq]; rfl
      · rw [A56_tab, q1, q2, Int.toNat_natCast, Int.toNat_natCast, one_set, take_n lu]; rfl
    · refine To.ofG (o := B56 zs ns gk gn cpk cpn owk own ts gt n ct owt (udLaw (subLaw zs 0 16) (subLaw ns 0 12) ts (i + 1)) (ctLaw (subLaw zs 0 16) (subLaw ns 0 12) (2 + ((i / 16 : Nat) : Int))) i (i + 1) ((i + 1 : Nat) : Int)) eGq_ok hmA (Nat.le_refl 3) OrcOk.nil rfl (B56_ok ?_) B56_ex ?_ ?_
      · rw [q2]
        have hz : ((((i + 1) % 16 : Nat) : Int) == 0) = false := by simp only [beq_eq_false_iff_ne, ne_eq]; omega
        have hc' : 0 ≤ (ctLaw (subLaw zs 0 16) (subLaw ns 0 12) (2 + ((i / 16 : Nat) : Int))).getD ((i + 1) % 16) 0 ∧ (ctLaw (subLaw zs 0 16) (subLaw ns 0 12) (2 + ((i / 16 : Nat) : Int))).getD ((i + 1) % 16) 0 < 256 := (ct_bytes b1 b2 _).get _
        simp only [allP, Con.h, nonneg, hz, lu, ct_len, addO_eq, Nat.zero_add, Int.toNat_natCast, decide_eq_true_eq, eq_self, true_and, and_true]
        omega
      · rw [B56_fm]; simp only [addO_eq]; rfl
      · rw [B56_tab, q2, Int.toNat_natCast, Int.toNat_natCast, take_n lu]
        have hd : i / 16 = (i + 1) / 16 := by omega
        show _ = ([some ⟨.ints .u8 zs, gk, owk, 5⟩, some ⟨.ints .u8 ns, gn, own, 5⟩, some ⟨.ints .u8 ts, gt, owt, 5⟩, some ⟨.ints .u8 (udLaw (subLaw zs 0 16) (subLaw ns 0 12) ts (i + 1) ++ [ixor (ts.getD (i + 1) 0) (kbLaw (subLaw zs 0 16) (subLaw ns 0 12) (i + 1))]), (i + 1), true, 5⟩, some ⟨.ints .u8 (ctLaw (subLaw zs 0 16) (subLaw ns 0 12) (2 + (((i + 1) / 16 : Nat) : Int))), 15, true, 5⟩] : Tab)
        rw [← hd]
        unfold kbLaw
        rw [← hd]
theorem loop56 {zs ns : List Int} {gk gn : Nat} {cpk cpn : Option Nat} {owk own : Bool} {ts : List Int} {gt n : Nat} {ct : Option Nat} {owt : Bool} (e : Eu zs ns gk gn cpk cpn owk own ts gt n ct owt) (hn : 1 ≤ n) : To eGq 39 3 (.block 0 (.loop (roundOf 0 f56))) (FU56 zs ns gk gn cpk cpn owk own ts gt n ct owt 0) (TU56 zs ns gk gn cpk cpn owk own ts gt n ct owt 0) .normal [(7, .slice 1 3 (n - 1) 0 n none)] [some ⟨.ints .u8 zs, gk, owk, 5⟩, some ⟨.ints .u8 ns, gn, own, 5⟩, some ⟨.ints .u8 ts, gt, owt, 5⟩, some ⟨.ints .u8 (udLaw (subLaw zs 0 16) (subLaw ns 0 12) ts n), n - 1, true, 5⟩] := by
  obtain ⟨q, rfl⟩ : ∃ q, n = q + 1 := ⟨n - 1, by omega⟩
  refine To.rounds (FU56 zs ns gk gn cpk cpn owk own ts gt (q + 1) ct owt) (TU56 zs ns gk gn cpk cpn owk own ts gt (q + 1) ct owt) (q + 1) (fun i hi => rd56 e hi) ?_
  refine To.ofG (k := 3) (o := E56 zs ns gk gn cpk cpn owk own ts gt (q + 1) ct owt (udLaw (subLaw zs 0 16) (subLaw ns 0 12) ts (q + 1)) (ctLaw (subLaw zs 0 16) (subLaw ns 0 12) (2 + ((q / 16 : Nat) : Int))) q (q + 1) ((q + 1 : Nat) : Int)) eGq_ok hmA (Nat.le_refl 3) OrcOk.nil rfl (E56_ok ?_) E56_ex E56_fm E56_tab
  simp only [allP, Con.h, decide_eq_false_iff_not, eq_self, true_and, and_true]
  omega
noncomputable def g56c (vs : List AVal) (T : Tab) (zs : List Int) (ns : List Int) (gk : Nat) (gn : Nat) (cpk : Option Nat) (cpn : Option Nat) (owk : Bool) (own : Bool) (ts : List Int) (gt : Nat) (n : Nat) (ct : Option Nat) (owt : Bool) : Out := ⟨[.tab T [some ⟨.ints .u8 zs, gk, owk, 5⟩, some ⟨.ints .u8 ns, gn, own, 5⟩, some ⟨.ints .u8 ts, gt, owt, 5⟩], .val (.tuple vs) (.tuple [.slice 1 0 gk 0 16 cpk, .slice 1 1 gn 0 12 cpn, .slice 1 2 gt 0 n ct, .nilSlice, .nilSlice, .int .i64 0]), .leN 16 zs.length, .leN 12 ns.length, .p (Bytes zs), .p (Bytes ns), .leN n ts.length, .leN n 140737488352000, .p (Bytes ts), .leN 1 n], .normal, [(7, .slice 1 3 (n - 1) 0 n none)], [some ⟨.ints .u8 zs, gk, owk, 5⟩, some ⟨.ints .u8 ns, gn, own, 5⟩, some ⟨.ints .u8 ts, gt, owt, 5⟩, some ⟨.ints .u8 (udLaw (subLaw zs 0 16) (subLaw ns 0 12) ts n), n - 1, true, 5⟩], []⟩
theorem g56c_ok {vs : List AVal} {T : Tab} {zs : List Int} {ns : List Int} {gk : Nat} {gn : Nat} {cpk : Option Nat} {cpn : Option Nat} {owk : Bool} {own : Bool} {ts : List Int} {gt : Nat} {n : Nat} {ct : Option Nat} {owt : Bool} (h : Ok (g56c vs T zs ns gk gn cpk cpn owk own ts gt n ct owt)) : To eGq 39 3 (.block 0 (.loop (roundOf 0 f56))) (zipF [0,1,2,7,8,9] vs) T (g56c vs T zs ns gk gn cpk cpn owk own ts gt n ct owt).ex (g56c vs T zs ns gk gn cpk cpn owk own ts gt n ct owt).fm (g56c vs T zs ns gk gn cpk cpn owk own ts gt n ct owt).tab := by
  obtain ⟨hT, hv, h1, h2, h3, h4, h5, h6, h7, h8, _⟩ := h.h
  simp only [Con.h] at hT hv h1 h2 h3 h4 h5 h6 h7 h8
  injection hv with hv
  subst hT hv
  exact loop56 ⟨h1, h2, h3, h4, h5, h6, h7⟩ h8
noncomputable def g56 : List AVal → Tab → Out := fun vs T => g56c vs T (xsAt T 0) (xsAt T 1) (gAt T 0) (gAt T 1) (capOf (vAt vs 0)) (capOf (vAt vs 1)) (owAt T 0) (owAt T 1) (xsAt T 2) (gAt T 2) (lenOf (vAt vs 2)) (capOf (vAt vs 2)) (owAt T 2)
theorem g56_ok : BlkOk eGq f56 0 (.loop (roundOf 0 f56)) (blkS 3 [0,1,2,7,8,9] g56) := blkS_ok fun vs T h => g56c_ok h
noncomputable def orc56 : OrcL := [(0, blkS 3 [0,1,2,7,8,9] g56)]
theorem orc56_ok : FnOrc eGq f56 orc56 := FnOrc.cons g56_ok (by kernel_rfl) FnOrc.nil
noncomputable def R56 (zs ns : List Int) (gk gn : Nat) (cpk cpn : Option Nat) (owk own : Bool) (ts : List Int) (gt n : Nat) (ct : Option Nat) (owt : Bool) : Res := resG 3 [0,1,2,3] (runF eGq f56 orc56 400 [.slice 1 0 gk 0 16 cpk, .slice 1 1 gn 0 12 cpn, .slice 1 2 gt 0 n ct] [some ⟨.ints .u8 zs, gk, owk, 5⟩, some ⟨.ints .u8 ns, gn, own, 5⟩, some ⟨.ints .u8 ts, gt, owt, 5⟩] [])
theorem R56_ok {zs ns : List Int} {gk gn : Nat} {cpk cpn : Option Nat} {owk own : Bool} {ts : List Int} {gt n : Nat} {ct : Option Nat} {owt : Bool} (h : allP [.leN 16 zs.length, .leN 12 ns.length, .p (Bytes zs), .p (Bytes ns), .leN n ts.length, .leN n 140737488352000, .p (Bytes ts), .leN 1 n]) : OkR (R56 zs ns gk gn cpk cpn owk own ts gt n ct owt) := OkR.dem (fl := [false, false, false, false,
 false, false, false, false, false, false]) (by kernel_rfl) (by kernel_rfl) (by kernel_rfl) h
theorem R56_val {zs ns : List Int} {gk gn : Nat} {cpk cpn : Option Nat} {owk own : Bool} {ts : List Int} {gt n : Nat} {ct : Option Nat} {owt : Bool} : (R56 zs ns gk gn cpk cpn owk own ts gt n ct owt).val = .slice 1 3 (n - 1) 0 n none := by kernel_rfl
theorem R56_tab {zs ns : List Int} {gk gn : Nat} {cpk cpn : Option Nat} {owk own : Bool} {ts : List Int} {gt n : Nat} {ct : Option Nat} {owt : Bool} : (R56 zs ns gk gn cpk cpn owk own ts gt n ct owt).tab = [some ⟨.ints .u8 zs, gk, owk, 5⟩, some ⟨.ints .u8 ns, gn, own, 5⟩, some ⟨.ints .u8 ts, gt, owt, 5⟩, some ⟨.ints .u8 (udLaw (subLaw zs 0 16) (subLaw ns 0 12) ts n), n - 1, true, 5⟩] := by
 kernel_rfl
noncomputable def R56z (zs ns : List Int) (gk gn : Nat) (cpk cpn : Option Nat) (owk own : Bool) (ts : List Int) (gt : Nat) (ct : Option Nat) (owt : Bool) : Res := resG 3 [0,1,2] (runF eGq f56 [] 400 [.slice 1 0 gk 0 16 cpk, .slice 1 1 gn 0 12 cpn, .slice 1 2 gt 0 0 ct] [some ⟨.ints .u8 zs, gk, owk, 5⟩, some ⟨.ints .u8 ns, gn, own, 5⟩, some ⟨.ints .u8 ts, gt, owt, 5⟩] [])
theorem R56z_ok {zs ns : List Int} {gk gn : Nat} {cpk cpn : Option Nat} {owk own : Bool} {ts : List Int} {gt : Nat} {ct : Option Nat} {owt : Bool} (h : allP [.eqN gt gt]) : OkR (R56z zs ns gk gn cpk cpn owk own ts gt ct owt) := OkR.dem (fl := [false]) (by kernel_rfl) (by kernel_rfl) (by kernel_rfl) h
theorem R56z_val {zs ns : List Int} {gk gn : Nat} {cpk cpn : Option Nat} {owk own : Bool} {ts : List Int} {gt : Nat} {ct : Option Nat} {owt : Bool} : (R56z zs ns gk gn cpk cpn owk own ts gt ct owt).val = .nilSlice := by kernel_rfl
theorem R56z_tab {zs ns : List Int} {gk gn : Nat} {cpk cpn : Option Nat} {owk own : Bool} {ts : List Int} {gt : Nat} {ct : Option Nat} {owt : Bool} : (R56z zs ns gk gn cpk cpn owk own ts gt ct owt).tab = [some ⟨.ints .u8 zs, gk, owk, 5⟩, some ⟨.ints .u8 ns, gn, own, 5⟩, some ⟨.ints .u8 ts, gt, owt, 5⟩] := by kernel_rfl
noncomputable def sm56c (args : List AVal) (T : Tab) (zs : List Int) (ns : List Int) (gk : Nat) (gn : Nat) (cpk : Option Nat) (cpn : Option Nat) (owk : Bool) (own : Bool) (ts : List Int) (gt : Nat) (n : Nat) (ct : Option Nat) (owt : Bool) : Res := ⟨[.tab T [some ⟨.ints .u8 zs, gk, owk, 5⟩, some ⟨.ints .u8 ns, gn, own, 5⟩, some ⟨.ints .u8 ts, gt, owt, 5⟩], .val (.tuple args) (.tuple [.slice 1 0 gk 0 16 cpk, .slice 1 1 gn 0 12 cpn, .slice 1 2 gt 0 n ct]), .leN 16 zs.length, .leN 12 ns.length, .p (Bytes zs), .p (Bytes ns), .leN n ts.length, .leN n 140737488352000, .p (Bytes ts)], .slice 1 3 (n - 1) 0 n none, [some ⟨.ints .u8 zs, gk, owk, 5⟩, some ⟨.ints .u8 ns, gn, own, 5⟩, some ⟨.ints .u8 ts, gt, owt, 5⟩, some ⟨.ints .u8 (udLaw (subLaw zs 0 16) (subLaw ns 0 12) ts n), n - 1, true, 5⟩]⟩
theorem sm56c_ok {args : List AVal} {T : Tab} {zs : List Int} {ns : List Int} {gk : Nat} {gn : Nat} {cpk : Option Nat} {cpn : Option Nat} {owk : Bool} {own : Bool} {ts : List Int} {gt : Nat} {n : Nat} {ct : Option Nat} {owt : Bool} (h : allP (sm56c args T zs ns gk gn cpk cpn owk own ts gt n ct owt).cs) : Small prog (fun _ => none) 56 args T (sm56c args T zs ns gk gn cpk cpn owk own ts gt n ct owt).val (sm56c args T zs ns gk gn cpk cpn owk own ts gt n ct owt).tab := by
  obtain ⟨hT, hv, h1, h2, h3, h4, h5, h6, h7, _⟩ := h
  simp only [Con.h] at hT hv h1 h2 h3 h4 h5 h6 h7
  injection hv with hv
  subst hT hv
  by_cases hn : 1 ≤ n
  · refine small_ofG (R := R56 zs ns gk gn cpk cpn owk own ts gt n ct owt) (keep := [0,1,2,3]) eGq_ok hmA (f := 56) (fn := f56) (by kernel_rfl) (by kernel_rfl) orc56_ok rfl (R56_ok ?_) R56_val R56_tab
    simp only [allP, Con.h, hn, h1, h2, h3, h4, h5, h6, h7, eq_self, true_and, and_true]
  · obtain rfl : n = 0 := by omega
    exact small_nil1 .u8 5 (.inr rfl) (small_ofG (R := R56z zs ns gk gn cpk cpn owk own ts gt ct owt) (keep := [0,1,2]) eGq_ok hmA (f := 56) (fn := f56) (by kernel_rfl) (by kernel_rfl) FnOrc.nil rfl (R56z_ok (by simp [allP, Con.h])) R56z_val R56z_tab) (Nat.le_refl 3)
noncomputable def sm56 : Summary := fun args T => sm56c args T (xsAt T 0) (xsAt T 1) (gAt T 0) (gAt T 1) (capOf (vAt args 0)) (capOf (vAt args 1)) (owAt T 0) (owAt T 1) (xsAt T 2) (gAt T 2) (lenOf (vAt args 2)) (capOf (vAt args 2)) (owAt T 2)
theorem sm56_ok : SmOk prog (fun _ => none) 56 sm56 := fun args T h => sm56c_ok h
noncomputable def S56 : Summary := callR sm56 []
theorem S56_ok : SumOk prog (fun _ => none) 56 S56 := callR_ok sm56_ok []
end Go.Abs

set_option linter.unusedVariables false
set_option linter.unusedSimpArgs false
set_option maxRecDepth 8000
namespace Go.Abs
open Go.Proofs.Try
/-! ### the document: tag, Seal, Open -/
noncomputable def eGz : Env := eA [(24, S24), (38, S38), (56, S56), (64, S64), (74, S74), (75, S75)]
theorem eGz_ok : EnvOk eGz := envOf_ok tysA_ok (SumsOk.cons (fn := f24) S24_ok (by kernel_rfl) (by kernel_rfl) (by kernel_rfl) (SumsOk.cons (fn := f38) S38_ok (by kernel_rfl) (by kernel_rfl) (by kernel_rfl) (SumsOk.cons (fn := f56) S56_ok (by kernel_rfl) (by kernel_rfl) (by kernel_rfl) (SumsOk.cons (fn := f64) S64_ok (by kernel_rfl) (by kernel_rfl) (by kernel_rfl) (SumsOk.cons (fn := f74) S74_ok (by kernel_rfl) (by kernel_rfl) (by kernel_rfl) (SumsOk.cons (fn := f75) S75_ok (by kernel_rfl) (by kernel_rfl) (by kernel_rfl) trivial))))))
noncomputable def A57 (o0 o1 o2 o3 s x : List Int) (q0 q1 q2 q3 : Nat) (w0 w1 w2 w3 : Bool) (k : Int) : Out := trim 6 6 [11,13,14] (run eGz 59 ⟨6, []⟩ 400 (roundOf 0 f57) [(11, .slice 1 4 0 0 16 (some 16)), (13, .slice 1 5 15 0 16 none), (14, .int .i64 k)] [some ⟨.ints .u8 o0, q0, w0, 5⟩, some ⟨.ints .u8 o1, q1, w1, 5⟩, some ⟨.ints .u8 o2, q2, w2, 5⟩, some ⟨.ints .u8 o3, q3, w3, 5⟩, some ⟨.ints .u8 s, 0, true, 5⟩, some ⟨.ints .u8 x, 15, true, 5⟩] [some true])
theorem A57_ok {o0 o1 o2 o3 s x : List Int} {q0 q1 q2 q3 : Nat} {w0 w1 w2 w3 : Bool} {k : Int} (h : allP [.p (decide (k < 16) = true), .leI 0 k, .leI (k + 1) 16, .leN (k.toNat + 1) x.length, .leI 0 k, .leI (k + 1) 16, .leN (k.toNat + 1) s.length, .nn .u8 (x.getD k.toNat 0), .nn .u8 (s.getD k.toNat 0), .leI 0 k, .leI (k + 1) 16, .leN (k.toNat + 1) x.length, .rng (-9223372036854775808) (k + 1)
 9223372036854775807]) : Ok (A57 o0 o1 o2 o3 s x q0 q1 q2 q3 w0 w1 w2 w3 k) := Ok.dem (fl := bitsF 23 1459364) (by kernel_rfl) (by kernel_rfl) (by kernel_rfl) h
theorem A57_ex {o0 o1 o2 o3 s x : List Int} {q0 q1 q2 q3 : Nat} {w0 w1 w2 w3 : Bool} {k : Int} : (A57 o0 o1 o2 o3 s x q0 q1 q2 q3 w0 w1 w2 w3 k).ex = .normal := by kernel_rfl
theorem A57_fm {o0 o1 o2 o3 s x : List Int} {q0 q1 q2 q3 : Nat} {w0 w1 w2 w3 : Bool} {k : Int} : (A57 o0 o1 o2 o3 s x q0 q1 q2 q3 w0 w1 w2 w3 k).fm = [(11, .slice 1 4 0 0 16 (some 16)), (13, .slice 1 5 15 0 16 none), (14, .int .i64 (k + 1))] := by kernel_rfl
theorem A57_tab {o0 o1 o2 o3 s x : List Int} {q0 q1 q2 q3 : Nat} {w0 w1 w2 w3 : Bool} {k : Int} : (A57 o0 o1 o2 o3 s x q0 q1 q2 q3 w0 w1 w2 w3 k).tab = [some ⟨.ints .u8 o0, q0, w0, 5⟩, some ⟨.ints .u8 o1, q1, w1, 5⟩, some ⟨.ints .u8 o2, q2, w2, 5⟩, some ⟨.ints .u8 o3, q3, w3, 5⟩, some ⟨.ints .u8 s, 0, true, 5⟩, some ⟨.ints .u8 (x.set k.toNat (ixor (x.getD k.toNat 0) (s.getD k.toNat 0))), 15, true,
 5⟩] := by kernel_rfl
noncomputable def D57 (o0 o1 o2 o3 s x : List Int) (q0 q1 q2 q3 : Nat) (w0 w1 w2 w3 : Bool) : Out := trim 6 6 [13] (run eGz 59 ⟨6, []⟩ 400 (roundOf 0 f57) [(11, .slice 1 4 0 0 16 (some 16)), (13, .slice 1 5 15 0 16 none), (14, .int .i64 16)] [some ⟨.ints .u8 o0, q0, w0, 5⟩, some ⟨.ints .u8 o1, q1, w1, 5⟩, some ⟨.ints .u8 o2, q2, w2, 5⟩, some ⟨.ints .u8 o3, q3, w3, 5⟩, some ⟨.ints .u8 s, 0, true, 5⟩, some ⟨.ints .u8 x, 15, true, 5⟩] [])
theorem D57_ok {o0 o1 o2 o3 s x : List Int} {q0 q1 q2 q3 : Nat} {w0 w1 w2 w3 : Bool} (h : allP []) : Ok (D57 o0 o1 o2 o3 s x q0 q1 q2 q3 w0 w1 w2 w3) := Ok.dem (fl := []) (by kernel_rfl) (by kernel_rfl) (by kernel_rfl) h
theorem D57_ex {o0 o1 o2 o3 s x : List Int} {q0 q1 q2 q3 : Nat} {w0 w1 w2 w3 : Bool} : (D57 o0 o1 o2 o3 s x q0 q1 q2 q3 w0 w1 w2 w3).ex = .exit 0 := by kernel_rfl
theorem D57_fm {o0 o1 o2 o3 s x : List Int} {q0 q1 q2 q3 : Nat} {w0 w1 w2 w3 : Bool} : (D57 o0 o1 o2 o3 s x q0 q1 q2 q3 w0 w1 w2 w3).fm = [(13, .slice 1 5 15 0 16 none)] := by kernel_rfl
theorem D57_tab {o0 o1 o2 o3 s x : List Int} {q0 q1 q2 q3 : Nat} {w0 w1 w2 w3 : Bool} : (D57 o0 o1 o2 o3 s x q0 q1 q2 q3 w0 w1 w2 w3).tab = [some ⟨.ints .u8 o0, q0, w0, 5⟩, some ⟨.ints .u8 o1, q1, w1, 5⟩, some ⟨.ints .u8 o2, q2, w2, 5⟩, some ⟨.ints .u8 o3, q3, w3, 5⟩, some ⟨.ints .u8 s, 0, true, 5⟩, some ⟨.ints .u8 x, 15, true, 5⟩] := by kernel_rfl
theorem loop57 {o0 o1 o2 o3 s x : List Int} {q0 q1 q2 q3 : Nat} {w0 w1 w2 w3 : Bool} (lx : x.length = 16) (ls : s.length = 16) (hx : Bytes x) (hs : Bytes s) : To eGz 59 6 (.block 0 (.loop (roundOf 0 f57))) [(11, .slice 1 4 0 0 16 (some 16)), (13, .slice 1 5 15 0 16 none), (14, .int .i64 0)] [some ⟨.ints .u8 o0, q0, w0, 5⟩, some ⟨.ints .u8 o1, q1, w1, 5⟩, some ⟨.ints .u8 o2, q2, w2, 5⟩, some ⟨.ints .u8 o3, q3, w3, 5⟩, some ⟨.ints .u8 s, 0, true, 5⟩, some ⟨.ints .u8 x, 15, true, 5⟩] .normal [(13, .slice 1 5 15 0 16 none)] [some ⟨.ints .u8 o0, q0, w0, 5⟩, some ⟨.ints .u8 o1, q1, w1, 5⟩, some ⟨.ints .u8 o2, q2, w2, 5⟩, some ⟨.ints .u8 o3, q3, w3, 5⟩, some ⟨.ints .u8 s, 0, true, 5⟩, some ⟨.ints .u8 (plusLaw x s), 15, true, 5⟩] := by
  have := To.rounds (E := eGz) (n := 59) (k := 6) (id := 0) (c := roundOf 0 f57) (fun k : Nat => [(11, .slice 1 4 0 0 16 (some 16)), (13, .slice 1 5 15 0 16 none), (14, .int .i64 (k : Nat))]) (fun k => [some ⟨.ints .u8 o0, q0, w0, 5⟩, some ⟨.ints .u8 o1, q1, w1, 5⟩, some ⟨.ints .u8 o2, q2, w2, 5⟩, some ⟨.ints .u8 o3, q3, w3, 5⟩, some ⟨.ints .u8 s, 0, true, 5⟩, some ⟨.ints .u8 (pxLaw x s k), 15, true, 5⟩]) 16 (fun k hk => ?_) (To.of (o := D57 o0 o1 o2 o3 s (pxLaw x s 16) q0 q1 q2 q3 w0 w1 w2 w3) eGz_ok hmA (Nat.le_refl 6) OrcOk.nil rfl (D57_ok trivial) D57_ex D57_fm D57_tab)
  · rw [px_zero lx, px_end] at this
    exact this
  · have h1 := (px_bytes hx hs k).get k
    have h2 := hs.get k
    refine To.of (o := A57 o0 o1 o2 o3 s (pxLaw x s k) q0 q1 q2 q3 w0 w1 w2 w3 (k : Nat)) eGz_ok hmA (Nat.le_refl 6) OrcOk.nil rfl (A57_ok ?_) A57_ex A57_fm ?_
    · simp only [allP, Con.h, nonneg, addO_eq, Nat.zero_add, Nat.add_zero, Int.toNat_natCast, px_len, ls, decide_eq_true_eq, eq_self, true_and, and_true]
      omega
    · rw [A57_tab]
      try simp only [addO_eq, Nat.zero_add, Nat.add_zero, Int.toNat_natCast]
      rw [px_step hk]
noncomputable def g57c (vs : List AVal) (T : Tab) (o0 : List Int) (o1 : List Int) (o2 : List Int) (o3 : List Int) (s : List Int) (x : List Int) (q0 : Nat) (q1 : Nat) (q2 : Nat) (q3 : Nat) (w0 : Bool) (w1 : Bool) (w2 : Bool) (w3 : Bool) : Out := ⟨[.tab T [some ⟨.ints .u8 o0, q0, w0, 5⟩, some ⟨.ints .u8 o1, q1, w1, 5⟩, some ⟨.ints .u8 o2, q2, w2, 5⟩, some ⟨.ints .u8 o3, q3, w3, 5⟩, some ⟨.ints .u8 s, 0, true, 5⟩, some ⟨.ints .u8 x, 15, true, 5⟩], .val (.tuple vs) (.tuple [.slice 1 4 0 0 16 (some 16), .slice 1 5 15 0 16 none, .int .i64 0]), .eqN x.length 16, .eqN s.length 16, .p (Bytes x), .p (Bytes s)], .normal, [(13, .slice 1 5 15 0 16 none)], [some ⟨.ints .u8 o0, q0, w0, 5⟩, some ⟨.ints .u8 o1, q1, w1, 5⟩, some ⟨.ints .u8 o2, q2, w2, 5⟩, some ⟨.ints .u8 o3, q3, w3, 5⟩, some ⟨.ints .u8 s, 0, true, 5⟩, some ⟨.ints .u8 (plusLaw x s), 15, true, 5⟩], []⟩
theorem g57c_ok {vs : List AVal} {T : Tab} {o0 : List Int} {o1 : List Int} {o2 : List Int} {o3 : List Int} {s : List Int} {x : List Int} {q0 : Nat} {q1 : Nat} {q2 : Nat} {q3 : Nat} {w0 : Bool} {w1 : Bool} {w2 : Bool} {w3 : Bool} (h : Ok (g57c vs T o0 o1 o2 o3 s x q0 q1 q2 q3 w0 w1 w2 w3)) : To eGz 59 4 (.block 0 (.loop (roundOf 0 f57))) (zipF [11,13,14] vs) T (g57c vs T o0 o1 o2 o3 s x q0 q1 q2 q3 w0 w1 w2 w3).ex (g57c vs T o0 o1 o2 o3 s x q0 q1 q2 q3 w0 w1 w2 w3).fm (g57c vs T o0 o1 o2 o3 s x q0 q1 q2 q3 w0 w1 w2 w3).tab := by
  obtain ⟨hT, hv, h1, h2, h3, h4, _⟩ := h.h
  simp only [Con.h] at hT hv h1 h2 h3 h4
  injection hv with hv
  subst hT hv
  exact To.base (by decide) (loop57 h1 h2 h3 h4)
noncomputable def g57 : List AVal → Tab → Out := fun vs T => g57c vs T (xsAt T 0) (xsAt T 1) (xsAt T 2) (xsAt T 3) (xsAt T 4) (xsAt T 5) (gAt T 0) (gAt T 1) (gAt T 2) (gAt T 3) (owAt T 0) (owAt T 1) (owAt T 2) (owAt T 3)
theorem g57_ok : BlkOk eGz f57 0 (.loop (roundOf 0 f57)) (blkGC 4 [0,1,2,3,10,11] [11,13,14] g57) := blkGC_ok fun vs T h => g57c_ok h
noncomputable def orc57 : OrcL := [(0, blkGC 4 [0,1,2,3,10,11] [11,13,14] g57)]
theorem orc57_ok : FnOrc eGz f57 orc57 := FnOrc.cons g57_ok (by kernel_rfl) FnOrc.nil
noncomputable def R57 (zs ns : List Int) (gk gn : Nat) (cpk cpn : Option Nat) (owk own : Bool) (ms ts : List Int) (gm gt m n : Nat) (cm ct : Option Nat) (owm owt : Bool) : Res := resG 4 [0,1,2,3,5] (runF eGz f57 orc57 400 [.slice 1 0 gk 0 16 cpk, .slice 1 1 gn 0 12 cpn, .slice 1 2 gm 0 m cm, .slice 1 3 gt 0 n ct] [some ⟨.ints .u8 zs, gk, owk, 5⟩, some ⟨.ints .u8 ns, gn, own, 5⟩, some ⟨.ints .u8 ms, gm, owm, 5⟩, some ⟨.ints .u8 ts, gt, owt, 5⟩] [])
theorem R57_ok {zs ns : List Int} {gk gn : Nat} {cpk cpn : Option Nat} {owk own : Bool} {ms ts : List Int} {gm gt m n : Nat} {cm ct : Option Nat} {owm owt : Bool} (h : allP [.eqN gk gk, .eqN gk gk, .leN 16 zs.length, .p (Bytes (subLaw zs 0 16)), .p (Bytes [0, 0, 0, 0, 0, 0, 0, 0, 0, 0, 0, 0, 0, 0, 0, 0]), .eqN gm gm, .leN m ms.length, .leN m 140737488352000, .eqN gt gt, .leN n ts.length, .leN n
 140737488352000, .eqN (1 + padLaw m) (1 + padLaw m), .leN (0 + (m + padLaw m)) (fullLaw (subLaw ms 0 m) (padLaw m)).length, .leN (addO (m + padLaw m) (n + padLaw n)) 140737488355328, .eqN (1 + padLaw n) (1 + padLaw n), .leN (0 + (n + padLaw n)) (fullLaw (subLaw ts 0 n) (padLaw n)).length, .eqN gm gm, .p ((↑m : Int) = (↑m : Int)), .leN m 140737488355000, .eqN (1 + padLaw m + 1) (1 + padLaw m + 1),
 .leN (0 + addO (m + padLaw m) (n + padLaw n)) (List.take (m + padLaw m) (fullLaw (subLaw ms 0 m) (padLaw m)) ++ List.take (n + padLaw n) (fullLaw (subLaw ts 0 n) (padLaw n))).length, .leN (addO (addO (m + padLaw m) (n + padLaw n)) 8) 140737488355328, .eqN gt gt, .p ((↑n : Int) = (↑n : Int)), .leN n 140737488355000, .eqN (1 + padLaw m + 1 + 1) (1 + padLaw m + 1 + 1), .leN (0 + addO (addO (m + padLaw
 m) (n + padLaw n)) 8) (List.take (addO (m + padLaw m) (n + padLaw n)) (List.take (m + padLaw m) (fullLaw (subLaw ms 0 m) (padLaw m)) ++ List.take (n + padLaw n) (fullLaw (subLaw ts 0 n) (padLaw n))) ++ List.take 8 (rlLaw m)).length, .leN (addO (addO (addO (m + padLaw m) (n + padLaw n)) 8) 8) 140737488355328, .eqN (1 + padLaw m + 1 + 1 + 1) (1 + padLaw m + 1 + 1 + 1), .leN (addO (addO (addO (m +
 padLaw m) (n + padLaw n)) 8) 8) (List.take (addO (addO (m + padLaw m) (n + padLaw n)) 8) (List.take (addO (m + padLaw m) (n + padLaw n)) (List.take (m + padLaw m) (fullLaw (subLaw ms 0 m) (padLaw m)) ++ List.take (n + padLaw n) (fullLaw (subLaw ts 0 n) (padLaw n))) ++ List.take 8 (rlLaw m)) ++ List.take 8 (rlLaw n)).length, .p (Bytes (blockLaw (ksLaw (subLaw zs 0 16) 176) (subLaw [0, 0, 0, 0, 0, 0,
 0, 0, 0, 0, 0, 0, 0, 0, 0, 0] 0 16))), .p (Bytes (List.take (addO (addO (m + padLaw m) (n + padLaw n)) 8) (List.take (addO (m + padLaw m) (n + padLaw n)) (List.take (m + padLaw m) (fullLaw (subLaw ms 0 m) (padLaw m)) ++ List.take (n + padLaw n) (fullLaw (subLaw ts 0 n) (padLaw n))) ++ List.take 8 (rlLaw m)) ++ List.take 8 (rlLaw n))), .leN (addO (addO (addO (m + padLaw m) (n + padLaw n)) 8) 8)
 140737488352000, .eqN gk gk, .eqN gn gn, .leN 16 zs.length, .leN 12 ns.length, .p (Bytes zs), .p (Bytes ns), .eqN (rhashLaw (subLaw (blockLaw (ksLaw (subLaw zs 0 16) 176) (subLaw [0, 0, 0, 0, 0, 0, 0, 0, 0, 0, 0, 0, 0, 0, 0, 0] 0 16)) 0 16) (fullLaw (subLaw (List.take (addO (addO (m + padLaw m) (n + padLaw n)) 8) (List.take (addO (m + padLaw m) (n + padLaw n)) (List.take (m + padLaw m) (fullLaw
 (subLaw ms 0 m) (padLaw m)) ++ List.take (n + padLaw n) (fullLaw (subLaw ts 0 n) (padLaw n))) ++ List.take 8 (rlLaw m)) ++ List.take 8 (rlLaw n)) 0 (addO (addO (addO (m + padLaw m) (n + padLaw n)) 8) 8)) (padLaw (addO (addO (addO (m + padLaw m) (n + padLaw n)) 8) 8)))).length 16, .p (Bytes (ctLaw (subLaw zs 0 16) (subLaw ns 0 12) (OfNat.ofNat 1))), .p (Bytes (rhashLaw (subLaw (blockLaw (ksLaw
 (subLaw zs 0 16) 176) (subLaw [0, 0, 0, 0, 0, 0, 0, 0, 0, 0, 0, 0, 0, 0, 0, 0] 0 16)) 0 16) (fullLaw (subLaw (List.take (addO (addO (m + padLaw m) (n + padLaw n)) 8) (List.take (addO (m + padLaw m) (n + padLaw n)) (List.take (m + padLaw m) (fullLaw (subLaw ms 0 m) (padLaw m)) ++ List.take (n + padLaw n) (fullLaw (subLaw ts 0 n) (padLaw n))) ++ List.take 8 (rlLaw m)) ++ List.take 8 (rlLaw n)) 0
 (addO (addO (addO (m + padLaw m) (n + padLaw n)) 8) 8)) (padLaw (addO (addO (addO (m + padLaw m) (n + padLaw n)) 8) 8)))))]) : OkR (R57 zs ns gk gn cpk cpn owk own ms ts gm gt m n cm ct owm owt) := OkR.dem (fl := bitsF 74 1328185699249093083823) (by kernel_rfl) (by kernel_rfl) (by kernel_rfl) h
theorem R57_val {zs ns : List Int} {gk gn : Nat} {cpk cpn : Option Nat} {owk own : Bool} {ms ts : List Int} {gm gt m n : Nat} {cm ct : Option Nat} {owm owt : Bool} : (R57 zs ns gk gn cpk cpn owk own ms ts gm gt m n cm ct owm owt).val = .slice 1 4 15 0 16 none := by kernel_rfl
theorem R57_tab {zs ns : List Int} {gk gn : Nat} {cpk cpn : Option Nat} {owk own : Bool} {ms ts : List Int} {gm gt m n : Nat} {cm ct : Option Nat} {owm owt : Bool} : (R57 zs ns gk gn cpk cpn owk own ms ts gm gt m n cm ct owm owt).tab = [some ⟨.ints .u8 zs, gk, owk, 5⟩, some ⟨.ints .u8 ns, gn, own, 5⟩, some ⟨.ints .u8 ms, gm, owm, 5⟩, some ⟨.ints .u8 ts, gt, owt, 5⟩, some ⟨.ints .u8 (plusLaw (ctLaw
 (subLaw zs 0 16) (subLaw ns 0 12) (OfNat.ofNat 1)) (rhashLaw (subLaw (blockLaw (ksLaw (subLaw zs 0 16) 176) (subLaw [0, 0, 0, 0, 0, 0, 0, 0, 0, 0, 0, 0, 0, 0, 0, 0] 0 16)) 0 16) (fullLaw (subLaw (List.take (addO (addO (m + padLaw m) (n + padLaw n)) 8) (List.take (addO (m + padLaw m) (n + padLaw n)) (List.take (m + padLaw m) (fullLaw (subLaw ms 0 m) (padLaw m)) ++ List.take (n + padLaw n) (fullLaw
 (subLaw ts 0 n) (padLaw n))) ++ List.take 8 (rlLaw m)) ++ List.take 8 (rlLaw n)) 0 (addO (addO (addO (m + padLaw m) (n + padLaw n)) 8) 8)) (padLaw (addO (addO (addO (m + padLaw m) (n + padLaw n)) 8) 8))))), 15, true, 5⟩] := by kernel_rfl
def rtxtLaw (M : List Int) (m : Nat) (X : List Int) (n : Nat) : List Int := fullLaw M (padLaw m) ++ fullLaw X (padLaw n) ++ rlLaw m ++ rlLaw n
def rtagLaw (K N M : List Int) (m : Nat) (X : List Int) (n : Nat) : List Int := plusLaw (ctLaw K N 1) (rhashLaw (blockLaw (ksLaw K 176) zLaw16) (rtxtLaw M m X n))
theorem rl_len (m : Nat) : (rlLaw m).length = 8 := rfl
theorem rl_bytes (m : Nat) : Bytes (rlLaw m) := fun i hi => by
  match i, hi with
  | 0, _ => exact ⟨Int.le_refl 0, show (0 : Int) < 256 by decide⟩
  | 1, _ => exact ⟨Int.le_refl 0, show (0 : Int) < 256 by decide⟩
  | 2, _ => exact ⟨Int.le_refl 0, show (0 : Int) < 256 by decide⟩
  | 3, _ => exact ⟨Int.le_refl 0, show (0 : Int) < 256 by decide⟩
  | 4, _ => exact ⟨Int.emod_nonneg _ (by decide), Int.emod_lt_of_pos _ (by decide)⟩
  | 5, _ => exact ⟨Int.emod_nonneg _ (by decide), Int.emod_lt_of_pos _ (by decide)⟩
  | 6, _ => exact ⟨Int.emod_nonneg _ (by decide), Int.emod_lt_of_pos _ (by decide)⟩
  | 7, _ => exact ⟨Int.emod_nonneg _ (by decide), Int.emod_lt_of_pos _ (by decide)⟩
  | i + 8, hi => rw [rl_len] at hi; omega
theorem rtxt_len {M X : List Int} {m n : Nat} (hm : M.length = m) (hn : X.length = n) : (rtxtLaw M m X n).length = m + padLaw m + (n + padLaw n) + 8 + 8 := by
  unfold rtxtLaw
  rw [List.length_append, List.length_append, List.length_append, full_len, full_len, rl_len, rl_len, hm, hn]
theorem pad_zero {n : Nat} (h : n % 16 = 0) : padLaw n = 0 := by unfold padLaw; omega
theorem pad_sum (n : Nat) : (n + padLaw n) % 16 = 0 := by unfold padLaw; omega
theorem pad_lt (n : Nat) : padLaw n < 16 := by unfold padLaw; omega
theorem full_zero (x : List Int) : fullLaw x 0 = x := by unfold fullLaw; rw [List.replicate_zero, List.append_nil]
theorem rtag_bytes {K N : List Int} (hk : Bytes K) (hn : Bytes N) (M : List Int) (m : Nat) (X : List Int) (n : Nat) : Bytes (rtagLaw K N M m X n) := plus_bytes (ct_bytes hk hn 1) (rh_bytes _ _ _)
theorem rtag_len (K N M : List Int) (m : Nat) (X : List Int) (n : Nat) : (rtagLaw K N M m X n).length = 16 := rfl
noncomputable def sm57c (args : List AVal) (T : Tab) (zs : List Int) (ns : List Int) (gk : Nat) (gn : Nat) (cpk : Option Nat) (cpn : Option Nat) (owk : Bool) (own : Bool) (ms : List Int) (ts : List Int) (gm : Nat) (gt : Nat) (m : Nat) (n : Nat) (cm : Option Nat) (ct : Option Nat) (owm : Bool) (owt : Bool) : Res := ⟨[.tab T [some ⟨.ints .u8 zs, gk, owk, 5⟩, some ⟨.ints .u8 ns, gn, own, 5⟩, some ⟨.ints .u8 ms, gm, owm, 5⟩, some ⟨.ints .u8 ts, gt, owt, 5⟩], .val (.tuple args) (.tuple [.slice 1 0 gk 0 16 cpk, .slice 1 1 gn 0 12 cpn, .slice 1 2 gm 0 m cm, .slice 1 3 gt 0 n ct]), .leN 16 zs.length, .leN 12 ns.length, .p (Bytes zs), .p (Bytes ns), .leN m ms.length, .leN m 140737488340000, .p (Bytes ms), .leN n ts.length, .leN n 140737488340000, .p (Bytes ts), .leN (m + n) 140737488340000], .slice 1 4 15 0 16 none, [some ⟨.ints .u8 zs, gk, owk, 5⟩, some ⟨.ints .u8 ns, gn, own, 5⟩, some ⟨.ints .u8 ms, gm, owm, 5⟩, some ⟨.ints .u8 ts, gt, owt, 5⟩, some ⟨.ints .u8 (rtagLaw (subLaw zs 0 16) (subLaw ns 0 12) (subLaw ms 0 m) m (subLaw ts 0 n) n), 15, true, 5⟩]⟩
theorem sm57c_ok {args : List AVal} {T : Tab} {zs : List Int} {ns : List Int} {gk : Nat} {gn : Nat} {cpk : Option Nat} {cpn : Option Nat} {owk : Bool} {own : Bool} {ms : List Int} {ts : List Int} {gm : Nat} {gt : Nat} {m : Nat} {n : Nat} {cm : Option Nat} {ct : Option Nat} {owm : Bool} {owt : Bool} (h : allP (sm57c args T zs ns gk gn cpk cpn owk own ms ts gm gt m n cm ct owm owt).cs) : Small prog (fun _ => none) 57 args T (sm57c args T zs ns gk gn cpk cpn owk own ms ts gm gt m n cm ct owm owt).val (sm57c args T zs ns gk gn cpk cpn owk own ms ts gm gt m n cm ct owm owt).tab := by
  obtain ⟨hT, hv, h1, h2, h3, h4, h5, h6, h7, h8, h9, h10, h11, _⟩ := h
  simp only [Con.h] at hT hv h1 h2 h3 h4 h5 h6 h7 h8 h9 h10 h11
  injection hv with hv
  subst hT hv
  have b1 := sub_bytes h3 0 16
  have b2 := sub_bytes h4 0 12
  have lM : (subLaw ms 0 m).length = m := subLaw_len (by omega)
  have lX : (subLaw ts 0 n).length = n := subLaw_len (by omega)
  have bM := sub_bytes h7 0 m
  have bX := sub_bytes h10 0 n
  have pm := pad_lt m
  have pn := pad_lt n
  have qm := pad_sum m
  have qn := pad_sum n
  have f1 : (fullLaw (subLaw ms 0 m) (padLaw m)).length = m + padLaw m := by rw [full_len, lM]
  have f2 : (fullLaw (subLaw ts 0 n) (padLaw n)).length = n + padLaw n := by rw [full_len, lX]
  have f3 : (fullLaw (subLaw ms 0 m) (padLaw m) ++ fullLaw (subLaw ts 0 n) (padLaw n)).length = m + padLaw m + (n + padLaw n) := by rw [List.length_append, f1, f2]
  have f4 : (fullLaw (subLaw ms 0 m) (padLaw m) ++ fullLaw (subLaw ts 0 n) (padLaw n) ++ rlLaw m).length = m + padLaw m + (n + padLaw n) + 8 := by rw [List.length_append, f3]; rfl
  have e1 : subLaw [0, 0, 0, 0, 0, 0, 0, 0, 0, 0, 0, 0, 0, 0, 0, 0] 0 16 = zLaw16 := rfl
  have e2 : subLaw (blockLaw (ksLaw (subLaw zs 0 16) 176) zLaw16) 0 16 = blockLaw (ksLaw (subLaw zs 0 16) 176) zLaw16 := sub_n rfl
  have e3 : List.take 8 (rlLaw m) = rlLaw m := rfl
  have e4 : List.take 8 (rlLaw n) = rlLaw n := rfl
  have e5 : fullLaw (subLaw ms 0 m) (padLaw m) ++ fullLaw (subLaw ts 0 n) (padLaw n) ++ rlLaw m ++ rlLaw n = rtxtLaw (subLaw ms 0 m) m (subLaw ts 0 n) n := rfl
  have lt := rtxt_len lM lX
  have bt : Bytes (rtxtLaw (subLaw ms 0 m) m (subLaw ts 0 n) n) := (((full_bytes bM _).append (full_bytes bX _)).append (rl_bytes m)).append (rl_bytes n)
  have e6 : subLaw (rtxtLaw (subLaw ms 0 m) m (subLaw ts 0 n) n) 0 (m + padLaw m + (n + padLaw n) + 8 + 8) = rtxtLaw (subLaw ms 0 m) m (subLaw ts 0 n) n := sub_n lt
  have e7 : padLaw (m + padLaw m + (n + padLaw n) + 8 + 8) = 0 := pad_zero (by omega)
  have c2 : Bytes (blockLaw (ksLaw (subLaw zs 0 16) 176) zLaw16) := enc_bytes (ksLaw_bytes b1 176) z16_bytes 10
  have z16 : Bytes [0, 0, 0, 0, 0, 0, 0, 0, 0, 0, 0, 0, 0, 0, 0, 0] := z16_bytes
  have c3 := ct_bytes b1 b2 1
  have c4 := rh_bytes (blockLaw (ksLaw (subLaw zs 0 16) 176) zLaw16) (rtxtLaw (subLaw ms 0 m) m (subLaw ts 0 n) n) ((rtxtLaw (subLaw ms 0 m) m (subLaw ts 0 n) n).length / 16)
  have c5 := rh_len (blockLaw (ksLaw (subLaw zs 0 16) 176) zLaw16) (rtxtLaw (subLaw ms 0 m) m (subLaw ts 0 n) n) ((rtxtLaw (subLaw ms 0 m) m (subLaw ts 0 n) n).length / 16)
  have c6 : Bytes (rhashLaw (blockLaw (ksLaw (subLaw zs 0 16) 176) zLaw16) (rtxtLaw (subLaw ms 0 m) m (subLaw ts 0 n) n)) := c4
  have c7 : (rhashLaw (blockLaw (ksLaw (subLaw zs 0 16) 176) zLaw16) (rtxtLaw (subLaw ms 0 m) m (subLaw ts 0 n) n)).length = 16 := c5
  have cl := ct_len (subLaw zs 0 16) (subLaw ns 0 12) 1
  have hlb : (blockLaw (ksLaw (subLaw zs 0 16) 176) zLaw16).length = 16 := rfl
  refine small_ofG (R := R57 zs ns gk gn cpk cpn owk own ms ts gm gt m n cm ct owm owt) (keep := [0,1,2,3,5]) eGz_ok hmA (f := 57) (fn := f57) (by kernel_rfl) (by kernel_rfl) orc57_ok rfl (R57_ok ?_) R57_val (by rw [R57_tab]; simp only [addO_eq, e1, e2, e3, e4, take_n f1, take_n f2, take_n f3, take_n f4, e5, e6, e7, full_zero]; rfl)
  simp only [allP, Con.h, addO_eq, Nat.zero_add, e1, e2, e3, e4, take_n f1, take_n f2, take_n f3, take_n f4, e5, e6, e7, full_zero, f1, f2, f3, f4, lt, bt, c2, c3, c6, c7, cl, hlb, z16, b1, h1, h2, h3, h4, h5, h7, h8, h10, eq_self, true_and, and_true]
  try omega
noncomputable def sm57 : Summary := fun args T => sm57c args T (xsAt T 0) (xsAt T 1) (gAt T 0) (gAt T 1) (capOf (vAt args 0)) (capOf (vAt args 1)) (owAt T 0) (owAt T 1) (xsAt T 2) (xsAt T 3) (gAt T 2) (gAt T 3) (lenOf (vAt args 2)) (lenOf (vAt args 3)) (capOf (vAt args 2)) (capOf (vAt args 3)) (owAt T 2) (owAt T 3)
theorem sm57_ok : SmOk prog (fun _ => none) 57 sm57 := fun args T h => sm57c_ok h
noncomputable def S57 : Summary := callR sm57 []
theorem S57_ok : SumOk prog (fun _ => none) 57 S57 := callR_ok sm57_ok []
end Go.Abs

set_option linter.unusedVariables false
set_option linter.unusedSimpArgs false
set_option maxRecDepth 8000
namespace Go.Abs
open Go.Proofs.Try
/-! ### the document: Seal, Open -/
noncomputable def eGy : Env := eA [(56, S56), (57, S57)]
theorem eGy_ok : EnvOk eGy := envOf_ok tysA_ok (SumsOk.cons (fn := f56) S56_ok (by kernel_rfl) (by kernel_rfl) (by kernel_rfl) (SumsOk.cons (fn := f57) S57_ok (by kernel_rfl) (by kernel_rfl) (by kernel_rfl) trivial))
noncomputable def R33A (zs ns : List Int) (gk gn : Nat) (cpk cpn : Option Nat) (owk own : Bool) (ms ts : List Int) (gm gt m n : Nat) (cm ct : Option Nat) (owm owt : Bool) : Res := resG 4 [0,1,2,3,5] (runF eGy f33 [] 400 [.slice 1 0 gk 0 16 cpk, .slice 1 1 gn 0 12 cpn, .slice 1 2 gm 0 m cm, .slice 1 3 gt 0 n none] [some ⟨.ints .u8 zs, gk, owk, 5⟩, some ⟨.ints .u8 ns, gn, own, 5⟩, some ⟨.ints .u8 ms, gm, owm, 5⟩, some ⟨.ints .u8 ts, gt, owt, 5⟩] [some false, some false, some false, some false, some false, some false])
theorem R33A_ok {zs ns : List Int} {gk gn : Nat} {cpk cpn : Option Nat} {owk own : Bool} {ms ts : List Int} {gm gt m n : Nat} {cm ct : Option Nat} {owm owt : Bool} (h : allP [.eqN gk gk, .p (false = false), .eqN gn gn, .p (false = false), .eqN gm gm, .p (decide (65536 < (↑m : Int)) = false), .eqN gt gt, .p (decide (65552 < (↑n : Int)) = false), .eqN gt gt, .rng (-9223372036854775808) ((↑n : Int) -
 16) 9223372036854775807, .p (decide ((↑n : Int) - 16 < 0) = false), .leI 0 ((↑n : Int) - 16), .eqN gt gt, .leN 0 ((↑n : Int) - 16).toNat, .orN ((↑n : Int) - 16).toNat n (0 + ((↑n : Int) - 16).toNat) ts.length, .eqN gk gk, .eqN gn gn, .eqN gm gm, .eqN gt gt, .leN 16 zs.length, .leN 12 ns.length, .p (Bytes zs), .p (Bytes ns), .leN m ms.length, .leN m 140737488340000, .p (Bytes ms), .leN ((↑n : Int) -
 16).toNat ts.length, .leN ((↑n : Int) - 16).toNat 140737488340000, .p (Bytes ts), .leN (m + ((↑n : Int) - 16).toNat) 140737488340000, .leI 0 ((↑n : Int) - 16), .eqN gt gt, .leN ((↑n : Int) - 16).toNat n, .leI 0 ((↑n : Int) - 16), .eqN gt gt, .leN ((↑n : Int) - 16).toNat n, .eqN gt gt, .leN (((↑n : Int) - 16).toNat + subO n ((↑n : Int) - 16).toNat) ts.length, .eqN gt gt, .leN (((↑n : Int) -
 16).toNat + subO n ((↑n : Int) - 16).toNat) ts.length, .p ((!List.map byteOf (List.take 16 (rtagLaw (subLaw zs 0 16) (subLaw ns 0 12) (subLaw ms 0 m) m (subLaw ts 0 ((↑n : Int) - 16).toNat) ((↑n : Int) - 16).toNat)) == List.map byteOf (List.take (subO n ((↑n : Int) - 16).toNat) (dropO ((↑n : Int) - 16).toNat ts))) = false), .leI 0 ((↑n : Int) - 16), .eqN gt gt, .leN 0 ((↑n : Int) - 16).toNat, .orN
 ((↑n : Int) - 16).toNat n (0 + ((↑n : Int) - 16).toNat) ts.length, .eqN gk gk, .eqN gn gn, .eqN gt gt, .leN 16 zs.length, .leN 12 ns.length, .p (Bytes zs), .p (Bytes ns), .leN ((↑n : Int) - 16).toNat ts.length, .leN ((↑n : Int) - 16).toNat 140737488352000, .p (Bytes ts)]) : OkR (R33A zs ns gk gn cpk cpn owk own ms ts gm gt m n cm ct owm owt) := OkR.dem (fl := bitsF 67 51539607552) (by kernel_rfl)
 (by kernel_rfl) (by kernel_rfl) h
theorem R33A_val {zs ns : List Int} {gk gn : Nat} {cpk cpn : Option Nat} {owk own : Bool} {ms ts : List Int} {gm gt m n : Nat} {cm ct : Option Nat} {owm owt : Bool} : (R33A zs ns gk gn cpk cpn owk own ms ts gm gt m n cm ct owm owt).val = .tuple [.slice 1 4 (((↑n : Int) - 16).toNat - 1) 0 ((↑n : Int) - 16).toNat none, .int .i64 0] := by kernel_rfl
theorem R33A_tab {zs ns : List Int} {gk gn : Nat} {cpk cpn : Option Nat} {owk own : Bool} {ms ts : List Int} {gm gt m n : Nat} {cm ct : Option Nat} {owm owt : Bool} : (R33A zs ns gk gn cpk cpn owk own ms ts gm gt m n cm ct owm owt).tab = [some ⟨.ints .u8 zs, gk, owk, 5⟩, some ⟨.ints .u8 ns, gn, own, 5⟩, some ⟨.ints .u8 ms, gm, owm, 5⟩, some ⟨.ints .u8 ts, gt, owt, 5⟩, some ⟨.ints .u8 (udLaw (subLaw
 zs 0 16) (subLaw ns 0 12) ts ((↑n : Int) - 16).toNat), ((↑n : Int) - 16).toNat - 1, true, 5⟩] := by kernel_rfl
noncomputable def R33X (zs ns : List Int) (gk gn : Nat) (cpk cpn : Option Nat) (owk own : Bool) (ms ts : List Int) (gm gt m n : Nat) (cm ct : Option Nat) (owm owt : Bool) : Res := resG 4 [0,1,2,3] (runF eGy f33 [] 400 [.slice 1 0 gk 0 16 cpk, .slice 1 1 gn 0 12 cpn, .slice 1 2 gm 0 m cm, .slice 1 3 gt 0 n none] [some ⟨.ints .u8 zs, gk, owk, 5⟩, some ⟨.ints .u8 ns, gn, own, 5⟩, some ⟨.ints .u8 ms, gm, owm, 5⟩, some ⟨.ints .u8 ts, gt, owt, 5⟩] [some false, some false, some false, some false, some false, some true])
theorem R33X_ok {zs ns : List Int} {gk gn : Nat} {cpk cpn : Option Nat} {owk own : Bool} {ms ts : List Int} {gm gt m n : Nat} {cm ct : Option Nat} {owm owt : Bool} (h : allP [.eqN gk gk, .p (false = false), .eqN gn gn, .p (false = false), .eqN gm gm, .p (decide (65536 < (↑m : Int)) = false), .eqN gt gt, .p (decide (65552 < (↑n : Int)) = false), .eqN gt gt, .rng (-9223372036854775808) ((↑n : Int) -
 16) 9223372036854775807, .p (decide ((↑n : Int) - 16 < 0) = false), .leI 0 ((↑n : Int) - 16), .eqN gt gt, .leN 0 ((↑n : Int) - 16).toNat, .orN ((↑n : Int) - 16).toNat n (0 + ((↑n : Int) - 16).toNat) ts.length, .eqN gk gk, .eqN gn gn, .eqN gm gm, .eqN gt gt, .leN 16 zs.length, .leN 12 ns.length, .p (Bytes zs), .p (Bytes ns), .leN m ms.length, .leN m 140737488340000, .p (Bytes ms), .leN ((↑n : Int) -
 16).toNat ts.length, .leN ((↑n : Int) - 16).toNat 140737488340000, .p (Bytes ts), .leN (m + ((↑n : Int) - 16).toNat) 140737488340000, .leI 0 ((↑n : Int) - 16), .eqN gt gt, .leN ((↑n : Int) - 16).toNat n, .leI 0 ((↑n : Int) - 16), .eqN gt gt, .leN ((↑n : Int) - 16).toNat n, .eqN gt gt, .leN (((↑n : Int) - 16).toNat + subO n ((↑n : Int) - 16).toNat) ts.length, .eqN gt gt, .leN (((↑n : Int) -
 16).toNat + subO n ((↑n : Int) - 16).toNat) ts.length, .p ((!List.map byteOf (List.take 16 (rtagLaw (subLaw zs 0 16) (subLaw ns 0 12) (subLaw ms 0 m) m (subLaw ts 0 ((↑n : Int) - 16).toNat) ((↑n : Int) - 16).toNat)) == List.map byteOf (List.take (subO n ((↑n : Int) - 16).toNat) (dropO ((↑n : Int) - 16).toNat ts))) = true)]) : OkR (R33X zs ns gk gn cpk cpn owk own ms ts gm gt m n cm ct owm owt) :=
 OkR.dem (fl := bitsF 51 51539607552) (by kernel_rfl) (by kernel_rfl) (by kernel_rfl) h
theorem R33X_val {zs ns : List Int} {gk gn : Nat} {cpk cpn : Option Nat} {owk own : Bool} {ms ts : List Int} {gm gt m n : Nat} {cm ct : Option Nat} {owm owt : Bool} : (R33X zs ns gk gn cpk cpn owk own ms ts gm gt m n cm ct owm owt).val = .tuple [.nilSlice, .int .i64 32] := by kernel_rfl
theorem R33X_tab {zs ns : List Int} {gk gn : Nat} {cpk cpn : Option Nat} {owk own : Bool} {ms ts : List Int} {gm gt m n : Nat} {cm ct : Option Nat} {owm owt : Bool} : (R33X zs ns gk gn cpk cpn owk own ms ts gm gt m n cm ct owm owt).tab = [some ⟨.ints .u8 zs, gk, owk, 5⟩, some ⟨.ints .u8 ns, gn, own, 5⟩, some ⟨.ints .u8 ms, gm, owm, 5⟩, some ⟨.ints .u8 ts, gt, owt, 5⟩] := by kernel_rfl
noncomputable def R33s (zs ns : List Int) (gk gn : Nat) (cpk cpn : Option Nat) (owk own : Bool) (ms ts : List Int) (gm gt m n : Nat) (cm ct : Option Nat) (owm owt : Bool) : Res := resG 4 [0,1,2,3] (runF eGy f33 [] 400 [.slice 1 0 gk 0 16 cpk, .slice 1 1 gn 0 12 cpn, .slice 1 2 gm 0 m cm, .slice 1 3 gt 0 n ct] [some ⟨.ints .u8 zs, gk, owk, 5⟩, some ⟨.ints .u8 ns, gn, own, 5⟩, some ⟨.ints .u8 ms, gm, owm, 5⟩, some ⟨.ints .u8 ts, gt, owt, 5⟩] [some false, some false, some false, some false, some true])
theorem R33s_ok {zs ns : List Int} {gk gn : Nat} {cpk cpn : Option Nat} {owk own : Bool} {ms ts : List Int} {gm gt m n : Nat} {cm ct : Option Nat} {owm owt : Bool} (h : allP [.eqN gk gk, .p (false = false), .eqN gn gn, .p (false = false), .eqN gm gm, .p (decide (65536 < (↑m : Int)) = false), .eqN gt gt, .p (decide (65552 < (↑n : Int)) = false), .eqN gt gt, .rng (-9223372036854775808) ((↑n : Int) -
 16) 9223372036854775807, .p (decide ((↑n : Int) - 16 < 0) = true)]) : OkR (R33s zs ns gk gn cpk cpn owk own ms ts gm gt m n cm ct owm owt) := OkR.dem (fl := bitsF 17 0) (by kernel_rfl) (by kernel_rfl) (by kernel_rfl) h
theorem R33s_val {zs ns : List Int} {gk gn : Nat} {cpk cpn : Option Nat} {owk own : Bool} {ms ts : List Int} {gm gt m n : Nat} {cm ct : Option Nat} {owm owt : Bool} : (R33s zs ns gk gn cpk cpn owk own ms ts gm gt m n cm ct owm owt).val = .tuple [.nilSlice, .int .i64 32] := by kernel_rfl
theorem R33s_tab {zs ns : List Int} {gk gn : Nat} {cpk cpn : Option Nat} {owk own : Bool} {ms ts : List Int} {gm gt m n : Nat} {cm ct : Option Nat} {owm owt : Bool} : (R33s zs ns gk gn cpk cpn owk own ms ts gm gt m n cm ct owm owt).tab = [some ⟨.ints .u8 zs, gk, owk, 5⟩, some ⟨.ints .u8 ns, gn, own, 5⟩, some ⟨.ints .u8 ms, gm, owm, 5⟩, some ⟨.ints .u8 ts, gt, owt, 5⟩] := by kernel_rfl
noncomputable def R33k (zs ns : List Int) (gk gn : Nat) (cpk cpn : Option Nat) (owk own : Bool) (ms ts : List Int) (gm gt m n : Nat) (cm ct : Option Nat) (owm owt : Bool) (nk nn : Nat) : Res := resG 4 [0,1,2,3] (runF eGy f33 [] 400 [.slice 1 0 gk 0 nk cpk, .slice 1 1 gn 0 nn cpn, .slice 1 2 gm 0 m cm, .slice 1 3 gt 0 n ct] [some ⟨.ints .u8 zs, gk, owk, 5⟩, some ⟨.ints .u8 ns, gn, own, 5⟩, some ⟨.ints .u8 ms, gm, owm, 5⟩, some ⟨.ints .u8 ts, gt, owt, 5⟩] [some true])
theorem R33k_ok {zs ns : List Int} {gk gn : Nat} {cpk cpn : Option Nat} {owk own : Bool} {ms ts : List Int} {gm gt m n : Nat} {cm ct : Option Nat} {owm owt : Bool} {nk nn : Nat} (h : allP [.eqN gk gk, .p (((↑nk : Int) != 16) = true)]) : OkR (R33k zs ns gk gn cpk cpn owk own ms ts gm gt m n cm ct owm owt nk nn) := OkR.dem (fl := [false, false]) (by kernel_rfl) (by kernel_rfl) (by kernel_rfl) h
theorem R33k_val {zs ns : List Int} {gk gn : Nat} {cpk cpn : Option Nat} {owk own : Bool} {ms ts : List Int} {gm gt m n : Nat} {cm ct : Option Nat} {owm owt : Bool} {nk nn : Nat} : (R33k zs ns gk gn cpk cpn owk own ms ts gm gt m n cm ct owm owt nk nn).val = .tuple [.nilSlice, .int .i64 1] := by kernel_rfl
theorem R33k_tab {zs ns : List Int} {gk gn : Nat} {cpk cpn : Option Nat} {owk own : Bool} {ms ts : List Int} {gm gt m n : Nat} {cm ct : Option Nat} {owm owt : Bool} {nk nn : Nat} : (R33k zs ns gk gn cpk cpn owk own ms ts gm gt m n cm ct owm owt nk nn).tab = [some ⟨.ints .u8 zs, gk, owk, 5⟩, some ⟨.ints .u8 ns, gn, own, 5⟩, some ⟨.ints .u8 ms, gm, owm, 5⟩, some ⟨.ints .u8 ts, gt, owt, 5⟩] := by
 kernel_rfl
noncomputable def R33n (zs ns : List Int) (gk gn : Nat) (cpk cpn : Option Nat) (owk own : Bool) (ms ts : List Int) (gm gt m n : Nat) (cm ct : Option Nat) (owm owt : Bool) (nn : Nat) : Res := resG 4 [0,1,2,3] (runF eGy f33 [] 400 [.slice 1 0 gk 0 16 cpk, .slice 1 1 gn 0 nn cpn, .slice 1 2 gm 0 m cm, .slice 1 3 gt 0 n ct] [some ⟨.ints .u8 zs, gk, owk, 5⟩, some ⟨.ints .u8 ns, gn, own, 5⟩, some ⟨.ints .u8 ms, gm, owm, 5⟩, some ⟨.ints .u8 ts, gt, owt, 5⟩] [some false, some true])
theorem R33n_ok {zs ns : List Int} {gk gn : Nat} {cpk cpn : Option Nat} {owk own : Bool} {ms ts : List Int} {gm gt m n : Nat} {cm ct : Option Nat} {owm owt : Bool} {nn : Nat} (h : allP [.eqN gk gk, .p (false = false), .eqN gn gn, .p (((↑nn : Int) != 12) = true)]) : OkR (R33n zs ns gk gn cpk cpn owk own ms ts gm gt m n cm ct owm owt nn) := OkR.dem (fl := [false, false, false, false]) (by kernel_rfl)
 (by kernel_rfl) (by kernel_rfl) h
theorem R33n_val {zs ns : List Int} {gk gn : Nat} {cpk cpn : Option Nat} {owk own : Bool} {ms ts : List Int} {gm gt m n : Nat} {cm ct : Option Nat} {owm owt : Bool} {nn : Nat} : (R33n zs ns gk gn cpk cpn owk own ms ts gm gt m n cm ct owm owt nn).val = .tuple [.nilSlice, .int .i64 1] := by kernel_rfl
theorem R33n_tab {zs ns : List Int} {gk gn : Nat} {cpk cpn : Option Nat} {owk own : Bool} {ms ts : List Int} {gm gt m n : Nat} {cm ct : Option Nat} {owm owt : Bool} {nn : Nat} : (R33n zs ns gk gn cpk cpn owk own ms ts gm gt m n cm ct owm owt nn).tab = [some ⟨.ints .u8 zs, gk, owk, 5⟩, some ⟨.ints .u8 ns, gn, own, 5⟩, some ⟨.ints .u8 ms, gm, owm, 5⟩, some ⟨.ints .u8 ts, gt, owt, 5⟩] := by kernel_rfl
noncomputable def R33m (zs ns : List Int) (gk gn : Nat) (cpk cpn : Option Nat) (owk own : Bool) (ms ts : List Int) (gm gt m n : Nat) (cm ct : Option Nat) (owm owt : Bool) : Res := resG 4 [0,1,2,3] (runF eGy f33 [] 400 [.slice 1 0 gk 0 16 cpk, .slice 1 1 gn 0 12 cpn, .slice 1 2 gm 0 m cm, .slice 1 3 gt 0 n ct] [some ⟨.ints .u8 zs, gk, owk, 5⟩, some ⟨.ints .u8 ns, gn, own, 5⟩, some ⟨.ints .u8 ms, gm, owm, 5⟩, some ⟨.ints .u8 ts, gt, owt, 5⟩] [some false, some false, some true])
theorem R33m_ok {zs ns : List Int} {gk gn : Nat} {cpk cpn : Option Nat} {owk own : Bool} {ms ts : List Int} {gm gt m n : Nat} {cm ct : Option Nat} {owm owt : Bool} (h : allP [.eqN gk gk, .p (false = false), .eqN gn gn, .p (false = false), .eqN gm gm, .p (decide (65536 < (↑m : Int)) = true)]) : OkR (R33m zs ns gk gn cpk cpn owk own ms ts gm gt m n cm ct owm owt) := OkR.dem (fl := [false, false,
 false, false, false, false]) (by kernel_rfl) (by kernel_rfl) (by kernel_rfl) h
theorem R33m_val {zs ns : List Int} {gk gn : Nat} {cpk cpn : Option Nat} {owk own : Bool} {ms ts : List Int} {gm gt m n : Nat} {cm ct : Option Nat} {owm owt : Bool} : (R33m zs ns gk gn cpk cpn owk own ms ts gm gt m n cm ct owm owt).val = .tuple [.nilSlice, .int .i64 6] := by kernel_rfl
theorem R33m_tab {zs ns : List Int} {gk gn : Nat} {cpk cpn : Option Nat} {owk own : Bool} {ms ts : List Int} {gm gt m n : Nat} {cm ct : Option Nat} {owm owt : Bool} : (R33m zs ns gk gn cpk cpn owk own ms ts gm gt m n cm ct owm owt).tab = [some ⟨.ints .u8 zs, gk, owk, 5⟩, some ⟨.ints .u8 ns, gn, own, 5⟩, some ⟨.ints .u8 ms, gm, owm, 5⟩, some ⟨.ints .u8 ts, gt, owt, 5⟩] := by kernel_rfl
noncomputable def R33t (zs ns : List Int) (gk gn : Nat) (cpk cpn : Option Nat) (owk own : Bool) (ms ts : List Int) (gm gt m n : Nat) (cm ct : Option Nat) (owm owt : Bool) : Res := resG 4 [0,1,2,3] (runF eGy f33 [] 400 [.slice 1 0 gk 0 16 cpk, .slice 1 1 gn 0 12 cpn, .slice 1 2 gm 0 m cm, .slice 1 3 gt 0 n ct] [some ⟨.ints .u8 zs, gk, owk, 5⟩, some ⟨.ints .u8 ns, gn, own, 5⟩, some ⟨.ints .u8 ms, gm, owm, 5⟩, some ⟨.ints .u8 ts, gt, owt, 5⟩] [some false, some false, some false, some true])
theorem R33t_ok {zs ns : List Int} {gk gn : Nat} {cpk cpn : Option Nat} {owk own : Bool} {ms ts : List Int} {gm gt m n : Nat} {cm ct : Option Nat} {owm owt : Bool} (h : allP [.eqN gk gk, .p (false = false), .eqN gn gn, .p (false = false), .eqN gm gm, .p (decide (65536 < (↑m : Int)) = false), .eqN gt gt, .p (decide (65552 < (↑n : Int)) = true)]) : OkR (R33t zs ns gk gn cpk cpn owk own ms ts gm gt m
 n cm ct owm owt) := OkR.dem (fl := [false, false, false, false, false, false, false, false]) (by kernel_rfl) (by kernel_rfl) (by kernel_rfl) h
theorem R33t_val {zs ns : List Int} {gk gn : Nat} {cpk cpn : Option Nat} {owk own : Bool} {ms ts : List Int} {gm gt m n : Nat} {cm ct : Option Nat} {owm owt : Bool} : (R33t zs ns gk gn cpk cpn owk own ms ts gm gt m n cm ct owm owt).val = .tuple [.nilSlice, .int .i64 6] := by kernel_rfl
theorem R33t_tab {zs ns : List Int} {gk gn : Nat} {cpk cpn : Option Nat} {owk own : Bool} {ms ts : List Int} {gm gt m n : Nat} {cm ct : Option Nat} {owm owt : Bool} : (R33t zs ns gk gn cpk cpn owk own ms ts gm gt m n cm ct owm owt).tab = [some ⟨.ints .u8 zs, gk, owk, 5⟩, some ⟨.ints .u8 ns, gn, own, 5⟩, some ⟨.ints .u8 ms, gm, owm, 5⟩, some ⟨.ints .u8 ts, gt, owt, 5⟩] := by kernel_rfl
noncomputable def sm33xc (args : List AVal) (T : Tab) (zs : List Int) (ns : List Int) (gk : Nat) (gn : Nat) (cpk : Option Nat) (cpn : Option Nat) (owk : Bool) (own : Bool) (ms : List Int) (ts : List Int) (gm : Nat) (gt : Nat) (m : Nat) (n : Nat) (cm : Option Nat) (ct : Option Nat) (owm : Bool) (owt : Bool) (nk : Nat) (nn : Nat) : Res := ⟨[.tab T [some ⟨.ints .u8 zs, gk, owk, 5⟩, some ⟨.ints .u8 ns, gn, own, 5⟩, some ⟨.ints .u8 ms, gm, owm, 5⟩, some ⟨.ints .u8 ts, gt, owt, 5⟩], .val (.tuple args) (.tuple [.slice 1 0 gk 0 nk cpk, .slice 1 1 gn 0 nn cpn, .slice 1 2 gm 0 m cm, .slice 1 3 gt 0 n ct]), .p (nk ≠ 16 ∨ nn ≠ 12)], .tuple [.nilSlice, .int .i64 1], [some ⟨.ints .u8 zs, gk, owk, 5⟩, some ⟨.ints .u8 ns, gn, own, 5⟩, some ⟨.ints .u8 ms, gm, owm, 5⟩, some ⟨.ints .u8 ts, gt, owt, 5⟩]⟩
theorem sm33xc_ok {args : List AVal} {T : Tab} {zs : List Int} {ns : List Int} {gk : Nat} {gn : Nat} {cpk : Option Nat} {cpn : Option Nat} {owk : Bool} {own : Bool} {ms : List Int} {ts : List Int} {gm : Nat} {gt : Nat} {m : Nat} {n : Nat} {cm : Option Nat} {ct : Option Nat} {owm : Bool} {owt : Bool} {nk : Nat} {nn : Nat} (h : allP (sm33xc args T zs ns gk gn cpk cpn owk own ms ts gm gt m n cm ct owm owt nk nn).cs) : Small prog (fun _ => none) 33 args T (sm33xc args T zs ns gk gn cpk cpn owk own ms ts gm gt m n cm ct owm owt nk nn).val (sm33xc args T zs ns gk gn cpk cpn owk own ms ts gm gt m n cm ct owm owt nk nn).tab := by
  obtain ⟨hT, hv, h1, _⟩ := h
  simp only [Con.h] at hT hv h1
  injection hv with hv
  subst hT hv
  by_cases h : nk = 16
  · subst h
    have h2 := neq12 (h1.resolve_left (fun h => h rfl))
    refine small_ofG (R := R33n zs ns gk gn cpk cpn owk own ms ts gm gt m n cm ct owm owt nn) (keep := [0,1,2,3]) eGy_ok hmA (f := 33) (fn := f33) (by kernel_rfl) (by kernel_rfl) FnOrc.nil rfl (R33n_ok ?_) R33n_val R33n_tab
    simp only [allP, Con.h, h2, eq16, eq_self, true_and, and_true]
  · refine small_ofG (R := R33k zs ns gk gn cpk cpn owk own ms ts gm gt m n cm ct owm owt nk nn) (keep := [0,1,2,3]) eGy_ok hmA (f := 33) (fn := f33) (by kernel_rfl) (by kernel_rfl) FnOrc.nil rfl (R33k_ok ?_) R33k_val R33k_tab
    simp only [allP, Con.h, neq16 h, eq_self, true_and, and_true]
noncomputable def sm33x : Summary := fun args T => sm33xc args T (xsAt T 0) (xsAt T 1) (gAt T 0) (gAt T 1) (capOf (vAt args 0)) (capOf (vAt args 1)) (owAt T 0) (owAt T 1) (xsAt T 2) (xsAt T 3) (gAt T 2) (gAt T 3) (lenOf (vAt args 2)) (lenOf (vAt args 3)) (capOf (vAt args 2)) (capOf (vAt args 3)) (owAt T 2) (owAt T 3) (lenOf (vAt args 0)) (lenOf (vAt args 1))
theorem sm33x_ok : SmOk prog (fun _ => none) 33 sm33x := fun args T h => sm33xc_ok h
noncomputable def S33x : Summary := callR sm33x []
theorem S33x_ok : SumOk prog (fun _ => none) 33 S33x := callR_ok sm33x_ok []
noncomputable def sm33yc (args : List AVal) (T : Tab) (zs : List Int) (ns : List Int) (gk : Nat) (gn : Nat) (cpk : Option Nat) (cpn : Option Nat) (owk : Bool) (own : Bool) (ms : List Int) (ts : List Int) (gm : Nat) (gt : Nat) (m : Nat) (n : Nat) (cm : Option Nat) (ct : Option Nat) (owm : Bool) (owt : Bool) : Res := ⟨[.tab T [some ⟨.ints .u8 zs, gk, owk, 5⟩, some ⟨.ints .u8 ns, gn, own, 5⟩, some ⟨.ints .u8 ms, gm, owm, 5⟩, some ⟨.ints .u8 ts, gt, owt, 5⟩], .val (.tuple args) (.tuple [.slice 1 0 gk 0 16 cpk, .slice 1 1 gn 0 12 cpn, .slice 1 2 gm 0 m cm, .slice 1 3 gt 0 n ct]), .p (65536 < m ∨ 65552 < n)], .tuple [.nilSlice, .int .i64 6], [some ⟨.ints .u8 zs, gk, owk, 5⟩, some ⟨.ints .u8 ns, gn, own, 5⟩, some ⟨.ints .u8 ms, gm, owm, 5⟩, some ⟨.ints .u8 ts, gt, owt, 5⟩]⟩
theorem sm33yc_ok {args : List AVal} {T : Tab} {zs : List Int} {ns : List Int} {gk : Nat} {gn : Nat} {cpk : Option Nat} {cpn : Option Nat} {owk : Bool} {own : Bool} {ms : List Int} {ts : List Int} {gm : Nat} {gt : Nat} {m : Nat} {n : Nat} {cm : Option Nat} {ct : Option Nat} {owm : Bool} {owt : Bool} (h : allP (sm33yc args T zs ns gk gn cpk cpn owk own ms ts gm gt m n cm ct owm owt).cs) : Small prog (fun _ => none) 33 args T (sm33yc args T zs ns gk gn cpk cpn owk own ms ts gm gt m n cm ct owm owt).val (sm33yc args T zs ns gk gn cpk cpn owk own ms ts gm gt m n cm ct owm owt).tab := by
  obtain ⟨hT, hv, h1, _⟩ := h
  simp only [Con.h] at hT hv h1
  injection hv with hv
  subst hT hv
  by_cases h : 65536 < m
  · refine small_ofG (R := R33m zs ns gk gn cpk cpn owk own ms ts gm gt m n cm ct owm owt) (keep := [0,1,2,3]) eGy_ok hmA (f := 33) (fn := f33) (by kernel_rfl) (by kernel_rfl) FnOrc.nil rfl (R33m_ok ?_) R33m_val R33m_tab
    simp only [allP, Con.h, decide_eq_true_eq, eq_self, true_and, and_true]
    omega
  · have h2 := h1.resolve_left h
    refine small_ofG (R := R33t zs ns gk gn cpk cpn owk own ms ts gm gt m n cm ct owm owt) (keep := [0,1,2,3]) eGy_ok hmA (f := 33) (fn := f33) (by kernel_rfl) (by kernel_rfl) FnOrc.nil rfl (R33t_ok ?_) R33t_val R33t_tab
    simp only [allP, Con.h, decide_eq_true_eq, decide_eq_false_iff_not, eq_self, true_and, and_true]
    omega
noncomputable def sm33y : Summary := fun args T => sm33yc args T (xsAt T 0) (xsAt T 1) (gAt T 0) (gAt T 1) (capOf (vAt args 0)) (capOf (vAt args 1)) (owAt T 0) (owAt T 1) (xsAt T 2) (xsAt T 3) (gAt T 2) (gAt T 3) (lenOf (vAt args 2)) (lenOf (vAt args 3)) (capOf (vAt args 2)) (capOf (vAt args 3)) (owAt T 2) (owAt T 3)
theorem sm33y_ok : SmOk prog (fun _ => none) 33 sm33y := fun args T h => sm33yc_ok h
noncomputable def S33y : Summary := callR sm33y []
theorem S33y_ok : SumOk prog (fun _ => none) 33 S33y := callR_ok sm33y_ok []
noncomputable def sm33Ac (args : List AVal) (T : Tab) (zs : List Int) (ns : List Int) (gk : Nat) (gn : Nat) (cpk : Option Nat) (cpn : Option Nat) (owk : Bool) (own : Bool) (ms : List Int) (ts : List Int) (gm : Nat) (gt : Nat) (m : Nat) (n : Nat) (cm : Option Nat) (ct : Option Nat) (owm : Bool) (owt : Bool) : Res := ⟨[.tab T [some ⟨.ints .u8 zs, gk, owk, 5⟩, some ⟨.ints .u8 ns, gn, own, 5⟩, some ⟨.ints .u8 ms, gm, owm, 5⟩, some ⟨.ints .u8 ts, gt, owt, 5⟩], .val (.tuple args) (.tuple [.slice 1 0 gk 0 16 cpk, .slice 1 1 gn 0 12 cpn, .slice 1 2 gm 0 m cm, .slice 1 3 gt 0 n none]), .leN 16 zs.length, .leN 12 ns.length, .p (Bytes zs), .p (Bytes ns), .leN m ms.length, .leN m 65536, .p (Bytes ms), .leN n ts.length, .leN n 65552, .p (Bytes ts), .leN 16 n, .p (rtagLaw (subLaw zs 0 16) (subLaw ns 0 12) (subLaw ms 0 m) m (subLaw ts 0 (n - 16)) (n - 16) = subLaw ts (n - 16) 16)], .tuple [.slice 1 4 (n - 16 - 1) 0 (n - 16) none, .int .i64 0], [some ⟨.ints .u8 zs, gk, owk, 5⟩, some ⟨.ints .u8 ns, gn, own, 5⟩, some ⟨.ints .u8 ms, gm, owm, 5⟩, some ⟨.ints .u8 ts, gt, owt, 5⟩, some ⟨.ints .u8 (udLaw (subLaw zs 0 16) (subLaw ns 0 12) ts (n - 16)), n - 16 - 1, true, 5⟩]⟩
theorem sm33Ac_ok {args : List AVal} {T : Tab} {zs : List Int} {ns : List Int} {gk : Nat} {gn : Nat} {cpk : Option Nat} {cpn : Option Nat} {owk : Bool} {own : Bool} {ms : List Int} {ts : List Int} {gm : Nat} {gt : Nat} {m : Nat} {n : Nat} {cm : Option Nat} {ct : Option Nat} {owm : Bool} {owt : Bool} (h : allP (sm33Ac args T zs ns gk gn cpk cpn owk own ms ts gm gt m n cm ct owm owt).cs) : Small prog (fun _ => none) 33 args T (sm33Ac args T zs ns gk gn cpk cpn owk own ms ts gm gt m n cm ct owm owt).val (sm33Ac args T zs ns gk gn cpk cpn owk own ms ts gm gt m n cm ct owm owt).tab := by
  obtain ⟨hT, hv, h1, h2, h3, h4, h5, h6, h7, h8, h9, h10, h11, h12, _⟩ := h
  simp only [Con.h] at hT hv h1 h2 h3 h4 h5 h6 h7 h8 h9 h10 h11 h12
  injection hv with hv
  subst hT hv
  have b1 := sub_bytes h3 0 16
  have b2 := sub_bytes h4 0 12
  have e1 : ((n : Int) - 16).toNat = n - 16 := by omega
  have e2 : subO n (n - 16) = 16 := by rw [subO_eq]; omega
  have e3 : List.take 16 (dropO (n - 16) ts) = subLaw ts (n - 16) 16 := by rw [dropO_eq]; rfl
  refine small_ofG (R := R33A zs ns gk gn cpk cpn owk own ms ts gm gt m n cm ct owm owt) (keep := [0,1,2,3,5]) eGy_ok hmA (f := 33) (fn := f33) (by kernel_rfl) (by kernel_rfl) FnOrc.nil rfl (R33A_ok ?_) (by rw [R33A_val, e1]; rfl) (by rw [R33A_tab, e1]; rfl)
  rw [e1, e2, e3, take_n (rtag_len _ _ _ _ _ _), h12]
  simp only [allP, Con.h, gBytes_eq, Bool.not_true, h1, h2, h3, h4, h5, h7, h10, decide_eq_false_iff_not, eq_self, true_and, and_true]
  omega
noncomputable def sm33A : Summary := fun args T => sm33Ac args T (xsAt T 0) (xsAt T 1) (gAt T 0) (gAt T 1) (capOf (vAt args 0)) (capOf (vAt args 1)) (owAt T 0) (owAt T 1) (xsAt T 2) (xsAt T 3) (gAt T 2) (gAt T 3) (lenOf (vAt args 2)) (lenOf (vAt args 3)) (capOf (vAt args 2)) (capOf (vAt args 3)) (owAt T 2) (owAt T 3)
theorem sm33A_ok : SmOk prog (fun _ => none) 33 sm33A := fun args T h => sm33Ac_ok h
noncomputable def S33A : Summary := callR sm33A []
theorem S33A_ok : SumOk prog (fun _ => none) 33 S33A := callR_ok sm33A_ok []
noncomputable def sm33Xc (args : List AVal) (T : Tab) (zs : List Int) (ns : List Int) (gk : Nat) (gn : Nat) (cpk : Option Nat) (cpn : Option Nat) (owk : Bool) (own : Bool) (ms : List Int) (ts : List Int) (gm : Nat) (gt : Nat) (m : Nat) (n : Nat) (cm : Option Nat) (ct : Option Nat) (owm : Bool) (owt : Bool) : Res := ⟨[.tab T [some ⟨.ints .u8 zs, gk, owk, 5⟩, some ⟨.ints .u8 ns, gn, own, 5⟩, some ⟨.ints .u8 ms, gm, owm, 5⟩, some ⟨.ints .u8 ts, gt, owt, 5⟩], .val (.tuple args) (.tuple [.slice 1 0 gk 0 16 cpk, .slice 1 1 gn 0 12 cpn, .slice 1 2 gm 0 m cm, .slice 1 3 gt 0 n none]), .leN 16 zs.length, .leN 12 ns.length, .p (Bytes zs), .p (Bytes ns), .leN m ms.length, .leN m 65536, .p (Bytes ms), .leN n ts.length, .leN n 65552, .p (Bytes ts), .leN 16 n, .p (rtagLaw (subLaw zs 0 16) (subLaw ns 0 12) (subLaw ms 0 m) m (subLaw ts 0 (n - 16)) (n - 16) ≠ subLaw ts (n - 16) 16)], .tuple [.nilSlice, .int .i64 32], [some ⟨.ints .u8 zs, gk, owk, 5⟩, some ⟨.ints .u8 ns, gn, own, 5⟩, some ⟨.ints .u8 ms, gm, owm, 5⟩, some ⟨.ints .u8 ts, gt, owt, 5⟩]⟩
theorem sm33Xc_ok {args : List AVal} {T : Tab} {zs : List Int} {ns : List Int} {gk : Nat} {gn : Nat} {cpk : Option Nat} {cpn : Option Nat} {owk : Bool} {own : Bool} {ms : List Int} {ts : List Int} {gm : Nat} {gt : Nat} {m : Nat} {n : Nat} {cm : Option Nat} {ct : Option Nat} {owm : Bool} {owt : Bool} (h : allP (sm33Xc args T zs ns gk gn cpk cpn owk own ms ts gm gt m n cm ct owm owt).cs) : Small prog (fun _ => none) 33 args T (sm33Xc args T zs ns gk gn cpk cpn owk own ms ts gm gt m n cm ct owm owt).val (sm33Xc args T zs ns gk gn cpk cpn owk own ms ts gm gt m n cm ct owm owt).tab := by
  obtain ⟨hT, hv, h1, h2, h3, h4, h5, h6, h7, h8, h9, h10, h11, h12, _⟩ := h
  simp only [Con.h] at hT hv h1 h2 h3 h4 h5 h6 h7 h8 h9 h10 h11 h12
  injection hv with hv
  subst hT hv
  have b1 := sub_bytes h3 0 16
  have b2 := sub_bytes h4 0 12
  have e1 : ((n : Int) - 16).toNat = n - 16 := by omega
  have e2 : subO n (n - 16) = 16 := by rw [subO_eq]; omega
  have e3 : List.take 16 (dropO (n - 16) ts) = subLaw ts (n - 16) 16 := by rw [dropO_eq]; rfl
  refine small_ofG (R := R33X zs ns gk gn cpk cpn owk own ms ts gm gt m n cm ct owm owt) (keep := [0,1,2,3]) eGy_ok hmA (f := 33) (fn := f33) (by kernel_rfl) (by kernel_rfl) FnOrc.nil rfl (R33X_ok ?_) R33X_val R33X_tab
  have ne := gBytes_ne (rtag_bytes b1 b2 (subLaw ms 0 m) m (subLaw ts 0 (n - 16)) (n - 16)) (sub_bytes h10 (n - 16) 16) h12
  rw [e1, e2, e3, take_n (rtag_len _ _ _ _ _ _), ne]
  simp only [allP, Con.h, Bool.not_false, h1, h2, h3, h4, h5, h7, h10, decide_eq_false_iff_not, eq_self, true_and, and_true]
  omega
noncomputable def sm33X : Summary := fun args T => sm33Xc args T (xsAt T 0) (xsAt T 1) (gAt T 0) (gAt T 1) (capOf (vAt args 0)) (capOf (vAt args 1)) (owAt T 0) (owAt T 1) (xsAt T 2) (xsAt T 3) (gAt T 2) (gAt T 3) (lenOf (vAt args 2)) (lenOf (vAt args 3)) (capOf (vAt args 2)) (capOf (vAt args 3)) (owAt T 2) (owAt T 3)
theorem sm33X_ok : SmOk prog (fun _ => none) 33 sm33X := fun args T h => sm33Xc_ok h
noncomputable def S33X : Summary := callR sm33X []
theorem S33X_ok : SumOk prog (fun _ => none) 33 S33X := callR_ok sm33X_ok []
noncomputable def sm33sc (args : List AVal) (T : Tab) (zs : List Int) (ns : List Int) (gk : Nat) (gn : Nat) (cpk : Option Nat) (cpn : Option Nat) (owk : Bool) (own : Bool) (ms : List Int) (ts : List Int) (gm : Nat) (gt : Nat) (m : Nat) (n : Nat) (cm : Option Nat) (ct : Option Nat) (owm : Bool) (owt : Bool) : Res := ⟨[.tab T [some ⟨.ints .u8 zs, gk, owk, 5⟩, some ⟨.ints .u8 ns, gn, own, 5⟩, some ⟨.ints .u8 ms, gm, owm, 5⟩, some ⟨.ints .u8 ts, gt, owt, 5⟩], .val (.tuple args) (.tuple [.slice 1 0 gk 0 16 cpk, .slice 1 1 gn 0 12 cpn, .slice 1 2 gm 0 m cm, .slice 1 3 gt 0 n ct]), .leN m 65536, .p (n < 16)], .tuple [.nilSlice, .int .i64 32], [some ⟨.ints .u8 zs, gk, owk, 5⟩, some ⟨.ints .u8 ns, gn, own, 5⟩, some ⟨.ints .u8 ms, gm, owm, 5⟩, some ⟨.ints .u8 ts, gt, owt, 5⟩]⟩
theorem sm33sc_ok {args : List AVal} {T : Tab} {zs : List Int} {ns : List Int} {gk : Nat} {gn : Nat} {cpk : Option Nat} {cpn : Option Nat} {owk : Bool} {own : Bool} {ms : List Int} {ts : List Int} {gm : Nat} {gt : Nat} {m : Nat} {n : Nat} {cm : Option Nat} {ct : Option Nat} {owm : Bool} {owt : Bool} (h : allP (sm33sc args T zs ns gk gn cpk cpn owk own ms ts gm gt m n cm ct owm owt).cs) : Small prog (fun _ => none) 33 args T (sm33sc args T zs ns gk gn cpk cpn owk own ms ts gm gt m n cm ct owm owt).val (sm33sc args T zs ns gk gn cpk cpn owk own ms ts gm gt m n cm ct owm owt).tab := by
  obtain ⟨hT, hv, h1, h2, _⟩ := h
  simp only [Con.h] at hT hv h1 h2
  injection hv with hv
  subst hT hv
  refine small_ofG (R := R33s zs ns gk gn cpk cpn owk own ms ts gm gt m n cm ct owm owt) (keep := [0,1,2,3]) eGy_ok hmA (f := 33) (fn := f33) (by kernel_rfl) (by kernel_rfl) FnOrc.nil rfl (R33s_ok ?_) R33s_val R33s_tab
  simp only [allP, Con.h, decide_eq_true_eq, decide_eq_false_iff_not, eq_self, true_and, and_true]
  omega
noncomputable def sm33s : Summary := fun args T => sm33sc args T (xsAt T 0) (xsAt T 1) (gAt T 0) (gAt T 1) (capOf (vAt args 0)) (capOf (vAt args 1)) (owAt T 0) (owAt T 1) (xsAt T 2) (xsAt T 3) (gAt T 2) (gAt T 3) (lenOf (vAt args 2)) (lenOf (vAt args 3)) (capOf (vAt args 2)) (capOf (vAt args 3)) (owAt T 2) (owAt T 3)
theorem sm33s_ok : SmOk prog (fun _ => none) 33 sm33s := fun args T h => sm33sc_ok h
noncomputable def S33s : Summary := callR sm33s []
theorem S33s_ok : SumOk prog (fun _ => none) 33 S33s := callR_ok sm33s_ok []
end Go.Abs

set_option linter.unusedVariables false
set_option linter.unusedSimpArgs false
set_option maxRecDepth 8000
namespace Go.Abs
open Go.Proofs.Try
noncomputable def S30 : Summary := sumI modeO (eA []) f30 [] 100 [] []
theorem S30_ok : SumOk prog (fun _ => none) 30 S30 := sumI_ok eA0_ok hmA (fn := f30) (by kernel_rfl) (by kernel_rfl) [] FnOrc.nil 100 [] []
noncomputable def eGw : Env := eA [(28, S28), (30, S30), (32, S32C)]
theorem eGw_ok : EnvOk eGw := envOf_ok tysA_ok (SumsOk.cons (fn := f28) S28_ok (by kernel_rfl) (by kernel_rfl) (by kernel_rfl) (SumsOk.cons (fn := f30) S30_ok (by kernel_rfl) (by kernel_rfl) (by kernel_rfl) (SumsOk.cons (fn := f32) S32C_ok (by kernel_rfl) (by kernel_rfl) (by kernel_rfl) trivial)))
noncomputable def R31  : Res := resG 0 [] (runF eGw f31 [] 400 [] [] [none, some true, none, none, none, none, none, none, none, none])
theorem R31_ok  (h : allP [.p (Bytes [0, 0, 0, 0, 0, 0, 0, 0, 0, 0, 0, 0, 0, 0, 0, 0]), .p (Bytes [0, 0, 0, 0, 0, 0, 0, 0, 0, 0, 0, 0]), .p (Bytes [0, 0, 0, 0, 0, 0, 0, 0, 0, 0, 0, 0, 0, 0, 0, 0]), .p (Bytes [0, 0, 0, 0, 0, 0, 0, 0, 0, 0, 0, 0]), .p (Bytes [0, 0, 0, 0, 0, 0, 0, 0, 0, 0, 0, 0, 0, 0, 0, 0]), .p (tagLaw (subLaw [0, 0, 0, 0, 0, 0, 0, 0, 0, 0, 0, 0, 0, 0, 0, 0] 0 16) (subLaw [0, 0, 0,
 0, 0, 0, 0, 0, 0, 0, 0, 0] 0 12) [] 0 [0, 0, 0, 0, 0, 0, 0, 0, 0, 0, 0, 0, 0, 0, 0, 0] 0 ≠ subLaw [0, 0, 0, 0, 0, 0, 0, 0, 0, 0, 0, 0, 0, 0, 0, 0] 0 16), .p (true = true)]) : OkR (R31 ) := OkR.dem (fl := bitsF 59 286372715787557854) (by kernel_rfl) (by kernel_rfl) (by kernel_rfl) h
theorem R31_val  : (R31 ).val = .bool true := by kernel_rfl
theorem R31_tab  : (R31 ).tab = [] := by kernel_rfl
theorem knows_ne : tagLaw (subLaw [0, 0, 0, 0, 0, 0, 0, 0, 0, 0, 0, 0, 0, 0, 0, 0] 0 16) (subLaw [0, 0, 0, 0, 0, 0, 0, 0, 0, 0, 0, 0] 0 12) [] 0 [0, 0, 0, 0, 0, 0, 0, 0, 0, 0, 0, 0, 0, 0, 0, 0] 0 ≠ subLaw [0, 0, 0, 0, 0, 0, 0, 0, 0, 0, 0, 0, 0, 0, 0, 0] 0 16 := fun h => by
  have h1 : (tagLaw (subLaw [0, 0, 0, 0, 0, 0, 0, 0, 0, 0, 0, 0, 0, 0, 0, 0] 0 16) (subLaw [0, 0, 0, 0, 0, 0, 0, 0, 0, 0, 0, 0] 0 12) [] 0 [0, 0, 0, 0, 0, 0, 0, 0, 0, 0, 0, 0, 0, 0, 0, 0] 0).getD 0 0 = 88 := by kernel_rfl
  rw [h] at h1
  have h2 : (subLaw [0, 0, 0, 0, 0, 0, 0, 0, 0, 0, 0, 0, 0, 0, 0, 0] 0 16).getD 0 0 = 0 := rfl
  omega
noncomputable def sm31c (args : List AVal) (T : Tab) (u : Nat) : Res := ⟨[.tab T [], .val (.tuple args) (.tuple [])], .bool true, []⟩
theorem sm31c_ok {args : List AVal} {T : Tab} {u : Nat} (h : allP (sm31c args T u).cs) : Small prog (fun _ => none) 31 args T (sm31c args T u).val (sm31c args T u).tab := by
  obtain ⟨hT, hv, _⟩ := h
  simp only [Con.h] at hT hv
  injection hv with hv
  subst hT hv
  refine small_ofG (R := R31) (keep := []) eGw_ok hmA (f := 31) (fn := f31) (by kernel_rfl) (by kernel_rfl) FnOrc.nil rfl (R31_ok ?_) R31_val R31_tab
  have b1 : Bytes [0, 0, 0, 0, 0, 0, 0, 0, 0, 0, 0, 0, 0, 0, 0, 0] := Bytes.zer 16
  have b2 : Bytes [0, 0, 0, 0, 0, 0, 0, 0, 0, 0, 0, 0] := Bytes.zer 12
  simp only [allP, Con.h, b1, b2, eq_self, true_and, and_true]
  exact knows_ne
noncomputable def sm31 : Summary := fun args T => sm31c args T (0)
theorem sm31_ok : SmOk prog (fun _ => none) 31 sm31 := fun args T h => sm31c_ok h
noncomputable def S31 : Summary := callR sm31 []
theorem S31_ok : SumOk prog (fun _ => none) 31 S31 := callR_ok sm31_ok []
end Go.Abs

set_option linter.unusedVariables false
set_option linter.unusedSimpArgs false
set_option maxRecDepth 8000
namespace Go.Abs
open Go.Proofs.Try
end Go.Abs

set_option linter.unusedVariables false
set_option linter.unusedSimpArgs false
set_option maxRecDepth 8000
namespace Go.Abs
open Go.Proofs.Try
/-! ### the program's answers are the document's -/
theorem gw_eq (b : List Int) : gwLaw b = wN (nB b) := rfl
def rhN (h y : Nat) (F : List Int) : Nat → Nat
  | 0 => y
  | j + 1 => mulN (rhN h y F j ^^^ nB (subLaw F (16 * j) 16)) h
theorem rhN_lt {h y : Nat} {F : List Int} (hy : y < 2 ^ 128) (hF : Bytes F) : ∀ j, 16 * j ≤ F.length → rhN h y F j < 2 ^ 128
  | 0, _ => hy
  | j + 1, hj => by
    have hb := sub_bytes hF (16 * j) 16
    have hl : (subLaw F (16 * j) 16).length = 16 := subLaw_len (by omega)
    exact mulN_lt _ (Nat.xor_lt_two_pow (rhN_lt hy hF j (by omega)) (nB_lt16 hb hl))
theorem full_chunk {z : List Int} {n j : Nat} (hn : n ≤ z.length) (hj : 16 * j < n) : ckLaw z n j = subLaw (fullLaw (subLaw z 0 n) (padLaw n)) (16 * j) 16 := by
  have lz : (subLaw z 0 n).length = n := subLaw_len (by omega)
  have e0 : subLaw z 0 n = List.take n z := rfl
  unfold fullLaw
  rw [e0]
  rw [e0] at lz
  unfold subLaw
  rw [List.drop_append, lz]
  by_cases h : 16 * j + 16 ≤ n
  · rw [ck_full h, List.take_append_of_le_length (by rw [List.length_drop, lz]; omega), List.drop_take, List.take_take, show min 16 (n - 16 * j) = 16 by omega]; rfl
  · rw [ck_part (by omega), List.take_append, List.length_drop, lz, List.drop_take, List.take_take, show min 16 (n - 16 * j) = n - 16 * j by omega]
    congr 1
    rw [List.drop_replicate, List.take_replicate]
    congr 1
    unfold padLaw
    omega
theorem hy_rhN {h y : Nat} {z : List Int} {n : Nat} (hn : n ≤ z.length) : ∀ j, 16 * j < n + 16 → hyLaw (wN h) (wN y) z n j = wN (rhN h y (fullLaw (subLaw z 0 n) (padLaw n)) j)
  | 0, _ => rfl
  | j + 1, hj => by
    have ih := hy_rhN (h := h) (y := y) hn j (by omega)
    show mwLaw (xwLaw (hyLaw (wN h) (wN y) z n j) (gwLaw (ckLaw z n j))) (wN h) = _
    rw [ih, gw_eq, xw_wN, mw_wN, full_chunk hn (by omega)]
    rfl
theorem hs_rhN {h y : Nat} {z : List Int} {n : Nat} (hn : n ≤ z.length) : hsLaw (wN h) (wN y) z n = wN (rhN h y (fullLaw (subLaw z 0 n) (padLaw n)) ((n + 15) / 16)) := hy_rhN hn _ (by omega)
theorem rh_rhN {H x : List Int} (hx : Bytes x) : ∀ j, 16 * j ≤ x.length → rhLaw H x j = bN (rhN (nB H) 0 x j)
  | 0, _ => by kernel_rfl
  | j + 1, hj => by
    have ih := rh_rhN (H := H) hx j (by omega)
    have hb := sub_bytes hx (16 * j) 16
    have hl : (subLaw x (16 * j) 16).length = 16 := subLaw_len (by omega)
    have hlt := rhN_lt (h := nB H) (y := 0) (by decide) hx j (by omega)
    show bN (mulN (nB (plusLaw (rhLaw H x j) (subLaw x (16 * j) 16))) (nB H)) = _
    rw [ih, nB_plus (bN_bytes _) hb (bN_len _) hl, nB_bN hlt]
    rfl
theorem rhN_cat {h y : Nat} {F G : List Int} {a : Nat} (hF : F.length = 16 * a) : ∀ j, 16 * j ≤ G.length → rhN h y (F ++ G) (a + j) = rhN h (rhN h y F a) G j
  | 0, _ => by
    have : ∀ i, i ≤ a → rhN h y (F ++ G) i = rhN h y F i := by
      intro i
      induction i with
      | zero => intro _; rfl
      | succ i ih =>
        intro hi
        simp only [rhN, ih (by omega)]
        have : subLaw (F ++ G) (16 * i) 16 = subLaw F (16 * i) 16 := by
          unfold subLaw
          rw [List.drop_append_of_le_length (by omega), List.take_append_of_le_length (by rw [List.length_drop]; omega)]
        rw [this]
    exact this a (Nat.le_refl a)
  | j + 1, hj => by
    have ih := rhN_cat (h := h) (y := y) (F := F) (G := G) hF j (by omega)
    show mulN (rhN h y (F ++ G) (a + j) ^^^ nB (subLaw (F ++ G) (16 * (a + j)) 16)) h = mulN (rhN h (rhN h y F a) G j ^^^ nB (subLaw G (16 * j) 16)) h
    rw [ih]
    have : subLaw (F ++ G) (16 * (a + j)) 16 = subLaw G (16 * j) 16 := by
      unfold subLaw
      rw [List.drop_append, List.drop_of_length_le (by omega), List.nil_append, hF, show 16 * (a + j) - 16 * a = 16 * j by omega]
    rw [this]
theorem zero_w : ([0, 0] : List Int) = wN 0 := by kernel_rfl
theorem fullp_len {z : List Int} {n : Nat} (hn : n ≤ z.length) : (fullLaw (subLaw z 0 n) (padLaw n)).length = 16 * ((n + 15) / 16) := by
  rw [full_len, subLaw_len (by omega)]
  unfold padLaw; omega
end Go.Abs

set_option linter.unusedVariables false
set_option linter.unusedSimpArgs false
set_option maxRecDepth 8000
namespace Go.Abs
open Go.Proofs.Try
end Go.Abs

set_option linter.unusedVariables false
set_option linter.unusedSimpArgs false
set_option maxRecDepth 8000
namespace Go.Abs
open Go.Proofs.Try
theorem lent_bytes {zs : List Int} (hz : Bytes zs) (n : Nat) : Bytes (subLaw zs 0 n ++ [201, 202]) := (sub_bytes hz 0 n).append (fun i hi => by
  match i, hi with
  | 0, _ => exact ⟨by decide, by decide⟩
  | 1, _ => exact ⟨by decide, by decide⟩
  | i + 2, hi => simp at hi; omega)
end Go.Abs
