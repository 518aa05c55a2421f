/- What functions of the given program come to, by the abstract machine: one text of a proof. -/
import Derived.Test.YtkbfjfookfmobaaDoorDD7
set_option linter.unusedVariables false
set_option linter.unusedSimpArgs false
set_option maxRecDepth 8000
set_option maxHeartbeats 4000000
namespace Go.Abs
open Go.Proofs Go.Proofs.Tryd
/-! ### the sums of both: contracts; the laws' helpers -/
theorem capLaw_none (n : Nat) : capLaw n none := fun c h => by cases h
theorem capLaw_some {n c : Nat} (h : n ≤ c) : capLaw n (some c) := fun k h2 => by injection h2 with h2; omega
noncomputable def sm13c (args : List AVal) (T : Tab) (zs : List Int) (g : Nat) (off : Nat) (n : Nat) (cp : Option Nat) : Res := ⟨[.tab T [some ⟨.ints .u8 zs, g, false, 5⟩], .val (.tuple args) (.tuple [.slice 1 0 g off n cp]), .leN (off + n) zs.length, .leN n 140737488355000, .p (BsLaw zs), .p (capLaw n cp)], .slice 1 1 31 0 32 none, [some ⟨.ints .u8 zs, g, false, 5⟩, some ⟨.ints .u8 (sum32Law (subLaw zs off n)), 31, true, 5⟩]⟩
theorem sm13c_ok {args : List AVal} {T : Tab} {zs : List Int} {g : Nat} {off : Nat} {n : Nat} {cp : Option Nat} (h : allP (sm13c args T zs g off n cp).cs) : Small prog glS 13 args T (sm13c args T zs g off n cp).val (sm13c args T zs g off n cp).tab := by
  obtain ⟨hT, hv, h1, h2, h3, h4, _⟩ := h
  simp only [Con.h] at hT hv h1 h2 h3 h4
  injection hv with hv
  subst hT hv
  refine small_ofG (R := R13 off n g zs cp) (keep := [0, 1]) eY32_ok hmS (f := 13) (fn := f13) (by kernel_rfl) (by kernel_rfl) FnOrc.nil rfl (R13_ok ?_) R13_val R13_tab
  have hp : isPl32Law [32, 64, 7, 18, 3, 17, 19, 10, 2, 13, 22, 6, 11, 25] := rfl
  simp only [allP, Con.h, hp, h1, h2, h3, h4, eq_self, true_and, and_true]
noncomputable def sm13 : Summary := fun args T => sm13c args T (xsAt T 0) (gAt T 0) (offOf (vAt args 0)) (lenOf (vAt args 0)) (capOf (vAt args 0))
theorem sm13_ok : SmOk prog glS 13 sm13 := fun args T h => sm13c_ok h
noncomputable def sm14c (args : List AVal) (T : Tab) (zs : List Int) (g : Nat) (off : Nat) (n : Nat) (cp : Option Nat) : Res := ⟨[.tab T [some ⟨.ints .u8 zs, g, false, 5⟩], .val (.tuple args) (.tuple [.slice 1 0 g off n cp]), .leN (off + n) zs.length, .leN n 140737488355000, .p (BsLaw zs)], .slice 1 1 32 0 32 none, [some ⟨.ints .u8 zs, g, false, 5⟩, some ⟨.ints .u8 (sum32Law (subLaw zs off n)), 32, true, 5⟩]⟩
theorem sm14c_ok {args : List AVal} {T : Tab} {zs : List Int} {g : Nat} {off : Nat} {n : Nat} {cp : Option Nat} (h : allP (sm14c args T zs g off n cp).cs) : Small prog glS 14 args T (sm14c args T zs g off n cp).val (sm14c args T zs g off n cp).tab := by
  obtain ⟨hT, hv, h1, h2, h3, _⟩ := h
  simp only [Con.h] at hT hv h1 h2 h3
  injection hv with hv
  subst hT hv
  refine small_ofG (R := R14 off n g zs cp) (keep := [0, 6]) eZ32_ok hmS (f := 14) (fn := f14) (by kernel_rfl) (by kernel_rfl) FnOrc.nil rfl (R14_ok ?_) R14_val R14_tab
  simp only [allP, Con.h, h1, h2, h3, eq_self, true_and, and_true]
noncomputable def sm14 : Summary := fun args T => sm14c args T (xsAt T 0) (gAt T 0) (offOf (vAt args 0)) (lenOf (vAt args 0)) (capOf (vAt args 0))
theorem sm14_ok : SmOk prog glS 14 sm14 := fun args T h => sm14c_ok h
noncomputable def S13 : Summary := callR sm13 []
theorem S13_ok : SumOk prog glS 13 S13 := callR_ok sm13_ok []
noncomputable def S14 : Summary := callR sm14 []
theorem S14_ok : SumOk prog glS 14 S14 := callR_ok sm14_ok []
noncomputable def sm17c (args : List AVal) (T : Tab) (zs : List Int) (g : Nat) (off : Nat) (n : Nat) (cp : Option Nat) : Res := ⟨[.tab T [some ⟨.ints .u8 zs, g, false, 5⟩], .val (.tuple args) (.tuple [.slice 1 0 g off n cp]), .leN (off + n) zs.length, .leN n 140737488355000, .p (BsLaw zs), .p (capLaw n cp)], .slice 1 1 63 0 64 none, [some ⟨.ints .u8 zs, g, false, 5⟩, some ⟨.ints .u8 (sum64Law (subLaw zs off n)), 63, true, 5⟩]⟩
theorem sm17c_ok {args : List AVal} {T : Tab} {zs : List Int} {g : Nat} {off : Nat} {n : Nat} {cp : Option Nat} (h : allP (sm17c args T zs g off n cp).cs) : Small prog glS 17 args T (sm17c args T zs g off n cp).val (sm17c args T zs g off n cp).tab := by
  obtain ⟨hT, hv, h1, h2, h3, h4, _⟩ := h
  simp only [Con.h] at hT hv h1 h2 h3 h4
  injection hv with hv
  subst hT hv
  refine small_ofG (R := R17 off n g zs cp) (keep := [0, 1]) eY64_ok hmS (f := 17) (fn := f17) (by kernel_rfl) (by kernel_rfl) FnOrc.nil rfl (R17_ok ?_) R17_val R17_tab
  have hp : isPl64Law [64, 80, 1, 8, 7, 19, 61, 6, 28, 34, 39, 14, 18, 41] := rfl
  simp only [allP, Con.h, hp, h1, h2, h3, h4, eq_self, true_and, and_true]
noncomputable def sm17 : Summary := fun args T => sm17c args T (xsAt T 0) (gAt T 0) (offOf (vAt args 0)) (lenOf (vAt args 0)) (capOf (vAt args 0))
theorem sm17_ok : SmOk prog glS 17 sm17 := fun args T h => sm17c_ok h
noncomputable def sm18c (args : List AVal) (T : Tab) (zs : List Int) (g : Nat) (off : Nat) (n : Nat) (cp : Option Nat) : Res := ⟨[.tab T [some ⟨.ints .u8 zs, g, false, 5⟩], .val (.tuple args) (.tuple [.slice 1 0 g off n cp]), .leN (off + n) zs.length, .leN n 140737488355000, .p (BsLaw zs)], .slice 1 1 64 0 64 none, [some ⟨.ints .u8 zs, g, false, 5⟩, some ⟨.ints .u8 (sum64Law (subLaw zs off n)), 64, true, 5⟩]⟩
theorem sm18c_ok {args : List AVal} {T : Tab} {zs : List Int} {g : Nat} {off : Nat} {n : Nat} {cp : Option Nat} (h : allP (sm18c args T zs g off n cp).cs) : Small prog glS 18 args T (sm18c args T zs g off n cp).val (sm18c args T zs g off n cp).tab := by
  obtain ⟨hT, hv, h1, h2, h3, _⟩ := h
  simp only [Con.h] at hT hv h1 h2 h3
  injection hv with hv
  subst hT hv
  refine small_ofG (R := R18 off n g zs cp) (keep := [0, 6]) eZ64_ok hmS (f := 18) (fn := f18) (by kernel_rfl) (by kernel_rfl) FnOrc.nil rfl (R18_ok ?_) R18_val R18_tab
  simp only [allP, Con.h, h1, h2, h3, eq_self, true_and, and_true]
noncomputable def sm18 : Summary := fun args T => sm18c args T (xsAt T 0) (gAt T 0) (offOf (vAt args 0)) (lenOf (vAt args 0)) (capOf (vAt args 0))
theorem sm18_ok : SmOk prog glS 18 sm18 := fun args T h => sm18c_ok h
noncomputable def S17 : Summary := callR sm17 []
theorem S17_ok : SumOk prog glS 17 S17 := callR_ok sm17_ok []
noncomputable def S18 : Summary := callR sm18 []
theorem S18_ok : SumOk prog glS 18 S18 := callR_ok sm18_ok []
noncomputable def R12 (zs : List Int) (g off n : Nat) (cp : Option Nat) (ow : Bool) : Res := runF (eS0 []) f12 [] 100 [.slice 1 0 g off n cp] [some ⟨.ints .u8 zs, g, ow, 5⟩] []
theorem R12_ok {zs : List Int} {g off n : Nat} {cp : Option Nat} {ow : Bool} (h : allP [.leN n 140737488355328, .eqN g g, .leN (off + n) zs.length, .leN (0 + n) ([] ++ List.take n (dropO off zs)).length, .leN (addO n 2) 140737488355328, .eqN g g, .leI 0 (↑n : Int), .leN 0 n, .orN n (addO n 2) (0 + n) (List.take n ([] ++ List.take n (dropO off zs)) ++ [201, 202]).length]) : OkR (R12 zs g off n cp
 ow) := OkR.dem (fl := bitsF 23 1286087) (by kernel_rfl) (by kernel_rfl) (by kernel_rfl) h
theorem R12_val {zs : List Int} {g off n : Nat} {cp : Option Nat} {ow : Bool} : (R12 zs g off n cp ow).val = .slice 1 1 2 0 n none := by kernel_rfl
theorem R12_tab {zs : List Int} {g off n : Nat} {cp : Option Nat} {ow : Bool} : (R12 zs g off n cp ow).tab = [some ⟨.ints .u8 zs, g, ow, 5⟩, some ⟨.ints .u8 (List.take n ([] ++ List.take n (dropO off zs)) ++ [201, 202]), 2, true, 5⟩, some ⟨.ints .u8 [201, 202], 0, true, 5⟩] := by kernel_rfl
noncomputable def R15 (xs zs : List Int) (g0 g1 n off : Nat) (cp : Option Nat) (o0 o1 : Bool) : Res := runF (eS0 []) f15 [] 200 [.slice 1 0 g0 0 n none, .slice 1 1 g1 off n cp] [some ⟨.ints .u8 xs, g0, o0, 5⟩, some ⟨.ints .u8 zs, g1, o1, 5⟩] [some true, some true, some true, some true, some true]
theorem R15_ok {xs zs : List Int} {g0 g1 n off : Nat} {cp : Option Nat} {o0 o1 : Bool} (h : allP [.eqN g1 g1, .rng (-9223372036854775808) ((↑n : Int) + 2) 9223372036854775807, .leI 0 ((↑n : Int) + 2), .eqN g0 g0, .leN 0 (n + 2), .orN (n + 2) n (0 + (n + 2)) xs.length, .eqN g1 g1, .leI 0 (↑n : Int), .eqN g0 g0, .leN 0 n, .orN n (n + 2) (0 + n) xs.length, .eqN g0 g0, .leN (0 + n) xs.length, .eqN g1
 g1, .leN (off + n) zs.length, .p ((List.map byteOf (List.take n xs) == List.map byteOf (List.take n (dropO off zs))) = true), .eqN g1 g1, .eqN g0 g0, .leI 0 (↑n : Int), .leI ((↑n : Int) + 1) (↑(n + 2) : Int), .eqN g0 g0, .leN (n + 1) xs.length, .p ((xs.getD n 0 == 201) = true), .eqN g1 g1, .rng (-9223372036854775808) ((↑n : Int) + 1) 9223372036854775807, .eqN g0 g0, .leI 0 ((↑n : Int) + 1), .leI
 ((↑n : Int) + 1 + 1) (↑(n + 2) : Int), .eqN g0 g0, .leN (n + 1 + 1) xs.length, .p ((xs.getD (n + 1) 0 == 202) = true)]) : OkR (R15 xs zs g0 g1 n off cp o0 o1) := OkR.dem (fl := bitsF 32 0) (by kernel_rfl) (by kernel_rfl) (by kernel_rfl) h
theorem R15_val {xs zs : List Int} {g0 g1 n off : Nat} {cp : Option Nat} {o0 o1 : Bool} : (R15 xs zs g0 g1 n off cp o0 o1).val = .bool true := by kernel_rfl
theorem R15_tab {xs zs : List Int} {g0 g1 n off : Nat} {cp : Option Nat} {o0 o1 : Bool} : (R15 xs zs g0 g1 n off cp o0 o1).tab = [some ⟨.ints .u8 xs, g0, o0, 5⟩, some ⟨.ints .u8 zs, g1, o1, 5⟩] := by kernel_rfl
noncomputable def eK0 : Env := eS0 [(13, S13), (17, S17)]
theorem eK0_ok : EnvOk eK0 := envOf_ok tysS_ok (SumsOk.cons (fn := f13) S13_ok (by kernel_rfl) (by kernel_rfl) (by kernel_rfl) (SumsOk.cons (fn := f17) S17_ok (by kernel_rfl) (by kernel_rfl) (by kernel_rfl) trivial))
noncomputable def R16  : Res := runF eK0 f16 [] 200 [] [] [some true, some true, some true, some true, some true, some true, some true]
theorem R16_ok  (h : allP [.p (BsLaw [97, 98, 99]), .p (capLaw 3 (some 3)), .p (BsLaw [97, 98, 99]), .p (capLaw 3 (some 3)), .p (true = true), .p (true = true), .p (true = true), .p (true = true)]) : OkR (R16 ) := OkR.dem (fl := bitsF 52 2234022138636287) (by kernel_rfl) (by kernel_rfl) (by kernel_rfl) h
theorem R16_val  : (R16 ).val = .bool true := by kernel_rfl
theorem R16_tab  : (R16 ).tab = [some ⟨.ints .u8 [97, 98, 99], 0, false, 5⟩, none, some ⟨.ints .u8 (sum32Law (subLaw [97, 98, 99] 0 3)), 31, true, 5⟩, some ⟨.ints .u8 [97, 98, 99], 0, false, 5⟩, none, some ⟨.ints .u8 (sum64Law (subLaw [97, 98, 99] 0 3)), 63, true, 5⟩] := by kernel_rfl
end Go.Abs
