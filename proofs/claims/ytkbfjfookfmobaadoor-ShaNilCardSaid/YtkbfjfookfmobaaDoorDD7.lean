/- What functions of the given program come to, by the abstract machine: one text of a proof. -/
import Derived.Test.YtkbfjfookfmobaaDoorDD6
set_option linter.unusedVariables false
set_option linter.unusedSimpArgs false
set_option maxRecDepth 8000
set_option maxHeartbeats 4000000
namespace Go.Abs
open Go.Proofs Go.Proofs.Tryd
/-! ### the sums of both -/
/-! width 32 -/
theorem bys32_eq (xs : List Int) : bysLaw 4 (stl32Law (fillLaw 64 xs) [1779033703, 3144134277, 1013904242, 2773480762, 1359893119, 2600822924, 528734635, 1541459225]) 8 = sum32Law xs := rfl
noncomputable def sm36_32c (args : List AVal) (T : Tab) (zs : List Int) (g4 : Nat) (off : Nat) (n : Nat) (cp : Option Nat) : Res := ⟨[.tab T [some ⟨.ints .i64 [7, 18, 3], 0, false, 3⟩, some ⟨.ints .i64 [17, 19, 10], 0, false, 3⟩, some ⟨.ints .i64 [2, 13, 22], 0, false, 3⟩, some ⟨.ints .i64 [6, 11, 25], 0, false, 3⟩, some ⟨.ints .u8 zs, g4, false, 5⟩], .val (.tuple args) (.tuple [.agg [.int .i64 32, .int .i64 64, .int .i64 64, .slice 1 0 0 0 3 (some 3), .slice 1 1 0 0 3 (some 3), .slice 1 2 0 0 3 (some 3), .slice 1 3 0 0 3 (some 3)], .slice 1 4 g4 off n cp]), .leN (off + n) zs.length, .leN n 140737488355000, .p (BsLaw zs)], .slice 1 5 32 0 32 none, [some ⟨.ints .i64 [7, 18, 3], 0, false, 3⟩, some ⟨.ints .i64 [17, 19, 10], 0, false, 3⟩, some ⟨.ints .i64 [2, 13, 22], 0, false, 3⟩, some ⟨.ints .i64 [6, 11, 25], 0, false, 3⟩, some ⟨.ints .u8 zs, g4, false, 5⟩, some ⟨.ints .u8 (sum32Law (subLaw zs off n)), 32, true, 5⟩]⟩
theorem sm36_32c_ok {args : List AVal} {T : Tab} {zs : List Int} {g4 : Nat} {off : Nat} {n : Nat} {cp : Option Nat} (h : allP (sm36_32c args T zs g4 off n cp).cs) : Small prog glS 36 args T (sm36_32c args T zs g4 off n cp).val (sm36_32c args T zs g4 off n cp).tab := by
  obtain ⟨hT, hv, h1, h2, h3, _⟩ := h
  simp only [Con.h] at hT hv h1 h2 h3
  injection hv with hv
  subst hT hv
  refine small_ofG (R := R36_32 zs g4 off n cp) (keep := [0, 1, 2, 3, 4, 9]) eW32_ok hmS (f := 36) (fn := f36) (by kernel_rfl) (by kernel_rfl) orc36_32_ok rfl (R36_32_ok ?_) R36_32_val (by rw [R36_32_tab, bys32_eq]; rfl)
  have hl := subLaw_len h1
  have hf := fill_len 64 (subLaw zs off n)
  rw [hl] at hf
  have hq := pad64_le (n + 1)
  have hmod := fill64_mod (subLaw zs off n)
  have hb : BsLaw (fillLaw 64 (subLaw zs off n)) := fill_bs (h3.sub off n)
  have hws : WdsLaw 32 [1779033703, 3144134277, 1013904242, 2773480762, 1359893119, 2600822924, 528734635, 1541459225] := .cons ⟨by decide, by decide⟩ (.cons ⟨by decide, by decide⟩ (.cons ⟨by decide, by decide⟩ (.cons ⟨by decide, by decide⟩ (.cons ⟨by decide, by decide⟩ (.cons ⟨by decide, by decide⟩ (.cons ⟨by decide, by decide⟩ (.cons ⟨by decide, by decide⟩ (.nil 32))))))))
  have hc : isCubesLaw cubesLaw := rfl
  have hst : (stl32Law (fillLaw 64 (subLaw zs off n)) [1779033703, 3144134277, 1013904242, 2773480762, 1359893119, 2600822924, 528734635, 1541459225]).length = 8 := stsLaw32_len rfl _
  unfold cubesLaw at hc
  simp only [allP, Con.h, hb, hws, hc, hst, hmod, eq_self, true_and, and_true]
  omega
noncomputable def sm36_32 : Summary := fun args T => sm36_32c args T (xsAt T 4) (gAt T 4) (offOf (vAt args 1)) (lenOf (vAt args 1)) (capOf (vAt args 1))
theorem sm36_32_ok : SmOk prog glS 36 sm36_32 := fun args T h => sm36_32c_ok h
noncomputable def S36_32 : Summary := callR sm36_32 []
theorem S36_32_ok : SumOk prog glS 36 S36_32 := callR_ok sm36_32_ok []
noncomputable def S33c : Summary := callR sm33 []
theorem S33c_ok : SumOk prog glS 33 S33c := callR_ok sm33_ok []
noncomputable def S34 : Summary := sumI modeO (eS0 []) f34 [] 200 [] []
theorem S34_ok : SumOk prog glS 34 S34 := sumI_ok eS0_ok hmS (fn := f34) (by kernel_rfl) (by kernel_rfl) [] FnOrc.nil 200 [] []
noncomputable def S35 : Summary := sumI modeO (eS0 []) f35 [] 200 [] []
theorem S35_ok : SumOk prog glS 35 S35 := sumI_ok eS0_ok hmS (fn := f35) (by kernel_rfl) (by kernel_rfl) [] FnOrc.nil 200 [] []
noncomputable def eY32 : Env := eS0 [(34, S34), (33, S33c)]
theorem eY32_ok : EnvOk eY32 := envOf_ok tysS_ok (SumsOk.cons (fn := f34) S34_ok (by kernel_rfl) (by kernel_rfl) (by kernel_rfl) (SumsOk.cons (fn := f33) S33c_ok (by kernel_rfl) (by kernel_rfl) (by kernel_rfl) trivial))
noncomputable def eZ32 : Env := eS0 [(35, S35), (36, S36_32)]
theorem eZ32_ok : EnvOk eZ32 := envOf_ok tysS_ok (SumsOk.cons (fn := f35) S35_ok (by kernel_rfl) (by kernel_rfl) (by kernel_rfl) (SumsOk.cons (fn := f36) S36_32_ok (by kernel_rfl) (by kernel_rfl) (by kernel_rfl) trivial))
noncomputable def R13 (off n g : Nat) (zs : List Int) (cp : Option Nat) : Res := resG 1 [0, 1] (runF eY32 f13 [] 200 [.slice 1 0 g off n cp] [some ⟨.ints .u8 zs, g, false, 5⟩] [])
theorem R13_ok {off n g : Nat} {zs : List Int} {cp : Option Nat} (h : allP [.eqN g g, .p (isPl32Law [32, 64, 7, 18, 3, 17, 19, 10, 2, 13, 22, 6, 11, 25]), .eqN g g, .leN (off + n) zs.length, .p (BsLaw zs), .leN n 140737488355000, .p (capLaw n cp)]) : OkR (R13 off n g zs cp) := OkR.dem (fl := bitsF 49 4398046511103) (by kernel_rfl) (by kernel_rfl) (by kernel_rfl) h
theorem R13_val {off n g : Nat} {zs : List Int} {cp : Option Nat} : (R13 off n g zs cp).val = .slice 1 1 31 0 32 none := by kernel_rfl
theorem R13_tab {off n g : Nat} {zs : List Int} {cp : Option Nat} : (R13 off n g zs cp).tab = [some ⟨.ints .u8 zs, g, false, 5⟩, some ⟨.ints .u8 (sum32Law (subLaw zs off n)), 31, true, 5⟩] := by kernel_rfl
noncomputable def R14 (off n g : Nat) (zs : List Int) (cp : Option Nat) : Res := resG 1 [0, 6] (runF eZ32 f14 [] 200 [.slice 1 0 g off n cp] [some ⟨.ints .u8 zs, g, false, 5⟩] [])
theorem R14_ok {off n g : Nat} {zs : List Int} {cp : Option Nat} (h : allP [.eqN g g, .leN (off + n) zs.length, .leN n 140737488355000, .p (BsLaw zs)]) : OkR (R14 off n g zs cp) := OkR.dem (fl := bitsF 64 288230376151711743) (by kernel_rfl) (by kernel_rfl) (by kernel_rfl) h
theorem R14_val {off n g : Nat} {zs : List Int} {cp : Option Nat} : (R14 off n g zs cp).val = .slice 1 1 32 0 32 none := by kernel_rfl
theorem R14_tab {off n g : Nat} {zs : List Int} {cp : Option Nat} : (R14 off n g zs cp).tab = [some ⟨.ints .u8 zs, g, false, 5⟩, some ⟨.ints .u8 (sum32Law (subLaw zs off n)), 32, true, 5⟩] := by kernel_rfl
/-! width 64 -/
theorem bys64_eq (xs : List Int) : bysLaw 8 (stl64Law (fillLaw 128 xs) [7640891576956012808, 13503953896175478587, 4354685564936845355, 11912009170470909681, 5840696475078001361, 11170449401992604703, 2270897969802886507, 6620516959819538809]) 8 = sum64Law xs := rfl
noncomputable def sm36_64c (args : List AVal) (T : Tab) (zs : List Int) (g4 : Nat) (off : Nat) (n : Nat) (cp : Option Nat) : Res := ⟨[.tab T [some ⟨.ints .i64 [1, 8, 7], 0, false, 3⟩, some ⟨.ints .i64 [19, 61, 6], 0, false, 3⟩, some ⟨.ints .i64 [28, 34, 39], 0, false, 3⟩, some ⟨.ints .i64 [14, 18, 41], 0, false, 3⟩, some ⟨.ints .u8 zs, g4, false, 5⟩], .val (.tuple args) (.tuple [.agg [.int .i64 64, .int .i64 128, .int .i64 80, .slice 1 0 0 0 3 (some 3), .slice 1 1 0 0 3 (some 3), .slice 1 2 0 0 3 (some 3), .slice 1 3 0 0 3 (some 3)], .slice 1 4 g4 off n cp]), .leN (off + n) zs.length, .leN n 140737488355000, .p (BsLaw zs)], .slice 1 5 64 0 64 none, [some ⟨.ints .i64 [1, 8, 7], 0, false, 3⟩, some ⟨.ints .i64 [19, 61, 6], 0, false, 3⟩, some ⟨.ints .i64 [28, 34, 39], 0, false, 3⟩, some ⟨.ints .i64 [14, 18, 41], 0, false, 3⟩, some ⟨.ints .u8 zs, g4, false, 5⟩, some ⟨.ints .u8 (sum64Law (subLaw zs off n)), 64, true, 5⟩]⟩
theorem sm36_64c_ok {args : List AVal} {T : Tab} {zs : List Int} {g4 : Nat} {off : Nat} {n : Nat} {cp : Option Nat} (h : allP (sm36_64c args T zs g4 off n cp).cs) : Small prog glS 36 args T (sm36_64c args T zs g4 off n cp).val (sm36_64c args T zs g4 off n cp).tab := by
  obtain ⟨hT, hv, h1, h2, h3, _⟩ := h
  simp only [Con.h] at hT hv h1 h2 h3
  injection hv with hv
  subst hT hv
  refine small_ofG (R := R36_64 zs g4 off n cp) (keep := [0, 1, 2, 3, 4, 9]) eW64_ok hmS (f := 36) (fn := f36) (by kernel_rfl) (by kernel_rfl) orc36_64_ok rfl (R36_64_ok ?_) R36_64_val (by rw [R36_64_tab, bys64_eq]; rfl)
  have hl := subLaw_len h1
  have hf := fill_len 128 (subLaw zs off n)
  rw [hl] at hf
  have hq := pad128_le (n + 1)
  have hmod := fill128_mod (subLaw zs off n)
  have hb : BsLaw (fillLaw 128 (subLaw zs off n)) := fill_bs (h3.sub off n)
  have hws : WdsLaw 64 [7640891576956012808, 13503953896175478587, 4354685564936845355, 11912009170470909681, 5840696475078001361, 11170449401992604703, 2270897969802886507, 6620516959819538809] := .cons ⟨by decide, by decide⟩ (.cons ⟨by decide, by decide⟩ (.cons ⟨by decide, by decide⟩ (.cons ⟨by decide, by decide⟩ (.cons ⟨by decide, by decide⟩ (.cons ⟨by decide, by decide⟩ (.cons ⟨by decide, by decide⟩ (.cons ⟨by decide, by decide⟩ (.nil 64))))))))
  have hc : isCubesLaw cubesLaw := rfl
  have hst : (stl64Law (fillLaw 128 (subLaw zs off n)) [7640891576956012808, 13503953896175478587, 4354685564936845355, 11912009170470909681, 5840696475078001361, 11170449401992604703, 2270897969802886507, 6620516959819538809]).length = 8 := stsLaw64_len rfl _
  unfold cubesLaw at hc
  simp only [allP, Con.h, hb, hws, hc, hst, hmod, eq_self, true_and, and_true]
  omega
noncomputable def sm36_64 : Summary := fun args T => sm36_64c args T (xsAt T 4) (gAt T 4) (offOf (vAt args 1)) (lenOf (vAt args 1)) (capOf (vAt args 1))
theorem sm36_64_ok : SmOk prog glS 36 sm36_64 := fun args T h => sm36_64c_ok h
noncomputable def S36_64 : Summary := callR sm36_64 []
theorem S36_64_ok : SumOk prog glS 36 S36_64 := callR_ok sm36_64_ok []
noncomputable def S37c : Summary := callR sm37 []
theorem S37c_ok : SumOk prog glS 37 S37c := callR_ok sm37_ok []
noncomputable def S38 : Summary := sumI modeO (eS0 []) f38 [] 200 [] []
theorem S38_ok : SumOk prog glS 38 S38 := sumI_ok eS0_ok hmS (fn := f38) (by kernel_rfl) (by kernel_rfl) [] FnOrc.nil 200 [] []
noncomputable def S39 : Summary := sumI modeO (eS0 []) f39 [] 200 [] []
theorem S39_ok : SumOk prog glS 39 S39 := sumI_ok eS0_ok hmS (fn := f39) (by kernel_rfl) (by kernel_rfl) [] FnOrc.nil 200 [] []
noncomputable def eY64 : Env := eS0 [(38, S38), (37, S37c)]
theorem eY64_ok : EnvOk eY64 := envOf_ok tysS_ok (SumsOk.cons (fn := f38) S38_ok (by kernel_rfl) (by kernel_rfl) (by kernel_rfl) (SumsOk.cons (fn := f37) S37c_ok (by kernel_rfl) (by kernel_rfl) (by kernel_rfl) trivial))
noncomputable def eZ64 : Env := eS0 [(39, S39), (36, S36_64)]
theorem eZ64_ok : EnvOk eZ64 := envOf_ok tysS_ok (SumsOk.cons (fn := f39) S39_ok (by kernel_rfl) (by kernel_rfl) (by kernel_rfl) (SumsOk.cons (fn := f36) S36_64_ok (by kernel_rfl) (by kernel_rfl) (by kernel_rfl) trivial))
noncomputable def R17 (off n g : Nat) (zs : List Int) (cp : Option Nat) : Res := resG 1 [0, 1] (runF eY64 f17 [] 200 [.slice 1 0 g off n cp] [some ⟨.ints .u8 zs, g, false, 5⟩] [])
theorem R17_ok {off n g : Nat} {zs : List Int} {cp : Option Nat} (h : allP [.eqN g g, .p (isPl64Law [64, 80, 1, 8, 7, 19, 61, 6, 28, 34, 39, 14, 18, 41]), .eqN g g, .leN (off + n) zs.length, .p (BsLaw zs), .leN n 140737488355000, .p (capLaw n cp)]) : OkR (R17 off n g zs cp) := OkR.dem (fl := bitsF 49 4398046511103) (by kernel_rfl) (by kernel_rfl) (by kernel_rfl) h
theorem R17_val {off n g : Nat} {zs : List Int} {cp : Option Nat} : (R17 off n g zs cp).val = .slice 1 1 63 0 64 none := by kernel_rfl
theorem R17_tab {off n g : Nat} {zs : List Int} {cp : Option Nat} : (R17 off n g zs cp).tab = [some ⟨.ints .u8 zs, g, false, 5⟩, some ⟨.ints .u8 (sum64Law (subLaw zs off n)), 63, true, 5⟩] := by kernel_rfl
noncomputable def R18 (off n g : Nat) (zs : List Int) (cp : Option Nat) : Res := resG 1 [0, 6] (runF eZ64 f18 [] 200 [.slice 1 0 g off n cp] [some ⟨.ints .u8 zs, g, false, 5⟩] [])
theorem R18_ok {off n g : Nat} {zs : List Int} {cp : Option Nat} (h : allP [.eqN g g, .leN (off + n) zs.length, .leN n 140737488355000, .p (BsLaw zs)]) : OkR (R18 off n g zs cp) := OkR.dem (fl := bitsF 64 288230376151711743) (by kernel_rfl) (by kernel_rfl) (by kernel_rfl) h
theorem R18_val {off n g : Nat} {zs : List Int} {cp : Option Nat} : (R18 off n g zs cp).val = .slice 1 1 64 0 64 none := by kernel_rfl
theorem R18_tab {off n g : Nat} {zs : List Int} {cp : Option Nat} : (R18 off n g zs cp).tab = [some ⟨.ints .u8 zs, g, false, 5⟩, some ⟨.ints .u8 (sum64Law (subLaw zs off n)), 64, true, 5⟩] := by kernel_rfl
end Go.Abs
