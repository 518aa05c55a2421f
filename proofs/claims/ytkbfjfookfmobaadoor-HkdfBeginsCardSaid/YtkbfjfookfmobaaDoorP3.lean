/- What functions of the given program come to, by the abstract machine: texts of a proof. -/
import Derived.Test.YtkbfjfookfmobaaDoorP2
set_option linter.unusedVariables false
set_option linter.unusedSimpArgs false
set_option maxRecDepth 8000
set_option maxHeartbeats 4000000
namespace Go.Abs
open Go.Proofs Go.Proofs.Tryd
/-! ### Expand: contracts -/
theorem r_bound {m : Int} (h1 : 1 ≤ m) (h2 : m ≤ 8160) : m.toNat ≤ 32 * rLaw m := by unfold rLaw; omega
noncomputable def sm27spc (args : List AVal) (T : Tab) (zs : List Int) (g : Nat) (off : Nat) (n : Nat) (cp : Option Nat) (m : Int) (is : List Int) (gi : Nat) (oi : Nat) (ni : Nat) (ci : Option Nat) : Res := ⟨[.tab T [some ⟨.ints .u8 zs, g, false, 5⟩, some ⟨.ints .u8 is, gi, false, 5⟩], .val (.tuple args) (.tuple [.slice 1 0 g off n cp, .slice 1 1 gi oi ni ci, .int .i64 m]), .leN (off + n) zs.length, .leN n 140737488355000, .p (BsLaw zs), .p (capLaw n cp), .leN (oi + ni) is.length, .leN ni 140737488354000, .p (BsLaw is), .rng 1 m 8160], .tuple [.slice 1 2 (rLaw m - 1) 0 m.toNat none, .int .i64 0], [some ⟨.ints .u8 zs, g, false, 5⟩, some ⟨.ints .u8 is, gi, false, 5⟩, some ⟨.ints .u8 (outLaw (subLaw zs off n) (subLaw is oi ni) (rLaw m)), rLaw m - 1, true, 5⟩]⟩
theorem sm27spc_ok {args : List AVal} {T : Tab} {zs : List Int} {g : Nat} {off : Nat} {n : Nat} {cp : Option Nat} {m : Int} {is : List Int} {gi : Nat} {oi : Nat} {ni : Nat} {ci : Option Nat} (h : allP (sm27spc args T zs g off n cp m is gi oi ni ci).cs) : Small prog glS 27 args T (sm27spc args T zs g off n cp m is gi oi ni ci).val (sm27spc args T zs g off n cp m is gi oi ni ci).tab := by
  obtain ⟨hT, hv, h1, h2, h3, h4, h5, h6, h7, h8, _⟩ := h
  simp only [Con.h] at hT hv h1 h2 h3 h4 h5 h6 h7 h8
  injection hv with hv
  subst hT hv
  have hr := r_bound h8.1 h8.2
  have ho := out_len (subLaw zs off n) (subLaw is oi ni) (rLaw m)
  refine small_ofG (R := R27sp zs g off n cp m is gi oi ni ci) (keep := [0, 1, 7]) eX_ok hmS (f := 27) (fn := f27) (by kernel_rfl) (by kernel_rfl) orc27sp_ok rfl (R27sp_ok ?_) R27sp_val R27sp_tab
  simp only [allP, Con.h, ho, h1, h2, h3, h4, h5, h6, h7, decide_eq_false_iff_not, Nat.zero_add, Nat.zero_le, eq_self, true_and, and_true]
  omega
noncomputable def sm27sp : Summary := fun args T => sm27spc args T (xsAt T 0) (gAt T 0) (offOf (vAt args 0)) (lenOf (vAt args 0)) (capOf (vAt args 0)) (iOf (vAt args 2)) (xsAt T 1) (gAt T 1) (offOf (vAt args 1)) (lenOf (vAt args 1)) (capOf (vAt args 1))
theorem sm27sp_ok : SmOk prog glS 27 sm27sp := fun args T h => sm27spc_ok h
noncomputable def sm27szc (args : List AVal) (T : Tab) (zs : List Int) (g : Nat) (off : Nat) (n : Nat) (cp : Option Nat) (is : List Int) (gi : Nat) (oi : Nat) (ni : Nat) (ci : Option Nat) : Res := ⟨[.tab T [some ⟨.ints .u8 zs, g, false, 5⟩, some ⟨.ints .u8 is, gi, false, 5⟩], .val (.tuple args) (.tuple [.slice 1 0 g off n cp, .slice 1 1 gi oi ni ci, .int .i64 0]), .leN (off + n) zs.length, .leN n 140737488355000, .p (BsLaw zs), .p (capLaw n cp), .leN (oi + ni) is.length, .leN ni 140737488354000, .p (BsLaw is)], .tuple [.nilSlice, .int .i64 0], [some ⟨.ints .u8 zs, g, false, 5⟩, some ⟨.ints .u8 is, gi, false, 5⟩]⟩
theorem sm27szc_ok {args : List AVal} {T : Tab} {zs : List Int} {g : Nat} {off : Nat} {n : Nat} {cp : Option Nat} {is : List Int} {gi : Nat} {oi : Nat} {ni : Nat} {ci : Option Nat} (h : allP (sm27szc args T zs g off n cp is gi oi ni ci).cs) : Small prog glS 27 args T (sm27szc args T zs g off n cp is gi oi ni ci).val (sm27szc args T zs g off n cp is gi oi ni ci).tab := by
  obtain ⟨hT, hv, h1, h2, h3, h4, h5, h6, h7, _⟩ := h
  simp only [Con.h] at hT hv h1 h2 h3 h4 h5 h6 h7
  injection hv with hv
  subst hT hv
  refine small_ofG (R := R27sz zs g off n cp is gi oi ni ci) (keep := [0, 1]) eX_ok hmS (f := 27) (fn := f27) (by kernel_rfl) (by kernel_rfl) orc27sz_ok rfl (R27sz_ok ?_) R27sz_val R27sz_tab
  simp only [allP, Con.h, h1, h2, h3, h4, h5, h6, h7, eq_self, true_and, and_true]
noncomputable def sm27sz : Summary := fun args T => sm27szc args T (xsAt T 0) (gAt T 0) (offOf (vAt args 0)) (lenOf (vAt args 0)) (capOf (vAt args 0)) (xsAt T 1) (gAt T 1) (offOf (vAt args 1)) (lenOf (vAt args 1)) (capOf (vAt args 1))
theorem sm27sz_ok : SmOk prog glS 27 sm27sz := fun args T h => sm27szc_ok h
def badLaw (m : Int) : Prop := m < 0 ∨ 8160 < m
noncomputable def sm27sec (args : List AVal) (T : Tab) (zs : List Int) (g : Nat) (off : Nat) (n : Nat) (cp : Option Nat) (m : Int) (is : List Int) (gi : Nat) (oi : Nat) (ni : Nat) (ci : Option Nat) : Res := ⟨[.tab T [some ⟨.ints .u8 zs, g, false, 5⟩, some ⟨.ints .u8 is, gi, false, 5⟩], .val (.tuple args) (.tuple [.slice 1 0 g off n cp, .slice 1 1 gi oi ni ci, .int .i64 m]), .p (badLaw m)], .tuple [.nilSlice, .int .i64 6], [some ⟨.ints .u8 zs, g, false, 5⟩, some ⟨.ints .u8 is, gi, false, 5⟩]⟩
theorem sm27sec_ok {args : List AVal} {T : Tab} {zs : List Int} {g : Nat} {off : Nat} {n : Nat} {cp : Option Nat} {m : Int} {is : List Int} {gi : Nat} {oi : Nat} {ni : Nat} {ci : Option Nat} (h : allP (sm27sec args T zs g off n cp m is gi oi ni ci).cs) : Small prog glS 27 args T (sm27sec args T zs g off n cp m is gi oi ni ci).val (sm27sec args T zs g off n cp m is gi oi ni ci).tab := by
  obtain ⟨hT, hv, h1, _⟩ := h
  simp only [Con.h] at hT hv h1
  injection hv with hv
  subst hT hv
  by_cases hm : m < 0
  · refine small_ofG (R := R27sl zs g off n cp m is gi oi ni ci) (keep := [0, 1]) eX_ok hmS (f := 27) (fn := f27) (by kernel_rfl) (by kernel_rfl) FnOrc.nil rfl (R27sl_ok ?_) R27sl_val R27sl_tab
    simp only [allP, Con.h, hm, decide_true, eq_self, true_and, and_true]
  · have h8 : 8160 < m := by rcases h1 with h | h <;> omega
    refine small_ofG (R := R27sh zs g off n cp m is gi oi ni ci) (keep := [0, 1]) eX_ok hmS (f := 27) (fn := f27) (by kernel_rfl) (by kernel_rfl) FnOrc.nil rfl (R27sh_ok ?_) R27sh_val R27sh_tab
    simp only [allP, Con.h, hm, h8, decide_true, decide_false, eq_self, true_and, and_true]
noncomputable def sm27se : Summary := fun args T => sm27sec args T (xsAt T 0) (gAt T 0) (offOf (vAt args 0)) (lenOf (vAt args 0)) (capOf (vAt args 0)) (iOf (vAt args 2)) (xsAt T 1) (gAt T 1) (offOf (vAt args 1)) (lenOf (vAt args 1)) (capOf (vAt args 1))
theorem sm27se_ok : SmOk prog glS 27 sm27se := fun args T h => sm27sec_ok h
noncomputable def S27sp : Summary := callR sm27sp []
theorem S27sp_ok : SumOk prog glS 27 S27sp := callR_ok sm27sp_ok []
noncomputable def S27sz : Summary := callR sm27sz []
theorem S27sz_ok : SumOk prog glS 27 S27sz := callR_ok sm27sz_ok []
noncomputable def S27se : Summary := callR sm27se []
theorem S27se_ok : SumOk prog glS 27 S27se := callR_ok sm27se_ok []
noncomputable def sm27npc (args : List AVal) (T : Tab) (zs : List Int) (g : Nat) (off : Nat) (n : Nat) (cp : Option Nat) (m : Int) : Res := ⟨[.tab T [some ⟨.ints .u8 zs, g, false, 5⟩], .val (.tuple args) (.tuple [.slice 1 0 g off n cp, .nilSlice, .int .i64 m]), .leN (off + n) zs.length, .leN n 140737488355000, .p (BsLaw zs), .p (capLaw n cp), .rng 1 m 8160], .tuple [.slice 1 1 (rLaw m - 1) 0 m.toNat none, .int .i64 0], [some ⟨.ints .u8 zs, g, false, 5⟩, some ⟨.ints .u8 (outLaw (subLaw zs off n) [] (rLaw m)), rLaw m - 1, true, 5⟩]⟩
theorem sm27npc_ok {args : List AVal} {T : Tab} {zs : List Int} {g : Nat} {off : Nat} {n : Nat} {cp : Option Nat} {m : Int} (h : allP (sm27npc args T zs g off n cp m).cs) : Small prog glS 27 args T (sm27npc args T zs g off n cp m).val (sm27npc args T zs g off n cp m).tab := by
  obtain ⟨hT, hv, h1, h2, h3, h4, h5, _⟩ := h
  simp only [Con.h] at hT hv h1 h2 h3 h4 h5
  injection hv with hv
  subst hT hv
  have hr := r_bound h5.1 h5.2
  have ho := out_len (subLaw zs off n) [] (rLaw m)
  refine small_ofG (R := R27np zs g off n cp m) (keep := [0, 6]) eX_ok hmS (f := 27) (fn := f27) (by kernel_rfl) (by kernel_rfl) orc27np_ok rfl (R27np_ok ?_) R27np_val R27np_tab
  simp only [allP, Con.h, ho, h1, h2, h3, h4, decide_eq_false_iff_not, Nat.zero_add, Nat.zero_le, eq_self, true_and, and_true]
  omega
noncomputable def sm27np : Summary := fun args T => sm27npc args T (xsAt T 0) (gAt T 0) (offOf (vAt args 0)) (lenOf (vAt args 0)) (capOf (vAt args 0)) (iOf (vAt args 2))
theorem sm27np_ok : SmOk prog glS 27 sm27np := fun args T h => sm27npc_ok h
noncomputable def sm27nzc (args : List AVal) (T : Tab) (zs : List Int) (g : Nat) (off : Nat) (n : Nat) (cp : Option Nat) : Res := ⟨[.tab T [some ⟨.ints .u8 zs, g, false, 5⟩], .val (.tuple args) (.tuple [.slice 1 0 g off n cp, .nilSlice, .int .i64 0]), .leN (off + n) zs.length, .leN n 140737488355000, .p (BsLaw zs), .p (capLaw n cp)], .tuple [.nilSlice, .int .i64 0], [some ⟨.ints .u8 zs, g, false, 5⟩]⟩
theorem sm27nzc_ok {args : List AVal} {T : Tab} {zs : List Int} {g : Nat} {off : Nat} {n : Nat} {cp : Option Nat} (h : allP (sm27nzc args T zs g off n cp).cs) : Small prog glS 27 args T (sm27nzc args T zs g off n cp).val (sm27nzc args T zs g off n cp).tab := by
  obtain ⟨hT, hv, h1, h2, h3, h4, _⟩ := h
  simp only [Con.h] at hT hv h1 h2 h3 h4
  injection hv with hv
  subst hT hv
  refine small_ofG (R := R27nz zs g off n cp) (keep := [0]) eX_ok hmS (f := 27) (fn := f27) (by kernel_rfl) (by kernel_rfl) orc27nz_ok rfl (R27nz_ok ?_) R27nz_val R27nz_tab
  simp only [allP, Con.h, h1, h2, h3, h4, eq_self, true_and, and_true]
noncomputable def sm27nz : Summary := fun args T => sm27nzc args T (xsAt T 0) (gAt T 0) (offOf (vAt args 0)) (lenOf (vAt args 0)) (capOf (vAt args 0))
theorem sm27nz_ok : SmOk prog glS 27 sm27nz := fun args T h => sm27nzc_ok h
noncomputable def sm27nec (args : List AVal) (T : Tab) (zs : List Int) (g : Nat) (off : Nat) (n : Nat) (cp : Option Nat) (m : Int) : Res := ⟨[.tab T [some ⟨.ints .u8 zs, g, false, 5⟩], .val (.tuple args) (.tuple [.slice 1 0 g off n cp, .nilSlice, .int .i64 m]), .p (badLaw m)], .tuple [.nilSlice, .int .i64 6], [some ⟨.ints .u8 zs, g, false, 5⟩]⟩
theorem sm27nec_ok {args : List AVal} {T : Tab} {zs : List Int} {g : Nat} {off : Nat} {n : Nat} {cp : Option Nat} {m : Int} (h : allP (sm27nec args T zs g off n cp m).cs) : Small prog glS 27 args T (sm27nec args T zs g off n cp m).val (sm27nec args T zs g off n cp m).tab := by
  obtain ⟨hT, hv, h1, _⟩ := h
  simp only [Con.h] at hT hv h1
  injection hv with hv
  subst hT hv
  by_cases hm : m < 0
  · refine small_ofG (R := R27nl zs g off n cp m) (keep := [0]) eX_ok hmS (f := 27) (fn := f27) (by kernel_rfl) (by kernel_rfl) FnOrc.nil rfl (R27nl_ok ?_) R27nl_val R27nl_tab
    simp only [allP, Con.h, hm, decide_true, eq_self, true_and, and_true]
  · have h8 : 8160 < m := by rcases h1 with h | h <;> omega
    refine small_ofG (R := R27nh zs g off n cp m) (keep := [0]) eX_ok hmS (f := 27) (fn := f27) (by kernel_rfl) (by kernel_rfl) FnOrc.nil rfl (R27nh_ok ?_) R27nh_val R27nh_tab
    simp only [allP, Con.h, hm, h8, decide_true, decide_false, eq_self, true_and, and_true]
noncomputable def sm27ne : Summary := fun args T => sm27nec args T (xsAt T 0) (gAt T 0) (offOf (vAt args 0)) (lenOf (vAt args 0)) (capOf (vAt args 0)) (iOf (vAt args 2))
theorem sm27ne_ok : SmOk prog glS 27 sm27ne := fun args T h => sm27nec_ok h
noncomputable def S27np : Summary := callR sm27np []
theorem S27np_ok : SumOk prog glS 27 S27np := callR_ok sm27np_ok []
noncomputable def S27nz : Summary := callR sm27nz []
theorem S27nz_ok : SumOk prog glS 27 S27nz := callR_ok sm27nz_ok []
noncomputable def S27ne : Summary := callR sm27ne []
theorem S27ne_ok : SumOk prog glS 27 S27ne := callR_ok sm27ne_ok []
noncomputable def S43e : Summary := sumI modeO (eS0 []) f43 [] 100 [] []
theorem S43e_ok : SumOk prog glS 43 S43e := sumI_ok eS0_ok hmS (fn := f43) (by kernel_rfl) (by kernel_rfl) [] FnOrc.nil 100 [] []
noncomputable def eQ : Env := eS0 [(43, S43e)]
theorem eQ_ok : EnvOk eQ := envOf_ok tysS_ok (SumsOk.cons (fn := f43) S43e_ok (by kernel_rfl) (by kernel_rfl) (by kernel_rfl) trivial)
noncomputable def S30 : Summary := sumI modeO eQ f30 [] 100 [] []
theorem S30_ok : SumOk prog glS 30 S30 := sumI_ok eQ_ok hmS (fn := f30) (by kernel_rfl) (by kernel_rfl) [] FnOrc.nil 100 [] []
noncomputable def S29 : Summary := sumI modeO (eS0 []) f29 [] 100 [] []
theorem S29_ok : SumOk prog glS 29 S29 := sumI_ok eS0_ok hmS (fn := f29) (by kernel_rfl) (by kernel_rfl) [] FnOrc.nil 100 [] []
noncomputable def eK : Env := eS0 [(24, S24), (27, S27np), (29, S29), (30, S30)]
theorem eK_ok : EnvOk eK := envOf_ok tysS_ok (SumsOk.cons (fn := f24) S24_ok (by kernel_rfl) (by kernel_rfl) (by kernel_rfl) (SumsOk.cons (fn := f27) S27np_ok (by kernel_rfl) (by kernel_rfl) (by kernel_rfl) (SumsOk.cons (fn := f29) S29_ok (by kernel_rfl) (by kernel_rfl) (by kernel_rfl) (SumsOk.cons (fn := f30) S30_ok (by kernel_rfl) (by kernel_rfl) (by kernel_rfl) trivial))))
noncomputable def R26  : Res := runF eK f26 [] 400 [] [] [some true, some true, some true, some true, some true, some false]
theorem R26_ok  (h : allP [.p (BsLaw [107, 101, 121]), .p (capLaw 3 (some 3)), .p (BsLaw [84, 104, 101, 32, 113, 117, 105, 99, 107, 32, 98, 114, 111, 119, 110, 32, 102, 111, 120, 32, 106, 117, 109, 112, 115, 32, 111, 118, 101, 114, 32, 116, 104, 101, 32, 108, 97, 122, 121, 32, 100, 111, 103]), .p (BsLaw (hmLaw (subLaw [107, 101, 121] 0 3) (subLaw [84, 104, 101, 32, 113, 117, 105, 99, 107, 32, 98,
 114, 111, 119, 110, 32, 102, 111, 120, 32, 106, 117, 109, 112, 115, 32, 111, 118, 101, 114, 32, 116, 104, 101, 32, 108, 97, 122, 121, 32, 100, 111, 103] 0 43))), .p (capLaw 32 none), .p (true = true), .p (true = true), .p (true = true), .p (true = true), .p (true = true), .p (false = false)]) : OkR (R26 ) := OkR.dem (fl := bitsF 153 5697698738683597604664423625363587945002434559) (by kernel_rfl)
 (by kernel_rfl) (by kernel_rfl) h
theorem R26_val  : (R26 ).val = .bool true := by kernel_rfl
theorem R26_tab  : (R26 ).tab = [some ⟨.ints .u8 [107, 101, 121], 0, false, 5⟩, none, some ⟨.ints .u8 [84, 104, 101, 32, 113, 117, 105, 99, 107, 32, 98, 114, 111, 119, 110, 32, 102, 111, 120, 32, 106, 117, 109, 112, 115, 32, 111, 118, 101, 114, 32, 116, 104, 101, 32, 108, 97, 122, 121, 32, 100, 111, 103], 0, false, 5⟩, none, some ⟨.ints .u8 (hmLaw (subLaw [107, 101, 121] 0 3) (subLaw [84, 104, 101,
 32, 113, 117, 105, 99, 107, 32, 98, 114, 111, 119, 110, 32, 102, 111, 120, 32, 106, 117, 109, 112, 115, 32, 111, 118, 101, 114, 32, 116, 104, 101, 32, 108, 97, 122, 121, 32, 100, 111, 103] 0 43)), 31, true, 5⟩, some ⟨.ints .u8 (outLaw (subLaw (hmLaw (subLaw [107, 101, 121] 0 3) (subLaw [84, 104, 101, 32, 113, 117, 105, 99, 107, 32, 98, 114, 111, 119, 110, 32, 102, 111, 120, 32, 106, 117, 109, 112,
 115, 32, 111, 118, 101, 114, 32, 116, 104, 101, 32, 108, 97, 122, 121, 32, 100, 111, 103] 0 43)) 0 32) [] 2), 1, true, 5⟩] := by kernel_rfl
end Go.Abs

set_option linter.unusedVariables false
set_option linter.unusedSimpArgs false
set_option maxRecDepth 8000
set_option maxHeartbeats 4000000
namespace Go.Abs
open Go.Proofs Go.Proofs.Tryd
/-! ### the laws -/
noncomputable def sm26 : Summary := fun args T => match args, T with
  | [], [] => ⟨[], .bool true, []⟩
  | _, _ => fail
theorem sm26_ok : SmOk prog glS 26 sm26 := by
  intro args T hc
  unfold sm26 at hc ⊢
  split at hc
  · refine small_drop (small_of (R := R26) eK_ok hmS (f := 26) (fn := f26) (by kernel_rfl) (by kernel_rfl) FnOrc.nil rfl (R26_ok ?_) R26_val R26_tab)
    have hb : BsLaw [107, 101, 121] := .cons (by decide) (.cons (by decide) (.cons (by decide) .nil))
    have hq : BsLaw [84, 104, 101, 32, 113, 117, 105, 99, 107, 32, 98, 114, 111, 119, 110, 32, 102, 111, 120, 32, 106, 117, 109, 112, 115, 32, 111, 118, 101, 114, 32, 116, 104, 101, 32, 108, 97, 122, 121, 32, 100, 111, 103] := by
      repeat (first | exact BsLaw.nil | refine BsLaw.cons (by decide) ?_)
    have hc : capLaw 3 (some 3) := capLaw_some (Nat.le_refl 3)
    have hcn := capLaw_none 32
    simp only [allP, Con.h, hb, hc, hq, hcn, hm_bs, eq_self, true_and, and_true]
  · exact absurd hc nofail
noncomputable def S26 : Summary := callR sm26 []
theorem S26_ok : SumOk prog glS 26 S26 := callR_ok sm26_ok []
noncomputable def eL7 : Env := eS0 [(12, S12), (24, S24), (25, S25), (15, S15), (26, S26)]
theorem eL7_ok : EnvOk eL7 := envOf_ok tysS_ok (SumsOk.cons (fn := f12) S12_ok (by kernel_rfl) (by kernel_rfl) (by kernel_rfl) (SumsOk.cons (fn := f24) S24_ok (by kernel_rfl) (by kernel_rfl) (by kernel_rfl) (SumsOk.cons (fn := f25) S25_ok (by kernel_rfl) (by kernel_rfl) (by kernel_rfl) (SumsOk.cons (fn := f15) S15_ok (by kernel_rfl) (by kernel_rfl) (by kernel_rfl) (SumsOk.cons (fn := f26) S26_ok (by kernel_rfl) (by kernel_rfl) (by kernel_rfl) trivial)))))
noncomputable def R7 (zs : List Int) (n : Nat) (ts : List Int) (nt : Nat) : Res := runF eL7 f7 [] 400 [.slice 1 0 0 0 n (some zs.length), .slice 1 1 0 0 nt (some ts.length)] [some ⟨.ints .u8 zs, 0, false, 5⟩, some ⟨.ints .u8 ts, 0, false, 5⟩] [some true, some true, some true, some true, some true, some true, some true]
theorem R7_ok {zs : List Int} {n : Nat} {ts : List Int} {nt : Nat} (h : allP [.leN (0 + n) zs.length, .leN n 140737488355300, .leN (0 + nt) ts.length, .leN nt 140737488355300, .leN (0 + n) (subLaw zs 0 n ++ [201, 202]).length, .leN n 140737488355000, .p (BsLaw (subLaw zs 0 n ++ [201, 202])), .p (capLaw n none), .leN (0 + nt) (subLaw ts 0 nt ++ [201, 202]).length, .p (BsLaw (subLaw ts 0 nt ++ [201,
 202])), .leN (64 + nt) 140737488355000, .leN (0 + n) zs.length, .leN n 140737488355000, .p (BsLaw zs), .leN (0 + nt) ts.length, .leN (64 + nt) 140737488355000, .p (BsLaw ts), .p ((List.map byteOf (List.take 32 (hmLaw (subLaw (subLaw zs 0 n ++ [201, 202]) 0 n) (subLaw (subLaw ts 0 nt ++ [201, 202]) 0 nt))) == List.map byteOf (List.take 32 (hmLaw (subLaw zs 0 n) (subLaw ts 0 nt)))) = true), .eqN n n,
 .leN (0 + n) zs.length, .leN n 140737488355300, .p (lentLaw (subLaw zs 0 n ++ [201, 202]) (subLaw zs 0 n)), .p (true = true), .eqN nt nt, .leN (0 + nt) ts.length, .leN nt 140737488355300, .p (lentLaw (subLaw ts 0 nt ++ [201, 202]) (subLaw ts 0 nt)), .p (true = true), .p (true = true)]) : OkR (R7 zs n ts nt) := OkR.dem (fl := bitsF 72 3462564640218150945) (by kernel_rfl) (by kernel_rfl) (by
 kernel_rfl) h
theorem R7_val {zs : List Int} {n : Nat} {ts : List Int} {nt : Nat} : (R7 zs n ts nt).val = .bool true := by kernel_rfl
theorem R7_tab {zs : List Int} {n : Nat} {ts : List Int} {nt : Nat} : (R7 zs n ts nt).tab = [some ⟨.ints .u8 zs, 0, false, 5⟩, some ⟨.ints .u8 ts, 0, false, 5⟩, some ⟨.ints .u8 (subLaw zs 0 n ++ [201, 202]), 2, true, 5⟩, some ⟨.ints .u8 (subLaw ts 0 nt ++ [201, 202]), 2, true, 5⟩, some ⟨.ints .u8 (hmLaw (subLaw (subLaw zs 0 n ++ [201, 202]) 0 n) (subLaw (subLaw ts 0 nt ++ [201, 202]) 0 nt)), 31,
 true, 5⟩, some ⟨.ints .u8 (hmLaw (subLaw zs 0 n) (subLaw ts 0 nt)), 32, true, 5⟩] := by kernel_rfl
noncomputable def S32a : Summary := sumI modeO eD3 f32 [] 100 [some true] []
theorem S32a_ok : SumOk prog glS 32 S32a := sumI_ok eD3_ok hmS (fn := f32) (by kernel_rfl) (by kernel_rfl) [] FnOrc.nil 100 [some true] []
noncomputable def S32b : Summary := sumI modeO eD3 f32 [] 100 [some false] []
theorem S32b_ok : SumOk prog glS 32 S32b := sumI_ok eD3_ok hmS (fn := f32) (by kernel_rfl) (by kernel_rfl) [] FnOrc.nil 100 [some false] []
noncomputable def eL11a : Env := eS0 [(12, S12), (31, S31), (32, S32a), (15, S15), (26, S26)]
theorem eL11a_ok : EnvOk eL11a := envOf_ok tysS_ok (SumsOk.cons (fn := f12) S12_ok (by kernel_rfl) (by kernel_rfl) (by kernel_rfl) (SumsOk.cons (fn := f31) S31_ok (by kernel_rfl) (by kernel_rfl) (by kernel_rfl) (SumsOk.cons (fn := f32) S32a_ok (by kernel_rfl) (by kernel_rfl) (by kernel_rfl) (SumsOk.cons (fn := f15) S15_ok (by kernel_rfl) (by kernel_rfl) (by kernel_rfl) (SumsOk.cons (fn := f26) S26_ok (by kernel_rfl) (by kernel_rfl) (by kernel_rfl) trivial)))))
noncomputable def eL11b : Env := eS0 [(12, S12), (31, S31), (32, S32b), (15, S15), (26, S26)]
theorem eL11b_ok : EnvOk eL11b := envOf_ok tysS_ok (SumsOk.cons (fn := f12) S12_ok (by kernel_rfl) (by kernel_rfl) (by kernel_rfl) (SumsOk.cons (fn := f31) S31_ok (by kernel_rfl) (by kernel_rfl) (by kernel_rfl) (SumsOk.cons (fn := f32) S32b_ok (by kernel_rfl) (by kernel_rfl) (by kernel_rfl) (SumsOk.cons (fn := f15) S15_ok (by kernel_rfl) (by kernel_rfl) (by kernel_rfl) (SumsOk.cons (fn := f26) S26_ok (by kernel_rfl) (by kernel_rfl) (by kernel_rfl) trivial)))))
noncomputable def R11a (zs : List Int) (n : Nat) (ts : List Int) (nt : Nat) : Res := runF eL11a f11 [] 400 [.slice 1 0 0 0 n (some zs.length), .slice 1 1 0 0 nt (some ts.length)] [some ⟨.ints .u8 zs, 0, false, 5⟩, some ⟨.ints .u8 ts, 0, false, 5⟩] [some true, some true, some true, some true, some true, some true, some true]
theorem R11a_ok {zs : List Int} {n : Nat} {ts : List Int} {nt : Nat} (h : allP [.leN (0 + n) zs.length, .leN n 140737488355300, .leN (0 + nt) ts.length, .leN nt 140737488355300, .leN (0 + n) (subLaw zs 0 n ++ [201, 202]).length, .leN n 140737488355000, .p (BsLaw (subLaw zs 0 n ++ [201, 202])), .p (capLaw n none), .leN (0 + nt) (subLaw ts 0 nt ++ [201, 202]).length, .p (BsLaw (subLaw ts 0 nt ++
 [201, 202])), .leN (64 + nt) 140737488355000, .p (((↑n : Int) == 0) = true), .p (BsLaw [0, 0, 0, 0, 0, 0, 0, 0, 0, 0, 0, 0, 0, 0, 0, 0, 0, 0, 0, 0, 0, 0, 0, 0, 0, 0, 0, 0, 0, 0, 0, 0]), .leN (0 + nt) ts.length, .leN (64 + nt) 140737488355000, .p (BsLaw ts), .p ((List.map byteOf (List.take 32 (hmLaw (subLaw (subLaw zs 0 n ++ [201, 202]) 0 n) (subLaw (subLaw ts 0 nt ++ [201, 202]) 0 nt))) == List.map
 byteOf (List.take 32 (hmLaw (subLaw [0, 0, 0, 0, 0, 0, 0, 0, 0, 0, 0, 0, 0, 0, 0, 0, 0, 0, 0, 0, 0, 0, 0, 0, 0, 0, 0, 0, 0, 0, 0, 0] 0 32) (subLaw ts 0 nt)))) = true), .eqN n n, .leN (0 + n) zs.length, .leN n 140737488355300, .p (lentLaw (subLaw zs 0 n ++ [201, 202]) (subLaw zs 0 n)), .p (true = true), .eqN nt nt, .leN (0 + nt) ts.length, .leN nt 140737488355300, .p (lentLaw (subLaw ts 0 nt ++
 [201, 202]) (subLaw ts 0 nt)), .p (true = true), .p (true = true)]) : OkR (R11a zs n ts nt) := OkR.dem (fl := bitsF 80 886417407240823109665) (by kernel_rfl) (by kernel_rfl) (by kernel_rfl) h
theorem R11a_val {zs : List Int} {n : Nat} {ts : List Int} {nt : Nat} : (R11a zs n ts nt).val = .bool true := by kernel_rfl
theorem R11a_tab {zs : List Int} {n : Nat} {ts : List Int} {nt : Nat} : (R11a zs n ts nt).tab = [some ⟨.ints .u8 zs, 0, false, 5⟩, some ⟨.ints .u8 ts, 0, false, 5⟩, some ⟨.ints .u8 (subLaw zs 0 n ++ [201, 202]), 2, true, 5⟩, some ⟨.ints .u8 (subLaw ts 0 nt ++ [201, 202]), 2, true, 5⟩, some ⟨.ints .u8 (hmLaw (subLaw (subLaw zs 0 n ++ [201, 202]) 0 n) (subLaw (subLaw ts 0 nt ++ [201, 202]) 0 nt)),
 31, true, 5⟩, some ⟨.ints .u8 (hmLaw (subLaw [0, 0, 0, 0, 0, 0, 0, 0, 0, 0, 0, 0, 0, 0, 0, 0, 0, 0, 0, 0, 0, 0, 0, 0, 0, 0, 0, 0, 0, 0, 0, 0] 0 32) (subLaw ts 0 nt)), 32, true, 5⟩] := by kernel_rfl
noncomputable def R11b (zs : List Int) (n : Nat) (ts : List Int) (nt : Nat) : Res := runF eL11b f11 [] 400 [.slice 1 0 0 0 n (some zs.length), .slice 1 1 0 0 nt (some ts.length)] [some ⟨.ints .u8 zs, 0, false, 5⟩, some ⟨.ints .u8 ts, 0, false, 5⟩] [some true, some true, some true, some true, some true, some true, some true]
theorem R11b_ok {zs : List Int} {n : Nat} {ts : List Int} {nt : Nat} (h : allP [.leN (0 + n) zs.length, .leN n 140737488355300, .leN (0 + nt) ts.length, .leN nt 140737488355300, .leN (0 + n) (subLaw zs 0 n ++ [201, 202]).length, .leN n 140737488355000, .p (BsLaw (subLaw zs 0 n ++ [201, 202])), .p (capLaw n none), .leN (0 + nt) (subLaw ts 0 nt ++ [201, 202]).length, .p (BsLaw (subLaw ts 0 nt ++
 [201, 202])), .leN (64 + nt) 140737488355000, .p (((↑n : Int) == 0) = false), .leN (0 + n) zs.length, .leN n 140737488355000, .p (BsLaw zs), .leN (0 + nt) ts.length, .leN (64 + nt) 140737488355000, .p (BsLaw ts), .p ((List.map byteOf (List.take 32 (hmLaw (subLaw (subLaw zs 0 n ++ [201, 202]) 0 n) (subLaw (subLaw ts 0 nt ++ [201, 202]) 0 nt))) == List.map byteOf (List.take 32 (hmLaw (subLaw zs 0 n)
 (subLaw ts 0 nt)))) = true), .eqN n n, .leN (0 + n) zs.length, .leN n 140737488355300, .p (lentLaw (subLaw zs 0 n ++ [201, 202]) (subLaw zs 0 n)), .p (true = true), .eqN nt nt, .leN (0 + nt) ts.length, .leN nt 140737488355300, .p (lentLaw (subLaw ts 0 nt ++ [201, 202]) (subLaw ts 0 nt)), .p (true = true), .p (true = true)]) : OkR (R11b zs n ts nt) := OkR.dem (fl := bitsF 76 55401034603722962977)
 (by kernel_rfl) (by kernel_rfl) (by kernel_rfl) h
theorem R11b_val {zs : List Int} {n : Nat} {ts : List Int} {nt : Nat} : (R11b zs n ts nt).val = .bool true := by kernel_rfl
theorem R11b_tab {zs : List Int} {n : Nat} {ts : List Int} {nt : Nat} : (R11b zs n ts nt).tab = [some ⟨.ints .u8 zs, 0, false, 5⟩, some ⟨.ints .u8 ts, 0, false, 5⟩, some ⟨.ints .u8 (subLaw zs 0 n ++ [201, 202]), 2, true, 5⟩, some ⟨.ints .u8 (subLaw ts 0 nt ++ [201, 202]), 2, true, 5⟩, some ⟨.ints .u8 (hmLaw (subLaw (subLaw zs 0 n ++ [201, 202]) 0 n) (subLaw (subLaw ts 0 nt ++ [201, 202]) 0 nt)),
 31, true, 5⟩, some ⟨.ints .u8 (hmLaw (subLaw zs 0 n) (subLaw ts 0 nt)), 32, true, 5⟩] := by kernel_rfl
noncomputable def eL9 : Env := eS0 [(30, S30), (26, S26)]
theorem eL9_ok : EnvOk eL9 := envOf_ok tysS_ok (SumsOk.cons (fn := f30) S30_ok (by kernel_rfl) (by kernel_rfl) (by kernel_rfl) (SumsOk.cons (fn := f26) S26_ok (by kernel_rfl) (by kernel_rfl) (by kernel_rfl) trivial))
end Go.Abs

set_option linter.unusedVariables false
set_option linter.unusedSimpArgs false
set_option maxRecDepth 8000
set_option maxHeartbeats 4000000
namespace Go.Abs
open Go.Proofs Go.Proofs.Tryd
/-! ### the laws of hmac -/
theorem bs_of {zs : List Int} (hz : ∀ z ∈ zs, 0 ≤ z ∧ z < 256) : BsLaw zs := fun i => by
  rcases Nat.lt_or_ge i zs.length with h | h
  · rw [List.getD_eq_getElem?_getD, List.getElem?_eq_getElem h]; exact hz _ (List.getElem_mem h)
  · rw [List.getD_eq_getElem?_getD, List.getElem?_eq_none h]; exact ⟨by decide, by decide⟩
theorem bs_lent {zs : List Int} (h : BsLaw zs) (n : Nat) : BsLaw (subLaw zs 0 n ++ [201, 202]) := (h.sub 0 n).append (.cons (by decide) (.cons (by decide) .nil))
theorem lent_self (l : List Int) : lentLaw (l ++ [201, 202]) l := rfl
theorem hm_zeros (t : List Int) : hmLaw [0, 0, 0, 0, 0, 0, 0, 0, 0, 0, 0, 0, 0, 0, 0, 0, 0, 0, 0, 0, 0, 0, 0, 0, 0, 0, 0, 0, 0, 0, 0, 0] t = hmLaw [] t := by
  rw [hm_short (by decide), hm_short (by decide)]
  rfl
theorem law7 {zs ts : List Int} {n nt : Nat} (hn : n ≤ zs.length) (hz : ∀ z ∈ zs, 0 ≤ z ∧ z < 256) (hm : zs.length ≤ 140737488351232) (hn2 : nt ≤ ts.length) (hz2 : ∀ z ∈ ts, 0 ≤ z ∧ z < 256) (hm2 : ts.length ≤ 140737488351232) : Small prog glS 7 [.slice 1 0 0 0 n (some zs.length), .slice 1 1 0 0 nt (some ts.length)] [some ⟨.ints .u8 zs, 0, false, 5⟩, some ⟨.ints .u8 ts, 0, false, 5⟩] (.bool true) (R7 zs n ts nt).tab := by
  refine small_of (R := R7 zs n ts nt) eL7_ok hmS (f := 7) (fn := f7) (by kernel_rfl) (by kernel_rfl) FnOrc.nil rfl (R7_ok ?_) R7_val rfl
  have hb := bs_of hz
  have hb2 := bs_of hz2
  have l1 : (subLaw zs 0 n).length = n := subLaw_len (by omega)
  have l2 : (subLaw ts 0 nt).length = nt := subLaw_len (by omega)
  have b1 := bs_lent hb n
  have b2 := bs_lent hb2 nt
  have e1 : subLaw (subLaw zs 0 n ++ [201, 202]) 0 n = subLaw zs 0 n := sub_front l1
  have e2 : subLaw (subLaw ts 0 nt ++ [201, 202]) 0 nt = subLaw ts 0 nt := sub_front l2
  have q1 := lent_self (subLaw zs 0 n)
  have q2 := lent_self (subLaw ts 0 nt)
  have hcn := capLaw_none n
  have hct := capLaw_none nt
  simp only [allP, Con.h, e1, e2, l1, l2, hb, hb2, b1, b2, q1, q2, hcn, hct, hm_bs, beq_self_eq_true, List.length_append, List.length_cons, List.length_nil, eq_self, true_and, and_true, Nat.zero_add]
  omega
noncomputable def tab11 (zs : List Int) (n : Nat) (ts : List Int) (nt : Nat) : Tab := if n = 0 then (R11a zs n ts nt).tab else (R11b zs n ts nt).tab
theorem law11 {zs ts : List Int} {n nt : Nat} (hn : n ≤ zs.length) (hz : ∀ z ∈ zs, 0 ≤ z ∧ z < 256) (hm : zs.length ≤ 140737488351232) (hn2 : nt ≤ ts.length) (hz2 : ∀ z ∈ ts, 0 ≤ z ∧ z < 256) (hm2 : ts.length ≤ 140737488351232) : Small prog glS 11 [.slice 1 0 0 0 n (some zs.length), .slice 1 1 0 0 nt (some ts.length)] [some ⟨.ints .u8 zs, 0, false, 5⟩, some ⟨.ints .u8 ts, 0, false, 5⟩] (.bool true) (tab11 zs n ts nt) := by
  have hb := bs_of hz
  have hb2 := bs_of hz2
  have l1 : (subLaw zs 0 n).length = n := subLaw_len (by omega)
  have l2 : (subLaw ts 0 nt).length = nt := subLaw_len (by omega)
  have b1 := bs_lent hb n
  have b2 := bs_lent hb2 nt
  have e1 : subLaw (subLaw zs 0 n ++ [201, 202]) 0 n = subLaw zs 0 n := sub_front l1
  have e2 : subLaw (subLaw ts 0 nt ++ [201, 202]) 0 nt = subLaw ts 0 nt := sub_front l2
  have q1 := lent_self (subLaw zs 0 n)
  have q2 := lent_self (subLaw ts 0 nt)
  have hcn := capLaw_none n
  have hct := capLaw_none nt
  unfold tab11
  by_cases h0 : n = 0
  · rw [if_pos h0]
    refine small_of (R := R11a zs n ts nt) eL11a_ok hmS (f := 11) (fn := f11) (by kernel_rfl) (by kernel_rfl) FnOrc.nil rfl (R11a_ok ?_) R11a_val rfl
    have hk : subLaw zs 0 n = [] := List.eq_nil_of_length_eq_zero (by omega)
    have hne : (((n : Nat) : Int) == 0) = true := by rw [h0]; rfl
    have hbz : BsLaw [0, 0, 0, 0, 0, 0, 0, 0, 0, 0, 0, 0, 0, 0, 0, 0, 0, 0, 0, 0, 0, 0, 0, 0, 0, 0, 0, 0, 0, 0, 0, 0] := by
      repeat (first | exact BsLaw.nil | refine BsLaw.cons (by decide) ?_)
    have hz32 : subLaw [0, 0, 0, 0, 0, 0, 0, 0, 0, 0, 0, 0, 0, 0, 0, 0, 0, 0, 0, 0, 0, 0, 0, 0, 0, 0, 0, 0, 0, 0, 0, 0] 0 32 = [0, 0, 0, 0, 0, 0, 0, 0, 0, 0, 0, 0, 0, 0, 0, 0, 0, 0, 0, 0, 0, 0, 0, 0, 0, 0, 0, 0, 0, 0, 0, 0] := sub_all rfl
    simp only [allP, Con.h, e1, e2, l1, l2, hb, hb2, b1, b2, q1, q2, hcn, hct, hm_bs, hne, hbz, hz32, hm_zeros, List.length_append, List.length_cons, List.length_nil, eq_self, true_and, and_true, Nat.zero_add]
    rw [hk]
    simp only [beq_self_eq_true, eq_self, true_and, and_true]
    omega
  · rw [if_neg h0]
    refine small_of (R := R11b zs n ts nt) eL11b_ok hmS (f := 11) (fn := f11) (by kernel_rfl) (by kernel_rfl) FnOrc.nil rfl (R11b_ok ?_) R11b_val rfl
    have hne : (((n : Nat) : Int) == 0) = false := by simp only [beq_eq_false_iff_ne, ne_eq]; omega
    simp only [allP, Con.h, e1, e2, l1, l2, hb, hb2, b1, b2, q1, q2, hcn, hct, hm_bs, hne, beq_self_eq_true, List.length_append, List.length_cons, List.length_nil, eq_self, true_and, and_true, Nat.zero_add]
    omega
end Go.Abs

set_option linter.unusedVariables false
set_option linter.unusedSimpArgs false
set_option maxRecDepth 8000
set_option maxHeartbeats 4000000
namespace Go.Abs
open Go.Proofs Go.Proofs.Tryd
/-! ### the law of Equal -/
noncomputable def R9 (zs : List Int) (n : Nat) (ts : List Int) (nt : Nat) : Res := runF eL9 f9 [] 400 [.slice 1 0 0 0 n (some zs.length), .slice 1 1 0 0 nt (some ts.length)] [some ⟨.ints .u8 zs, 0, false, 5⟩, some ⟨.ints .u8 ts, 0, false, 5⟩] [none, none, some true, some true, some true, some true]
theorem R9_ok {zs : List Int} {n : Nat} {ts : List Int} {nt : Nat} (h : allP [.leN (0 + n) zs.length, .leN (0 + nt) ts.length, .leN (0 + n) zs.length, .leN (0 + n) zs.length, .leN (0 + nt) ts.length, .leN (0 + nt) ts.length, .p (((List.map byteOf (List.take n zs) == List.map byteOf (List.take nt ts)) == (List.map byteOf (List.take n zs) == List.map byteOf (List.take nt ts))) = true), .leN (0 + n)
 zs.length, .leN (0 + n) zs.length, .p ((List.map byteOf (List.take n zs) == List.map byteOf (List.take n zs)) = true), .p (true = true)]) : OkR (R9 zs n ts nt) := OkR.dem (fl := bitsF 34 386541758) (by kernel_rfl) (by kernel_rfl) (by kernel_rfl) h
theorem R9_val {zs : List Int} {n : Nat} {ts : List Int} {nt : Nat} : (R9 zs n ts nt).val = .bool true := by kernel_rfl
theorem R9_tab {zs : List Int} {n : Nat} {ts : List Int} {nt : Nat} : (R9 zs n ts nt).tab = [some ⟨.ints .u8 zs, 0, false, 5⟩, some ⟨.ints .u8 ts, 0, false, 5⟩] := by kernel_rfl
theorem law9 {zs ts : List Int} {n nt : Nat} (hn : n ≤ zs.length) (hz : ∀ z ∈ zs, 0 ≤ z ∧ z < 256) (hm : zs.length ≤ 140737488351232) (hn2 : nt ≤ ts.length) (hz2 : ∀ z ∈ ts, 0 ≤ z ∧ z < 256) (hm2 : ts.length ≤ 140737488351232) : Small prog glS 9 [.slice 1 0 0 0 n (some zs.length), .slice 1 1 0 0 nt (some ts.length)] [some ⟨.ints .u8 zs, 0, false, 5⟩, some ⟨.ints .u8 ts, 0, false, 5⟩] (.bool true) (R9 zs n ts nt).tab := by
  refine small_of (R := R9 zs n ts nt) eL9_ok hmS (f := 9) (fn := f9) (by kernel_rfl) (by kernel_rfl) FnOrc.nil rfl (R9_ok ?_) R9_val rfl
  simp only [allP, Con.h, beq_self_eq_true, eq_self, true_and, and_true, Nat.zero_add]
  omega
end Go.Abs

set_option linter.unusedVariables false
set_option linter.unusedSimpArgs false
set_option maxRecDepth 8000
set_option maxHeartbeats 4000000
namespace Go.Abs
open Go.Proofs Go.Proofs.Tryd
/-! ### the document's Expand -/
noncomputable def D28a (zs : List Int) (g off n : Nat) (cp : Option Nat) (is : List Int) (gi oi ni : Nat) (ci : Option Nat) (i m : Int) : Out := trimG 2 [0, 1, 5, 4] [0,1,2,8,9,10] (run eD3 40 ⟨2, []⟩ 400 (roundOf 0 f28) [(0, .slice 1 0 g off n cp), (1, .slice 1 1 gi oi ni ci), (2, .int .i64 m), (8, .nilSlice), (9, .nilSlice), (10, .int .i64 i)] [some ⟨.ints .u8 zs, g, false, 5⟩, some ⟨.ints .u8 is, gi, false, 5⟩] [some true])
theorem D28a_ok {zs : List Int} {g off n : Nat} {cp : Option Nat} {is : List Int} {gi oi ni : Nat} {ci : Option Nat} {i m : Int} (h : allP [.p (decide (0 < m) = true), .leN ni 140737488355328, .eqN gi gi, .leN (oi + ni) is.length, .leN (0 + ni) ([] ++ List.take ni (dropO oi is)).length, .leN (addO ni 1) 140737488355328, .eqN g g, .leN (off + n) zs.length, .leN n 140737488355000, .p (BsLaw zs), .leN
 (0 + addO ni 1) (List.take ni ([] ++ List.take ni (dropO oi is)) ++ [i % 256]).length, .leN (64 + addO ni 1) 140737488355000, .p (BsLaw (List.take ni ([] ++ List.take ni (dropO oi is)) ++ [i % 256])), .rng (-9223372036854775808) (i + 1) 9223372036854775807]) : Ok (D28a zs g off n cp is gi oi ni ci i m) := Ok.dem (fl := bitsF 35 16109173886) (by kernel_rfl) (by kernel_rfl) (by kernel_rfl) h
theorem D28a_ex {zs : List Int} {g off n : Nat} {cp : Option Nat} {is : List Int} {gi oi ni : Nat} {ci : Option Nat} {i m : Int} : (D28a zs g off n cp is gi oi ni ci i m).ex = .normal := by kernel_rfl
theorem D28a_fm {zs : List Int} {g off n : Nat} {cp : Option Nat} {is : List Int} {gi oi ni : Nat} {ci : Option Nat} {i m : Int} : (D28a zs g off n cp is gi oi ni ci i m).fm = [(0, .slice 1 0 g off n cp), (1, .slice 1 1 gi oi ni ci), (2, .int .i64 m), (8, .slice 1 2 0 0 32 none), (9, .slice 1 3 32 0 32 none), (10, .int .i64 (i + 1))] := by kernel_rfl
theorem D28a_tab {zs : List Int} {g off n : Nat} {cp : Option Nat} {is : List Int} {gi oi ni : Nat} {ci : Option Nat} {i m : Int} : (D28a zs g off n cp is gi oi ni ci i m).tab = [some ⟨.ints .u8 zs, g, false, 5⟩, some ⟨.ints .u8 is, gi, false, 5⟩, some ⟨.ints .u8 ([] ++ List.take 32 (hmLaw (subLaw zs off n) (subLaw (List.take ni ([] ++ List.take ni (dropO oi is)) ++ [i % 256]) 0 (addO ni 1)))), 0,
 true, 5⟩, some ⟨.ints .u8 (hmLaw (subLaw zs off n) (subLaw (List.take ni ([] ++ List.take ni (dropO oi is)) ++ [i % 256]) 0 (addO ni 1))), 32, true, 5⟩] := by kernel_rfl
noncomputable def D28b (zs : List Int) (g off n : Nat) (cp : Option Nat) (is : List Int) (gi oi ni : Nat) (ci : Option Nat) (os ts : List Int) (gs lo : Nat) (i m : Int) : Out := trimG 2 [0, 1, 2, 6] [0,1,2,8,9,10] (run eD3 40 ⟨2, []⟩ 400 (roundOf 0 f28) [(0, .slice 1 0 g off n cp), (1, .slice 1 1 gi oi ni ci), (2, .int .i64 m), (8, .slice 1 2 gs 0 lo none), (9, .slice 1 3 32 0 32 none), (10, .int .i64 i)] [some ⟨.ints .u8 zs, g, false, 5⟩, some ⟨.ints .u8 is, gi, false, 5⟩, some ⟨.ints .u8 os, gs, true, 5⟩, some ⟨.ints .u8 ts, 32, true, 5⟩] [some true])
theorem D28b_ok {zs : List Int} {g off n : Nat} {cp : Option Nat} {is : List Int} {gi oi ni : Nat} {ci : Option Nat} {os ts : List Int} {gs lo : Nat} {i m : Int} (h : allP [.eqN gs gs, .p (decide ((↑lo : Int) < m) = true), .leN 32 ts.length, .leN 32 ([] ++ List.take 32 ts).length, .leN (32 + ni) 140737488355328, .eqN gi gi, .leN (oi + ni) is.length, .leN (0 + (32 + ni)) (List.take 32 ([] ++
 List.take 32 ts) ++ List.take ni (dropO oi is)).length, .leN (addO (32 + ni) 1) 140737488355328, .eqN g g, .leN (off + n) zs.length, .leN n 140737488355000, .p (BsLaw zs), .leN (0 + addO (32 + ni) 1) (List.take (32 + ni) (List.take 32 ([] ++ List.take 32 ts) ++ List.take ni (dropO oi is)) ++ [i % 256]).length, .leN (64 + addO (32 + ni) 1) 140737488355000, .p (BsLaw (List.take (32 + ni) (List.take
 32 ([] ++ List.take 32 ts) ++ List.take ni (dropO oi is)) ++ [i % 256])), .eqN gs gs, .leN (0 + lo) os.length, .leN (addO lo 32) 140737488355328, .rng (-9223372036854775808) (i + 1) 9223372036854775807]) : Ok (D28b zs g off n cp is gi oi ni ci os ts gs lo i m) := Ok.dem (fl := bitsF 41 962121417596) (by kernel_rfl) (by kernel_rfl) (by kernel_rfl) h
theorem D28b_ex {zs : List Int} {g off n : Nat} {cp : Option Nat} {is : List Int} {gi oi ni : Nat} {ci : Option Nat} {os ts : List Int} {gs lo : Nat} {i m : Int} : (D28b zs g off n cp is gi oi ni ci os ts gs lo i m).ex = .normal := by kernel_rfl
theorem D28b_fm {zs : List Int} {g off n : Nat} {cp : Option Nat} {is : List Int} {gi oi ni : Nat} {ci : Option Nat} {os ts : List Int} {gs lo : Nat} {i m : Int} : (D28b zs g off n cp is gi oi ni ci os ts gs lo i m).fm = [(0, .slice 1 0 g off n cp), (1, .slice 1 1 gi oi ni ci), (2, .int .i64 m), (8, .slice 1 2 (gs + 1) 0 (addO lo 32) none), (9, .slice 1 3 32 0 32 none), (10, .int .i64 (i + 1))] :=
 by kernel_rfl
theorem D28b_tab {zs : List Int} {g off n : Nat} {cp : Option Nat} {is : List Int} {gi oi ni : Nat} {ci : Option Nat} {os ts : List Int} {gs lo : Nat} {i m : Int} : (D28b zs g off n cp is gi oi ni ci os ts gs lo i m).tab = [some ⟨.ints .u8 zs, g, false, 5⟩, some ⟨.ints .u8 is, gi, false, 5⟩, some ⟨.ints .u8 (List.take lo os ++ List.take 32 (hmLaw (subLaw zs off n) (subLaw (List.take (32 + ni)
 (List.take 32 ([] ++ List.take 32 ts) ++ List.take ni (dropO oi is)) ++ [i % 256]) 0 (addO (32 + ni) 1)))), gs + 1, true, 5⟩, some ⟨.ints .u8 (hmLaw (subLaw zs off n) (subLaw (List.take (32 + ni) (List.take 32 ([] ++ List.take 32 ts) ++ List.take ni (dropO oi is)) ++ [i % 256]) 0 (addO (32 + ni) 1))), 32, true, 5⟩] := by kernel_rfl
noncomputable def D28z (zs : List Int) (g off n : Nat) (cp : Option Nat) (is : List Int) (gi oi ni : Nat) (ci : Option Nat) (i : Int) : Out := trim 2 2 [2,8] (run eD3 40 ⟨2, []⟩ 400 (roundOf 0 f28) [(0, .slice 1 0 g off n cp), (1, .slice 1 1 gi oi ni ci), (2, .int .i64 0), (8, .nilSlice), (9, .nilSlice), (10, .int .i64 i)] [some ⟨.ints .u8 zs, g, false, 5⟩, some ⟨.ints .u8 is, gi, false, 5⟩] [])
theorem D28z_ok {zs : List Int} {g off n : Nat} {cp : Option Nat} {is : List Int} {gi oi ni : Nat} {ci : Option Nat} {i : Int} (h : allP []) : Ok (D28z zs g off n cp is gi oi ni ci i) := Ok.dem (fl := []) (by kernel_rfl) (by kernel_rfl) (by kernel_rfl) h
theorem D28z_ex {zs : List Int} {g off n : Nat} {cp : Option Nat} {is : List Int} {gi oi ni : Nat} {ci : Option Nat} {i : Int} : (D28z zs g off n cp is gi oi ni ci i).ex = .exit 0 := by kernel_rfl
theorem D28z_fm {zs : List Int} {g off n : Nat} {cp : Option Nat} {is : List Int} {gi oi ni : Nat} {ci : Option Nat} {i : Int} : (D28z zs g off n cp is gi oi ni ci i).fm = [(2, .int .i64 0), (8, .nilSlice)] := by kernel_rfl
theorem D28z_tab {zs : List Int} {g off n : Nat} {cp : Option Nat} {is : List Int} {gi oi ni : Nat} {ci : Option Nat} {i : Int} : (D28z zs g off n cp is gi oi ni ci i).tab = [some ⟨.ints .u8 zs, g, false, 5⟩, some ⟨.ints .u8 is, gi, false, 5⟩] := by kernel_rfl
noncomputable def D28e (zs : List Int) (g off n : Nat) (cp : Option Nat) (is : List Int) (gi oi ni : Nat) (ci : Option Nat) (os ts : List Int) (gs lo : Nat) (i m : Int) : Out := trim 4 4 [2,8] (run eD3 40 ⟨4, []⟩ 400 (roundOf 0 f28) [(0, .slice 1 0 g off n cp), (1, .slice 1 1 gi oi ni ci), (2, .int .i64 m), (8, .slice 1 2 gs 0 lo none), (9, .slice 1 3 32 0 32 none), (10, .int .i64 i)] [some ⟨.ints .u8 zs, g, false, 5⟩, some ⟨.ints .u8 is, gi, false, 5⟩, some ⟨.ints .u8 os, gs, true, 5⟩, some ⟨.ints .u8 ts, 32, true, 5⟩] [some false])
theorem D28e_ok {zs : List Int} {g off n : Nat} {cp : Option Nat} {is : List Int} {gi oi ni : Nat} {ci : Option Nat} {os ts : List Int} {gs lo : Nat} {i m : Int} (h : allP [.eqN gs gs, .p (decide ((↑lo : Int) < m) = false)]) : Ok (D28e zs g off n cp is gi oi ni ci os ts gs lo i m) := Ok.dem (fl := [false, false]) (by kernel_rfl) (by kernel_rfl) (by kernel_rfl) h
theorem D28e_ex {zs : List Int} {g off n : Nat} {cp : Option Nat} {is : List Int} {gi oi ni : Nat} {ci : Option Nat} {os ts : List Int} {gs lo : Nat} {i m : Int} : (D28e zs g off n cp is gi oi ni ci os ts gs lo i m).ex = .exit 0 := by kernel_rfl
theorem D28e_fm {zs : List Int} {g off n : Nat} {cp : Option Nat} {is : List Int} {gi oi ni : Nat} {ci : Option Nat} {os ts : List Int} {gs lo : Nat} {i m : Int} : (D28e zs g off n cp is gi oi ni ci os ts gs lo i m).fm = [(2, .int .i64 m), (8, .slice 1 2 gs 0 lo none)] := by kernel_rfl
theorem D28e_tab {zs : List Int} {g off n : Nat} {cp : Option Nat} {is : List Int} {gi oi ni : Nat} {ci : Option Nat} {os ts : List Int} {gs lo : Nat} {i m : Int} : (D28e zs g off n cp is gi oi ni ci os ts gs lo i m).tab = [some ⟨.ints .u8 zs, g, false, 5⟩, some ⟨.ints .u8 is, gi, false, 5⟩, some ⟨.ints .u8 os, gs, true, 5⟩, some ⟨.ints .u8 ts, 32, true, 5⟩] := by kernel_rfl
end Go.Abs

set_option linter.unusedVariables false
set_option linter.unusedSimpArgs false
set_option maxRecDepth 8000
set_option maxHeartbeats 4000000
namespace Go.Abs
open Go.Proofs Go.Proofs.Tryd
/-! ### the document's Expand: the loop -/
def so28 : Nat → AVal
  | 0 => .nilSlice
  | i + 1 => .slice 1 2 i 0 (32 * (i + 1)) none
def st28 : Nat → AVal
  | 0 => .nilSlice
  | _ + 1 => .slice 1 3 32 0 32 none
def FF28 (zs : List Int) (g off n : Nat) (cp : Option Nat) (is : List Int) (gi oi ni : Nat) (ci : Option Nat) (m : Int) (i : Nat) : Fm := [(0, .slice 1 0 g off n cp), (1, .slice 1 1 gi oi ni ci), (2, .int .i64 m), (8, so28 i), (9, st28 i), (10, .int .i64 ((i + 1 : Nat) : Int))]
def TD28 (zs : List Int) (g off n : Nat) (cp : Option Nat) (is : List Int) (gi oi ni : Nat) (ci : Option Nat) : Nat → Tab
  | 0 => [some ⟨.ints .u8 zs, g, false, 5⟩, some ⟨.ints .u8 is, gi, false, 5⟩]
  | i + 1 => [some ⟨.ints .u8 zs, g, false, 5⟩, some ⟨.ints .u8 is, gi, false, 5⟩, some ⟨.ints .u8 (outLaw (subLaw zs off n) (subLaw is oi ni) (i + 1)), i, true, 5⟩, some ⟨.ints .u8 (tLaw (subLaw zs off n) (subLaw is oi ni) (i + 1)), 32, true, 5⟩]
structure Ey (zs : List Int) (g off n : Nat) (cp : Option Nat) (is : List Int) (gi oi ni : Nat) (ci : Option Nat) : Prop where
  h1 : off + n ≤ zs.length
  h2 : n ≤ 140737488355000
  h3 : BsLaw zs
  j1 : oi + ni ≤ is.length
  j2 : ni ≤ 140737488354000
  j3 : BsLaw is
theorem take_hm (k t : List Int) : List.take 32 (hmLaw k t) = hmLaw k t := List.take_of_length_le (by rw [hm_len]; exact Nat.le_refl _)
theorem rd28a {zs : List Int} {g off n : Nat} {cp : Option Nat} {is : List Int} {gi oi ni : Nat} {ci : Option Nat} {m : Int} (h : Ey zs g off n cp is gi oi ni ci) (hi : 0 < 255) (hm : 32 * ((0 : Nat) : Int) < m) : To eD3 40 2 (roundOf 0 f28) (FF28 zs g off n cp is gi oi ni ci m 0) (TD28 zs g off n cp is gi oi ni ci 0) .normal (FF28 zs g off n cp is gi oi ni ci m (0 + 1)) (TD28 zs g off n cp is gi oi ni ci (0 + 1)) := by
  have hx : ((0 + 1 : Nat) : Int) % 256 = ((0 + 1 : Nat) : Int) := by omega
  have lJ : (subLaw is oi ni).length = ni := subLaw_len h.j1
  have j2 := h.j2
  have wJ : List.take ni (subLaw is oi ni) = (subLaw is oi ni) := List.take_of_length_le (by omega)
  have bX : BsLaw ((subLaw is oi ni) ++ [((0 + 1 : Nat) : Int)]) := ((h.j3.sub oi ni).append (.cons ⟨by omega, by omega⟩ .nil))
  have lX : ((subLaw is oi ni) ++ [((0 + 1 : Nat) : Int)]).length = ni + 1 := by simp only [List.length_append, List.length_cons, List.length_nil, lJ]
  have sX : subLaw ((subLaw is oi ni) ++ [((0 + 1 : Nat) : Int)]) 0 (ni + 1) = ((subLaw is oi ni) ++ [((0 + 1 : Nat) : Int)]) := sub_all lX
  
  refine To.ofG (o := D28a zs g off n cp is gi oi ni ci ((0 + 1 : Nat) : Int) m) eD3_ok hmS (Nat.le_refl 2) OrcOk.nil rfl (D28a_ok ?_) D28a_ex ?_ ?_
  · simp only [allP, Con.h, hx, addO_eq, dropO_eq, takeD, wJ, lJ, lX, bX, h.h1, h.h2, h.h3, h.j1, List.nil_append, List.length_append, List.length_cons, List.length_nil, Nat.zero_add, Nat.le_refl, decide_eq_true_eq, eq_self, true_and, and_true]
    omega
  · rw [D28a_fm]
    rfl
  · rw [D28a_tab]
    simp only [hx, addO_eq, dropO_eq, takeD, wJ, List.nil_append, sX, take_hm]
    rfl
theorem rd28b {zs : List Int} {g off n : Nat} {cp : Option Nat} {is : List Int} {gi oi ni : Nat} {ci : Option Nat} {m : Int} {i : Nat} (h : Ey zs g off n cp is gi oi ni ci) (hi : i + 1 < 255) (hm : 32 * ((i + 1 : Nat) : Int) < m) : To eD3 40 2 (roundOf 0 f28) (FF28 zs g off n cp is gi oi ni ci m (i + 1)) (TD28 zs g off n cp is gi oi ni ci (i + 1)) .normal (FF28 zs g off n cp is gi oi ni ci m (i + 1 + 1)) (TD28 zs g off n cp is gi oi ni ci (i + 1 + 1)) := by
  have hx : ((i + 1 + 1 : Nat) : Int) % 256 = ((i + 1 + 1 : Nat) : Int) := by omega
  have lJ : (subLaw is oi ni).length = ni := subLaw_len h.j1
  have j2 := h.j2
  have wJ : List.take ni (subLaw is oi ni) = (subLaw is oi ni) := List.take_of_length_le (by omega)
  have bX : BsLaw ((tLaw (subLaw zs off n) (subLaw is oi ni) (i + 1)) ++ (subLaw is oi ni) ++ [((i + 1 + 1 : Nat) : Int)]) := (((t_bs (subLaw zs off n) (subLaw is oi ni) (i + 1)).append (h.j3.sub oi ni)).append (.cons ⟨by omega, by omega⟩ .nil))
  have lX : ((tLaw (subLaw zs off n) (subLaw is oi ni) (i + 1)) ++ (subLaw is oi ni) ++ [((i + 1 + 1 : Nat) : Int)]).length = 32 + ni + 1 := by simp only [List.length_append, List.length_cons, List.length_nil, lJ, t_len]
  have sX : subLaw ((tLaw (subLaw zs off n) (subLaw is oi ni) (i + 1)) ++ (subLaw is oi ni) ++ [((i + 1 + 1 : Nat) : Int)]) 0 (32 + ni + 1) = ((tLaw (subLaw zs off n) (subLaw is oi ni) (i + 1)) ++ (subLaw is oi ni) ++ [((i + 1 + 1 : Nat) : Int)]) := sub_all lX
  have wT : List.take (32 + ni) ((tLaw (subLaw zs off n) (subLaw is oi ni) (i + 1)) ++ (subLaw is oi ni)) = (tLaw (subLaw zs off n) (subLaw is oi ni) (i + 1)) ++ (subLaw is oi ni) := List.take_of_length_le (by rw [List.length_append, t_len, lJ]; exact Nat.le_refl _)
  refine To.ofG (o := D28b zs g off n cp is gi oi ni ci (outLaw (subLaw zs off n) (subLaw is oi ni) (i + 1)) (tLaw (subLaw zs off n) (subLaw is oi ni) (i + 1)) i (32 * (i + 1)) ((i + 1 + 1 : Nat) : Int) m) eD3_ok hmS (Nat.le_refl 2) OrcOk.nil rfl (D28b_ok ?_) D28b_ex ?_ ?_
  · simp only [allP, Con.h, hx, addO_eq, dropO_eq, takeD, wJ, wT, take_t, take_out, t_len, out_len, lJ, lX, bX, h.h1, h.h2, h.h3, h.j1, List.nil_append, List.length_append, List.length_cons, List.length_nil, Nat.zero_add, Nat.le_refl, decide_eq_true_eq, eq_self, true_and, and_true]
    omega
  · rw [D28b_fm]
    simp only [addO_eq]; rfl
  · rw [D28b_tab]
    simp only [hx, addO_eq, dropO_eq, takeD, wJ, wT, take_t, take_out, List.nil_append, sX, take_hm]
    rfl
end Go.Abs

set_option linter.unusedVariables false
set_option linter.unusedSimpArgs false
set_option maxRecDepth 8000
set_option maxHeartbeats 4000000
namespace Go.Abs
open Go.Proofs Go.Proofs.Tryd
/-! ### the document's Expand: told, run -/
theorem rd28 {zs : List Int} {g off n : Nat} {cp : Option Nat} {is : List Int} {gi oi ni : Nat} {ci : Option Nat} {m : Int} (h : Ey zs g off n cp is gi oi ni ci) : ∀ (i : Nat), i < 255 → 32 * (i : Int) < m → To eD3 40 2 (roundOf 0 f28) (FF28 zs g off n cp is gi oi ni ci m i) (TD28 zs g off n cp is gi oi ni ci i) .normal (FF28 zs g off n cp is gi oi ni ci m (i + 1)) (TD28 zs g off n cp is gi oi ni ci (i + 1))
  | 0, hi, hm => rd28a h hi hm
  | i + 1, hi, hm => rd28b h hi hm
theorem loop28p {zs : List Int} {g off n : Nat} {cp : Option Nat} {is : List Int} {gi oi ni : Nat} {ci : Option Nat} {m : Int} (h : Ey zs g off n cp is gi oi ni ci) (m1 : 1 ≤ m) (m2 : m ≤ 8160) : To eD3 40 2 (.block 0 (.loop (roundOf 0 f28))) (FF28 zs g off n cp is gi oi ni ci m 0) (TD28 zs g off n cp is gi oi ni ci 0) .normal [(2, .int .i64 m), (8, .slice 1 2 (rLaw m - 1) 0 (32 * rLaw m) none)] [some ⟨.ints .u8 zs, g, false, 5⟩, some ⟨.ints .u8 is, gi, false, 5⟩, some ⟨.ints .u8 (outLaw (subLaw zs off n) (subLaw is oi ni) (rLaw m)), (rLaw m - 1), true, 5⟩, some ⟨.ints .u8 (tLaw (subLaw zs off n) (subLaw is oi ni) (rLaw m)), 32, true, 5⟩] := by
  obtain ⟨q, hq⟩ : ∃ q, rLaw m = q + 1 := ⟨rLaw m - 1, by unfold rLaw; omega⟩
  have hq2 : 32 * (q : Int) < m ∧ m ≤ 32 * ((q + 1 : Nat) : Int) := by unfold rLaw at hq; omega
  rw [hq]
  refine To.rounds (fun i => FF28 zs g off n cp is gi oi ni ci m i) (fun i => TD28 zs g off n cp is gi oi ni ci i) (q + 1) (fun i hi => rd28 h i (by omega) (by omega)) ?_
  refine To.base (by decide) (To.of (k := 4) (o := D28e zs g off n cp is gi oi ni ci (outLaw (subLaw zs off n) (subLaw is oi ni) (q + 1)) (tLaw (subLaw zs off n) (subLaw is oi ni) (q + 1)) q (32 * (q + 1)) ((q + 1 + 1 : Nat) : Int) m) eD3_ok hmS (Nat.le_refl 4) OrcOk.nil rfl (D28e_ok ?_) D28e_ex D28e_fm D28e_tab)
  simp only [allP, Con.h, decide_eq_false_iff_not, eq_self, true_and, and_true]
  omega
theorem loop28z {zs : List Int} {g off n : Nat} {cp : Option Nat} {is : List Int} {gi oi ni : Nat} {ci : Option Nat} : To eD3 40 2 (.block 0 (.loop (roundOf 0 f28))) (FF28 zs g off n cp is gi oi ni ci 0 0) (TD28 zs g off n cp is gi oi ni ci 0) .normal [(2, .int .i64 0), (8, .nilSlice)] [some ⟨.ints .u8 zs, g, false, 5⟩, some ⟨.ints .u8 is, gi, false, 5⟩] := by
  refine To.rounds (fun i => FF28 zs g off n cp is gi oi ni ci 0 0) (fun i => TD28 zs g off n cp is gi oi ni ci 0) 0 (fun i hi => absurd hi (Nat.not_lt_zero i)) ?_
  exact To.of (k := 2) (o := D28z zs g off n cp is gi oi ni ci ((0 + 1 : Nat) : Int)) eD3_ok hmS (Nat.le_refl 2) OrcOk.nil rfl (D28z_ok trivial) D28z_ex D28z_fm D28z_tab
noncomputable def g28pc (vs : List AVal) (T : Tab) (zs : List Int) (g : Nat) (off : Nat) (n : Nat) (cp : Option Nat) (is : List Int) (gi : Nat) (oi : Nat) (ni : Nat) (ci : Option Nat) (m : Int) : Out := ⟨[.tab T [some ⟨.ints .u8 zs, g, false, 5⟩, some ⟨.ints .u8 is, gi, false, 5⟩], .val (.tuple vs) (.tuple [.slice 1 0 g off n cp, .slice 1 1 gi oi ni ci, .int .i64 m, .nilSlice, .nilSlice, .int .i64 1]), .leN (off + n) zs.length, .leN n 140737488355000, .p (BsLaw zs), .leN (oi + ni) is.length, .leN ni 140737488354000, .p (BsLaw is), .rng 1 m 8160], .normal, [(2, .int .i64 m), (8, .slice 1 2 (rLaw m - 1) 0 (32 * rLaw m) none)], [some ⟨.ints .u8 zs, g, false, 5⟩, some ⟨.ints .u8 is, gi, false, 5⟩, some ⟨.ints .u8 (outLaw (subLaw zs off n) (subLaw is oi ni) (rLaw m)), (rLaw m - 1), true, 5⟩, some ⟨.ints .u8 (tLaw (subLaw zs off n) (subLaw is oi ni) (rLaw m)), 32, true, 5⟩], []⟩
theorem g28pc_ok {vs : List AVal} {T : Tab} {zs : List Int} {g : Nat} {off : Nat} {n : Nat} {cp : Option Nat} {is : List Int} {gi : Nat} {oi : Nat} {ni : Nat} {ci : Option Nat} {m : Int} (h : Ok (g28pc vs T zs g off n cp is gi oi ni ci m)) : To eD3 40 2 (.block 0 (.loop (roundOf 0 f28))) (zipF [0,1,2,8,9,10] vs) T (g28pc vs T zs g off n cp is gi oi ni ci m).ex (g28pc vs T zs g off n cp is gi oi ni ci m).fm (g28pc vs T zs g off n cp is gi oi ni ci m).tab := by
  obtain ⟨hT, hv, h1, h2, h3, h4, h5, h6, h7, _⟩ := h.h
  simp only [Con.h] at hT hv h1 h2 h3 h4 h5 h6 h7
  injection hv with hv
  subst hT hv
  exact loop28p ⟨h1, h2, h3, h4, h5, h6⟩ h7.1 h7.2
noncomputable def g28p : List AVal → Tab → Out := fun vs T => g28pc vs T (xsAt T 0) (gAt T 0) (offOf (vAt vs 0)) (lenOf (vAt vs 0)) (capOf (vAt vs 0)) (xsAt T 1) (gAt T 1) (offOf (vAt vs 1)) (lenOf (vAt vs 1)) (capOf (vAt vs 1)) (iOf (vAt vs 2))
theorem g28p_ok : BlkOk eD3 f28 0 (.loop (roundOf 0 f28)) (blkS 2 [0,1,2,8,9,10] g28p) := blkS_ok fun vs T h => g28pc_ok h
noncomputable def g28zc (vs : List AVal) (T : Tab) (zs : List Int) (g : Nat) (off : Nat) (n : Nat) (cp : Option Nat) (is : List Int) (gi : Nat) (oi : Nat) (ni : Nat) (ci : Option Nat) : Out := ⟨[.tab T [some ⟨.ints .u8 zs, g, false, 5⟩, some ⟨.ints .u8 is, gi, false, 5⟩], .val (.tuple vs) (.tuple [.slice 1 0 g off n cp, .slice 1 1 gi oi ni ci, .int .i64 0, .nilSlice, .nilSlice, .int .i64 1])], .normal, [(2, .int .i64 0), (8, .nilSlice)], [some ⟨.ints .u8 zs, g, false, 5⟩, some ⟨.ints .u8 is, gi, false, 5⟩], []⟩
theorem g28zc_ok {vs : List AVal} {T : Tab} {zs : List Int} {g : Nat} {off : Nat} {n : Nat} {cp : Option Nat} {is : List Int} {gi : Nat} {oi : Nat} {ni : Nat} {ci : Option Nat} (h : Ok (g28zc vs T zs g off n cp is gi oi ni ci)) : To eD3 40 2 (.block 0 (.loop (roundOf 0 f28))) (zipF [0,1,2,8,9,10] vs) T (g28zc vs T zs g off n cp is gi oi ni ci).ex (g28zc vs T zs g off n cp is gi oi ni ci).fm (g28zc vs T zs g off n cp is gi oi ni ci).tab := by
  obtain ⟨hT, hv, _⟩ := h.h
  simp only [Con.h] at hT hv
  injection hv with hv
  subst hT hv
  exact loop28z
noncomputable def g28z : List AVal → Tab → Out := fun vs T => g28zc vs T (xsAt T 0) (gAt T 0) (offOf (vAt vs 0)) (lenOf (vAt vs 0)) (capOf (vAt vs 0)) (xsAt T 1) (gAt T 1) (offOf (vAt vs 1)) (lenOf (vAt vs 1)) (capOf (vAt vs 1))
theorem g28z_ok : BlkOk eD3 f28 0 (.loop (roundOf 0 f28)) (blkS 2 [0,1,2,8,9,10] g28z) := blkS_ok fun vs T h => g28zc_ok h
noncomputable def orc28p : OrcL := [(0, blkS 2 [0,1,2,8,9,10] g28p)]
theorem orc28p_ok : FnOrc eD3 f28 orc28p := FnOrc.cons g28p_ok (by kernel_rfl) FnOrc.nil
noncomputable def orc28z : OrcL := [(0, blkS 2 [0,1,2,8,9,10] g28z)]
theorem orc28z_ok : FnOrc eD3 f28 orc28z := FnOrc.cons g28z_ok (by kernel_rfl) FnOrc.nil
noncomputable def R28p (zs : List Int) (g off n : Nat) (cp : Option Nat) (is : List Int) (gi oi ni : Nat) (ci : Option Nat) (m : Int) : Res := resG 2 [0, 1, 2] (runF eD3 f28 orc28p 400 [.slice 1 0 g off n cp, .slice 1 1 gi oi ni ci, .int .i64 m] [some ⟨.ints .u8 zs, g, false, 5⟩, some ⟨.ints .u8 is, gi, false, 5⟩] [some false, some false])
theorem R28p_ok {zs : List Int} {g off n : Nat} {cp : Option Nat} {is : List Int} {gi oi ni : Nat} {ci : Option Nat} {m : Int} (h : allP [.p (decide (m < 0) = false), .p (decide (8160 < m) = false), .leN (off + n) zs.length, .leN n 140737488355000, .p (BsLaw zs), .leN (oi + ni) is.length, .leN ni 140737488354000, .p (BsLaw is), .rng 1 m 8160, .leI 0 m, .eqN (rLaw m - 1) (rLaw m - 1), .leN 0
 m.toNat, .orN m.toNat (32 * rLaw m) (0 + m.toNat) (outLaw (subLaw zs off n) (subLaw is oi ni) (rLaw m)).length]) : OkR (R28p zs g off n cp is gi oi ni ci m) := OkR.dem (fl := bitsF 15 0) (by kernel_rfl) (by kernel_rfl) (by kernel_rfl) h
theorem R28p_val {zs : List Int} {g off n : Nat} {cp : Option Nat} {is : List Int} {gi oi ni : Nat} {ci : Option Nat} {m : Int} : (R28p zs g off n cp is gi oi ni ci m).val = .tuple [.slice 1 2 (rLaw m - 1) 0 m.toNat none, .int .i64 0] := by kernel_rfl
theorem R28p_tab {zs : List Int} {g off n : Nat} {cp : Option Nat} {is : List Int} {gi oi ni : Nat} {ci : Option Nat} {m : Int} : (R28p zs g off n cp is gi oi ni ci m).tab = [some ⟨.ints .u8 zs, g, false, 5⟩, some ⟨.ints .u8 is, gi, false, 5⟩, some ⟨.ints .u8 (outLaw (subLaw zs off n) (subLaw is oi ni) (rLaw m)), rLaw m - 1, true, 5⟩] := by kernel_rfl
noncomputable def R28z (zs : List Int) (g off n : Nat) (cp : Option Nat) (is : List Int) (gi oi ni : Nat) (ci : Option Nat) : Res := resG 2 [0, 1] (runF eD3 f28 orc28z 400 [.slice 1 0 g off n cp, .slice 1 1 gi oi ni ci, .int .i64 0] [some ⟨.ints .u8 zs, g, false, 5⟩, some ⟨.ints .u8 is, gi, false, 5⟩] [])
theorem R28z_ok {zs : List Int} {g off n : Nat} {cp : Option Nat} {is : List Int} {gi oi ni : Nat} {ci : Option Nat} (h : allP []) : OkR (R28z zs g off n cp is gi oi ni ci) := OkR.dem (fl := [false, false, true, true, true]) (by kernel_rfl) (by kernel_rfl) (by kernel_rfl) h
theorem R28z_val {zs : List Int} {g off n : Nat} {cp : Option Nat} {is : List Int} {gi oi ni : Nat} {ci : Option Nat} : (R28z zs g off n cp is gi oi ni ci).val = .tuple [.nilSlice, .int .i64 0] := by kernel_rfl
theorem R28z_tab {zs : List Int} {g off n : Nat} {cp : Option Nat} {is : List Int} {gi oi ni : Nat} {ci : Option Nat} : (R28z zs g off n cp is gi oi ni ci).tab = [some ⟨.ints .u8 zs, g, false, 5⟩, some ⟨.ints .u8 is, gi, false, 5⟩] := by kernel_rfl
noncomputable def R28l (zs : List Int) (g off n : Nat) (cp : Option Nat) (is : List Int) (gi oi ni : Nat) (ci : Option Nat) (m : Int) : Res := resG 2 [0, 1] (runF eD3 f28 [] 400 [.slice 1 0 g off n cp, .slice 1 1 gi oi ni ci, .int .i64 m] [some ⟨.ints .u8 zs, g, false, 5⟩, some ⟨.ints .u8 is, gi, false, 5⟩] [some true])
theorem R28l_ok {zs : List Int} {g off n : Nat} {cp : Option Nat} {is : List Int} {gi oi ni : Nat} {ci : Option Nat} {m : Int} (h : allP [.p (decide (m < 0) = true)]) : OkR (R28l zs g off n cp is gi oi ni ci m) := OkR.dem (fl := [false]) (by kernel_rfl) (by kernel_rfl) (by kernel_rfl) h
theorem R28l_val {zs : List Int} {g off n : Nat} {cp : Option Nat} {is : List Int} {gi oi ni : Nat} {ci : Option Nat} {m : Int} : (R28l zs g off n cp is gi oi ni ci m).val = .tuple [.nilSlice, .int .i64 6] := by kernel_rfl
theorem R28l_tab {zs : List Int} {g off n : Nat} {cp : Option Nat} {is : List Int} {gi oi ni : Nat} {ci : Option Nat} {m : Int} : (R28l zs g off n cp is gi oi ni ci m).tab = [some ⟨.ints .u8 zs, g, false, 5⟩, some ⟨.ints .u8 is, gi, false, 5⟩] := by kernel_rfl
noncomputable def R28h (zs : List Int) (g off n : Nat) (cp : Option Nat) (is : List Int) (gi oi ni : Nat) (ci : Option Nat) (m : Int) : Res := resG 2 [0, 1] (runF eD3 f28 [] 400 [.slice 1 0 g off n cp, .slice 1 1 gi oi ni ci, .int .i64 m] [some ⟨.ints .u8 zs, g, false, 5⟩, some ⟨.ints .u8 is, gi, false, 5⟩] [some false, some true])
theorem R28h_ok {zs : List Int} {g off n : Nat} {cp : Option Nat} {is : List Int} {gi oi ni : Nat} {ci : Option Nat} {m : Int} (h : allP [.p (decide (m < 0) = false), .p (decide (8160 < m) = true)]) : OkR (R28h zs g off n cp is gi oi ni ci m) := OkR.dem (fl := [false, false]) (by kernel_rfl) (by kernel_rfl) (by kernel_rfl) h
theorem R28h_val {zs : List Int} {g off n : Nat} {cp : Option Nat} {is : List Int} {gi oi ni : Nat} {ci : Option Nat} {m : Int} : (R28h zs g off n cp is gi oi ni ci m).val = .tuple [.nilSlice, .int .i64 6] := by kernel_rfl
theorem R28h_tab {zs : List Int} {g off n : Nat} {cp : Option Nat} {is : List Int} {gi oi ni : Nat} {ci : Option Nat} {m : Int} : (R28h zs g off n cp is gi oi ni ci m).tab = [some ⟨.ints .u8 zs, g, false, 5⟩, some ⟨.ints .u8 is, gi, false, 5⟩] := by kernel_rfl
end Go.Abs

set_option linter.unusedVariables false
set_option linter.unusedSimpArgs false
set_option maxRecDepth 8000
set_option maxHeartbeats 4000000
namespace Go.Abs
open Go.Proofs Go.Proofs.Tryd
/-! ### the document's Expand: contracts; the law -/
noncomputable def sm28pc (args : List AVal) (T : Tab) (zs : List Int) (g : Nat) (off : Nat) (n : Nat) (cp : Option Nat) (is : List Int) (gi : Nat) (oi : Nat) (ni : Nat) (ci : Option Nat) (m : Int) : Res := ⟨[.tab T [some ⟨.ints .u8 zs, g, false, 5⟩, some ⟨.ints .u8 is, gi, false, 5⟩], .val (.tuple args) (.tuple [.slice 1 0 g off n cp, .slice 1 1 gi oi ni ci, .int .i64 m]), .leN (off + n) zs.length, .leN n 140737488355000, .p (BsLaw zs), .leN (oi + ni) is.length, .leN ni 140737488354000, .p (BsLaw is), .rng 1 m 8160], .tuple [.slice 1 2 (rLaw m - 1) 0 m.toNat none, .int .i64 0], [some ⟨.ints .u8 zs, g, false, 5⟩, some ⟨.ints .u8 is, gi, false, 5⟩, some ⟨.ints .u8 (outLaw (subLaw zs off n) (subLaw is oi ni) (rLaw m)), rLaw m - 1, true, 5⟩]⟩
theorem sm28pc_ok {args : List AVal} {T : Tab} {zs : List Int} {g : Nat} {off : Nat} {n : Nat} {cp : Option Nat} {is : List Int} {gi : Nat} {oi : Nat} {ni : Nat} {ci : Option Nat} {m : Int} (h : allP (sm28pc args T zs g off n cp is gi oi ni ci m).cs) : Small prog glS 28 args T (sm28pc args T zs g off n cp is gi oi ni ci m).val (sm28pc args T zs g off n cp is gi oi ni ci m).tab := by
  obtain ⟨hT, hv, h1, h2, h3, h4, h5, h6, h7, _⟩ := h
  simp only [Con.h] at hT hv h1 h2 h3 h4 h5 h6 h7
  injection hv with hv
  subst hT hv
  have hr := r_bound h7.1 h7.2
  have ho := out_len (subLaw zs off n) (subLaw is oi ni) (rLaw m)
  refine small_ofG (R := R28p zs g off n cp is gi oi ni ci m) (keep := [0, 1, 2]) eD3_ok hmS (f := 28) (fn := f28) (by kernel_rfl) (by kernel_rfl) orc28p_ok rfl (R28p_ok ?_) R28p_val R28p_tab
  simp only [allP, Con.h, ho, h1, h2, h3, h4, h5, h6, decide_eq_false_iff_not, Nat.zero_add, Nat.zero_le, eq_self, true_and, and_true]
  omega
noncomputable def sm28p : Summary := fun args T => sm28pc args T (xsAt T 0) (gAt T 0) (offOf (vAt args 0)) (lenOf (vAt args 0)) (capOf (vAt args 0)) (xsAt T 1) (gAt T 1) (offOf (vAt args 1)) (lenOf (vAt args 1)) (capOf (vAt args 1)) (iOf (vAt args 2))
theorem sm28p_ok : SmOk prog glS 28 sm28p := fun args T h => sm28pc_ok h
noncomputable def sm28zc (args : List AVal) (T : Tab) (zs : List Int) (g : Nat) (off : Nat) (n : Nat) (cp : Option Nat) (is : List Int) (gi : Nat) (oi : Nat) (ni : Nat) (ci : Option Nat) : Res := ⟨[.tab T [some ⟨.ints .u8 zs, g, false, 5⟩, some ⟨.ints .u8 is, gi, false, 5⟩], .val (.tuple args) (.tuple [.slice 1 0 g off n cp, .slice 1 1 gi oi ni ci, .int .i64 0])], .tuple [.nilSlice, .int .i64 0], [some ⟨.ints .u8 zs, g, false, 5⟩, some ⟨.ints .u8 is, gi, false, 5⟩]⟩
theorem sm28zc_ok {args : List AVal} {T : Tab} {zs : List Int} {g : Nat} {off : Nat} {n : Nat} {cp : Option Nat} {is : List Int} {gi : Nat} {oi : Nat} {ni : Nat} {ci : Option Nat} (h : allP (sm28zc args T zs g off n cp is gi oi ni ci).cs) : Small prog glS 28 args T (sm28zc args T zs g off n cp is gi oi ni ci).val (sm28zc args T zs g off n cp is gi oi ni ci).tab := by
  obtain ⟨hT, hv, _⟩ := h
  simp only [Con.h] at hT hv
  injection hv with hv
  subst hT hv
  exact small_ofG (R := R28z zs g off n cp is gi oi ni ci) (keep := [0, 1]) eD3_ok hmS (f := 28) (fn := f28) (by kernel_rfl) (by kernel_rfl) orc28z_ok rfl (R28z_ok trivial) R28z_val R28z_tab
noncomputable def sm28z : Summary := fun args T => sm28zc args T (xsAt T 0) (gAt T 0) (offOf (vAt args 0)) (lenOf (vAt args 0)) (capOf (vAt args 0)) (xsAt T 1) (gAt T 1) (offOf (vAt args 1)) (lenOf (vAt args 1)) (capOf (vAt args 1))
theorem sm28z_ok : SmOk prog glS 28 sm28z := fun args T h => sm28zc_ok h
noncomputable def sm28ec (args : List AVal) (T : Tab) (zs : List Int) (g : Nat) (off : Nat) (n : Nat) (cp : Option Nat) (is : List Int) (gi : Nat) (oi : Nat) (ni : Nat) (ci : Option Nat) (m : Int) : Res := ⟨[.tab T [some ⟨.ints .u8 zs, g, false, 5⟩, some ⟨.ints .u8 is, gi, false, 5⟩], .val (.tuple args) (.tuple [.slice 1 0 g off n cp, .slice 1 1 gi oi ni ci, .int .i64 m]), .p (badLaw m)], .tuple [.nilSlice, .int .i64 6], [some ⟨.ints .u8 zs, g, false, 5⟩, some ⟨.ints .u8 is, gi, false, 5⟩]⟩
theorem sm28ec_ok {args : List AVal} {T : Tab} {zs : List Int} {g : Nat} {off : Nat} {n : Nat} {cp : Option Nat} {is : List Int} {gi : Nat} {oi : Nat} {ni : Nat} {ci : Option Nat} {m : Int} (h : allP (sm28ec args T zs g off n cp is gi oi ni ci m).cs) : Small prog glS 28 args T (sm28ec args T zs g off n cp is gi oi ni ci m).val (sm28ec args T zs g off n cp is gi oi ni ci m).tab := by
  obtain ⟨hT, hv, h1, _⟩ := h
  simp only [Con.h] at hT hv h1
  injection hv with hv
  subst hT hv
  by_cases hm : m < 0
  · refine small_ofG (R := R28l zs g off n cp is gi oi ni ci m) (keep := [0, 1]) eD3_ok hmS (f := 28) (fn := f28) (by kernel_rfl) (by kernel_rfl) FnOrc.nil rfl (R28l_ok ?_) R28l_val R28l_tab
    simp only [allP, Con.h, hm, decide_true, eq_self, true_and, and_true]
  · have h8 : 8160 < m := by rcases h1 with h | h <;> omega
    refine small_ofG (R := R28h zs g off n cp is gi oi ni ci m) (keep := [0, 1]) eD3_ok hmS (f := 28) (fn := f28) (by kernel_rfl) (by kernel_rfl) FnOrc.nil rfl (R28h_ok ?_) R28h_val R28h_tab
    simp only [allP, Con.h, hm, h8, decide_true, decide_false, eq_self, true_and, and_true]
noncomputable def sm28e : Summary := fun args T => sm28ec args T (xsAt T 0) (gAt T 0) (offOf (vAt args 0)) (lenOf (vAt args 0)) (capOf (vAt args 0)) (xsAt T 1) (gAt T 1) (offOf (vAt args 1)) (lenOf (vAt args 1)) (capOf (vAt args 1)) (iOf (vAt args 2))
theorem sm28e_ok : SmOk prog glS 28 sm28e := fun args T h => sm28ec_ok h
noncomputable def S28p : Summary := callR sm28p []
theorem S28p_ok : SumOk prog glS 28 S28p := callR_ok sm28p_ok []
noncomputable def eL8p : Env := eS0 [(12, S12), (27, S27sp), (28, S28p), (29, S29), (15, S15), (26, S26)]
theorem eL8p_ok : EnvOk eL8p := envOf_ok tysS_ok (SumsOk.cons (fn := f12) S12_ok (by kernel_rfl) (by kernel_rfl) (by kernel_rfl) (SumsOk.cons (fn := f27) S27sp_ok (by kernel_rfl) (by kernel_rfl) (by kernel_rfl) (SumsOk.cons (fn := f28) S28p_ok (by kernel_rfl) (by kernel_rfl) (by kernel_rfl) (SumsOk.cons (fn := f29) S29_ok (by kernel_rfl) (by kernel_rfl) (by kernel_rfl) (SumsOk.cons (fn := f15) S15_ok (by kernel_rfl) (by kernel_rfl) (by kernel_rfl) (SumsOk.cons (fn := f26) S26_ok (by kernel_rfl) (by kernel_rfl) (by kernel_rfl) trivial))))))
noncomputable def R8p (zs : List Int) (n : Nat) (ts : List Int) (nt : Nat) (m : Int) : Res := runF eL8p f8 [] 400 [.slice 1 0 0 0 n (some zs.length), .slice 1 1 0 0 nt (some ts.length), .int .i64 m] [some ⟨.ints .u8 zs, 0, false, 5⟩, some ⟨.ints .u8 ts, 0, false, 5⟩] [some true, some true, some true, some true, some true, some true, some true]
theorem R8p_ok {zs : List Int} {n : Nat} {ts : List Int} {nt : Nat} {m : Int} (h : allP [.leN (0 + n) zs.length, .leN n 140737488355300, .leN (0 + nt) ts.length, .leN nt 140737488355300, .leN (0 + n) (subLaw zs 0 n ++ [201, 202]).length, .leN n 140737488355000, .p (BsLaw (subLaw zs 0 n ++ [201, 202])), .p (capLaw n none), .leN (0 + nt) (subLaw ts 0 nt ++ [201, 202]).length, .leN nt 140737488354000,
 .p (BsLaw (subLaw ts 0 nt ++ [201, 202])), .rng 1 m 8160, .leN (0 + n) zs.length, .leN n 140737488355000, .p (BsLaw zs), .leN (0 + nt) ts.length, .leN nt 140737488354000, .p (BsLaw ts), .rng 1 m 8160, .eqN (rLaw m - 1) (rLaw m - 1), .leN (0 + m.toNat) (outLaw (subLaw (subLaw zs 0 n ++ [201, 202]) 0 n) (subLaw (subLaw ts 0 nt ++ [201, 202]) 0 nt) (rLaw m)).length, .eqN (rLaw m - 1) (rLaw m - 1),
 .leN (0 + m.toNat) (outLaw (subLaw zs 0 n) (subLaw ts 0 nt) (rLaw m)).length, .p ((List.map byteOf (List.take m.toNat (outLaw (subLaw (subLaw zs 0 n ++ [201, 202]) 0 n) (subLaw (subLaw ts 0 nt ++ [201, 202]) 0 nt) (rLaw m))) == List.map byteOf (List.take m.toNat (outLaw (subLaw zs 0 n) (subLaw ts 0 nt) (rLaw m)))) = true), .p (true = true), .eqN n n, .leN (0 + n) zs.length, .leN n 140737488355300,
 .p (lentLaw (subLaw zs 0 n ++ [201, 202]) (subLaw zs 0 n)), .p (true = true), .eqN nt nt, .leN (0 + nt) ts.length, .leN nt 140737488355300, .p (lentLaw (subLaw ts 0 nt ++ [201, 202]) (subLaw ts 0 nt)), .p (true = true), .p (true = true)]) : OkR (R8p zs n ts nt m) := OkR.dem (fl := bitsF 58 846074210159649) (by kernel_rfl) (by kernel_rfl) (by kernel_rfl) h
theorem R8p_val {zs : List Int} {n : Nat} {ts : List Int} {nt : Nat} {m : Int} : (R8p zs n ts nt m).val = .bool true := by kernel_rfl
theorem R8p_tab {zs : List Int} {n : Nat} {ts : List Int} {nt : Nat} {m : Int} : (R8p zs n ts nt m).tab = [some ⟨.ints .u8 zs, 0, false, 5⟩, some ⟨.ints .u8 ts, 0, false, 5⟩, some ⟨.ints .u8 (subLaw zs 0 n ++ [201, 202]), 2, true, 5⟩, some ⟨.ints .u8 (subLaw ts 0 nt ++ [201, 202]), 2, true, 5⟩, some ⟨.ints .u8 (outLaw (subLaw (subLaw zs 0 n ++ [201, 202]) 0 n) (subLaw (subLaw ts 0 nt ++ [201, 202])
 0 nt) (rLaw m)), rLaw m - 1, true, 5⟩, some ⟨.ints .u8 (outLaw (subLaw zs 0 n) (subLaw ts 0 nt) (rLaw m)), rLaw m - 1, true, 5⟩] := by kernel_rfl
noncomputable def S28z : Summary := callR sm28z []
theorem S28z_ok : SumOk prog glS 28 S28z := callR_ok sm28z_ok []
noncomputable def eL8z : Env := eS0 [(12, S12), (27, S27sz), (28, S28z), (29, S29), (15, S15), (26, S26)]
theorem eL8z_ok : EnvOk eL8z := envOf_ok tysS_ok (SumsOk.cons (fn := f12) S12_ok (by kernel_rfl) (by kernel_rfl) (by kernel_rfl) (SumsOk.cons (fn := f27) S27sz_ok (by kernel_rfl) (by kernel_rfl) (by kernel_rfl) (SumsOk.cons (fn := f28) S28z_ok (by kernel_rfl) (by kernel_rfl) (by kernel_rfl) (SumsOk.cons (fn := f29) S29_ok (by kernel_rfl) (by kernel_rfl) (by kernel_rfl) (SumsOk.cons (fn := f15) S15_ok (by kernel_rfl) (by kernel_rfl) (by kernel_rfl) (SumsOk.cons (fn := f26) S26_ok (by kernel_rfl) (by kernel_rfl) (by kernel_rfl) trivial))))))
noncomputable def R8z (zs : List Int) (n : Nat) (ts : List Int) (nt : Nat) : Res := runF eL8z f8 [] 400 [.slice 1 0 0 0 n (some zs.length), .slice 1 1 0 0 nt (some ts.length), .int .i64 0] [some ⟨.ints .u8 zs, 0, false, 5⟩, some ⟨.ints .u8 ts, 0, false, 5⟩] [some true, some true, some true, some true, some true, some true, some true]
theorem R8z_ok {zs : List Int} {n : Nat} {ts : List Int} {nt : Nat} (h : allP [.leN (0 + n) zs.length, .leN n 140737488355300, .leN (0 + nt) ts.length, .leN nt 140737488355300, .leN (0 + n) (subLaw zs 0 n ++ [201, 202]).length, .leN n 140737488355000, .p (BsLaw (subLaw zs 0 n ++ [201, 202])), .p (capLaw n none), .leN (0 + nt) (subLaw ts 0 nt ++ [201, 202]).length, .leN nt 140737488354000, .p (BsLaw
 (subLaw ts 0 nt ++ [201, 202])), .p (true = true), .p (true = true), .eqN n n, .leN (0 + n) zs.length, .leN n 140737488355300, .p (lentLaw (subLaw zs 0 n ++ [201, 202]) (subLaw zs 0 n)), .p (true = true), .eqN nt nt, .leN (0 + nt) ts.length, .leN nt 140737488355300, .p (lentLaw (subLaw ts 0 nt ++ [201, 202]) (subLaw ts 0 nt)), .p (true = true), .p (true = true)]) : OkR (R8z zs n ts nt) := OkR.dem
 (fl := bitsF 46 206567377953) (by kernel_rfl) (by kernel_rfl) (by kernel_rfl) h
theorem R8z_val {zs : List Int} {n : Nat} {ts : List Int} {nt : Nat} : (R8z zs n ts nt).val = .bool true := by kernel_rfl
theorem R8z_tab {zs : List Int} {n : Nat} {ts : List Int} {nt : Nat} : (R8z zs n ts nt).tab = [some ⟨.ints .u8 zs, 0, false, 5⟩, some ⟨.ints .u8 ts, 0, false, 5⟩, some ⟨.ints .u8 (subLaw zs 0 n ++ [201, 202]), 2, true, 5⟩, some ⟨.ints .u8 (subLaw ts 0 nt ++ [201, 202]), 2, true, 5⟩] := by kernel_rfl
noncomputable def S28e : Summary := callR sm28e []
theorem S28e_ok : SumOk prog glS 28 S28e := callR_ok sm28e_ok []
noncomputable def eL8e : Env := eS0 [(12, S12), (27, S27se), (28, S28e), (29, S29), (15, S15), (26, S26)]
theorem eL8e_ok : EnvOk eL8e := envOf_ok tysS_ok (SumsOk.cons (fn := f12) S12_ok (by kernel_rfl) (by kernel_rfl) (by kernel_rfl) (SumsOk.cons (fn := f27) S27se_ok (by kernel_rfl) (by kernel_rfl) (by kernel_rfl) (SumsOk.cons (fn := f28) S28e_ok (by kernel_rfl) (by kernel_rfl) (by kernel_rfl) (SumsOk.cons (fn := f29) S29_ok (by kernel_rfl) (by kernel_rfl) (by kernel_rfl) (SumsOk.cons (fn := f15) S15_ok (by kernel_rfl) (by kernel_rfl) (by kernel_rfl) (SumsOk.cons (fn := f26) S26_ok (by kernel_rfl) (by kernel_rfl) (by kernel_rfl) trivial))))))
noncomputable def R8e (zs : List Int) (n : Nat) (ts : List Int) (nt : Nat) (m : Int) : Res := runF eL8e f8 [] 400 [.slice 1 0 0 0 n (some zs.length), .slice 1 1 0 0 nt (some ts.length), .int .i64 m] [some ⟨.ints .u8 zs, 0, false, 5⟩, some ⟨.ints .u8 ts, 0, false, 5⟩] [some true, some true, some true, some true, some true, some true, some true]
theorem R8e_ok {zs : List Int} {n : Nat} {ts : List Int} {nt : Nat} {m : Int} (h : allP [.leN (0 + n) zs.length, .leN n 140737488355300, .leN (0 + nt) ts.length, .leN nt 140737488355300, .p (badLaw m), .p (badLaw m), .p (true = true), .p (true = true), .eqN n n, .leN (0 + n) zs.length, .leN n 140737488355300, .p (lentLaw (subLaw zs 0 n ++ [201, 202]) (subLaw zs 0 n)), .p (true = true), .eqN nt nt,
 .leN (0 + nt) ts.length, .leN nt 140737488355300, .p (lentLaw (subLaw ts 0 nt ++ [201, 202]) (subLaw ts 0 nt)), .p (true = true), .p (true = true)]) : OkR (R8e zs n ts nt m) := OkR.dem (fl := bitsF 41 6455135265) (by kernel_rfl) (by kernel_rfl) (by kernel_rfl) h
theorem R8e_val {zs : List Int} {n : Nat} {ts : List Int} {nt : Nat} {m : Int} : (R8e zs n ts nt m).val = .bool true := by kernel_rfl
theorem R8e_tab {zs : List Int} {n : Nat} {ts : List Int} {nt : Nat} {m : Int} : (R8e zs n ts nt m).tab = [some ⟨.ints .u8 zs, 0, false, 5⟩, some ⟨.ints .u8 ts, 0, false, 5⟩, some ⟨.ints .u8 (subLaw zs 0 n ++ [201, 202]), 2, true, 5⟩, some ⟨.ints .u8 (subLaw ts 0 nt ++ [201, 202]), 2, true, 5⟩] := by kernel_rfl
end Go.Abs

set_option linter.unusedVariables false
set_option linter.unusedSimpArgs false
set_option maxRecDepth 8000
set_option maxHeartbeats 4000000
namespace Go.Abs
open Go.Proofs Go.Proofs.Tryd
/-! ### the law of Expand -/
noncomputable def tab8 (zs : List Int) (n : Nat) (ts : List Int) (nt : Nat) (m : Int) : Tab := if m = 0 then (R8z zs n ts nt).tab else if 1 ≤ m ∧ m ≤ 8160 then (R8p zs n ts nt m).tab else (R8e zs n ts nt m).tab
theorem law8 {zs ts : List Int} {n nt : Nat} {m : Int} (hn : n ≤ zs.length) (hz : ∀ z ∈ zs, 0 ≤ z ∧ z < 256) (hm : zs.length ≤ 140737488351232) (hn2 : nt ≤ ts.length) (hz2 : ∀ z ∈ ts, 0 ≤ z ∧ z < 256) (hm2 : ts.length ≤ 140737488351232) : Small prog glS 8 [.slice 1 0 0 0 n (some zs.length), .slice 1 1 0 0 nt (some ts.length), .int .i64 m] [some ⟨.ints .u8 zs, 0, false, 5⟩, some ⟨.ints .u8 ts, 0, false, 5⟩] (.bool true) (tab8 zs n ts nt m) := by
  have hb := bs_of hz
  have hb2 := bs_of hz2
  have l1 : (subLaw zs 0 n).length = n := subLaw_len (by omega)
  have l2 : (subLaw ts 0 nt).length = nt := subLaw_len (by omega)
  have b1 := bs_lent hb n
  have b2 := bs_lent hb2 nt
  have e1 : subLaw (subLaw zs 0 n ++ [201, 202]) 0 n = subLaw zs 0 n := sub_front l1
  have e2 : subLaw (subLaw ts 0 nt ++ [201, 202]) 0 nt = subLaw ts 0 nt := sub_front l2
  have q1 := lent_self (subLaw zs 0 n)
  have q2 := lent_self (subLaw ts 0 nt)
  have hcn := capLaw_none n
  have hct := capLaw_none nt
  have ho := out_len (subLaw zs 0 n) (subLaw ts 0 nt) (rLaw m)
  unfold tab8
  by_cases h0 : m = 0
  · subst h0
    rw [if_pos rfl]
    refine small_of (R := R8z zs n ts nt) eL8z_ok hmS (f := 8) (fn := f8) (by kernel_rfl) (by kernel_rfl) FnOrc.nil rfl (R8z_ok ?_) R8z_val rfl
    simp only [allP, Con.h, e1, e2, l1, l2, ho, hb, hb2, b1, b2, q1, q2, hcn, hct, beq_self_eq_true, List.length_append, List.length_cons, List.length_nil, eq_self, true_and, and_true, Nat.zero_add]
    omega
  · rw [if_neg h0]
    by_cases h1 : 1 ≤ m ∧ m ≤ 8160
    · rw [if_pos h1]
      have hr := r_bound h1.1 h1.2
      refine small_of (R := R8p zs n ts nt m) eL8p_ok hmS (f := 8) (fn := f8) (by kernel_rfl) (by kernel_rfl) FnOrc.nil rfl (R8p_ok ?_) R8p_val rfl
      simp only [allP, Con.h, e1, e2, l1, l2, ho, hb, hb2, b1, b2, q1, q2, hcn, hct, beq_self_eq_true, List.length_append, List.length_cons, List.length_nil, eq_self, true_and, and_true, Nat.zero_add]
      omega
    · rw [if_neg h1]
      have hbad : badLaw m := by unfold badLaw; omega
      refine small_of (R := R8e zs n ts nt m) eL8e_ok hmS (f := 8) (fn := f8) (by kernel_rfl) (by kernel_rfl) FnOrc.nil rfl (R8e_ok ?_) R8e_val rfl
      simp only [hbad, allP, Con.h, e1, e2, l1, l2, ho, hb, hb2, b1, b2, q1, q2, hcn, hct, beq_self_eq_true, List.length_append, List.length_cons, List.length_nil, eq_self, true_and, and_true, Nat.zero_add]
      omega
end Go.Abs

set_option linter.unusedVariables false
set_option linter.unusedSimpArgs false
set_option maxRecDepth 8000
set_option maxHeartbeats 4000000
namespace Go.Abs
open Go.Proofs Go.Proofs.Tryd
/-! ### Expand, whatever the length: one contract -/
noncomputable def sm27uc (args : List AVal) (T : Tab) (zs : List Int) (g : Nat) (off : Nat) (n : Nat) (cp : Option Nat) (is : List Int) (gi : Nat) (oi : Nat) (ni : Nat) (ci : Option Nat) (m : Int) : Res := ⟨[.tab T [some ⟨.ints .u8 zs, g, false, 5⟩, some ⟨.ints .u8 is, gi, false, 5⟩], .val (.tuple args) (.tuple [.slice 1 0 g off n cp, .slice 1 1 gi oi ni ci, .int .i64 m]), .leN (off + n) zs.length, .leN n 140737488355000, .p (BsLaw zs), .p (capLaw n cp), .leN (oi + ni) is.length, .leN ni 140737488354000, .p (BsLaw is), .rng 0 m 8160], .tuple [.slice 1 2 (rLaw m - 1) 0 m.toNat none, .int .i64 0], [some ⟨.ints .u8 zs, g, false, 5⟩, some ⟨.ints .u8 is, gi, false, 5⟩, some ⟨.ints .u8 (outLaw (subLaw zs off n) (subLaw is oi ni) (rLaw m)), rLaw m - 1, true, 5⟩]⟩
theorem sm27uc_ok {args : List AVal} {T : Tab} {zs : List Int} {g : Nat} {off : Nat} {n : Nat} {cp : Option Nat} {is : List Int} {gi : Nat} {oi : Nat} {ni : Nat} {ci : Option Nat} {m : Int} (h : allP (sm27uc args T zs g off n cp is gi oi ni ci m).cs) : Small prog glS 27 args T (sm27uc args T zs g off n cp is gi oi ni ci m).val (sm27uc args T zs g off n cp is gi oi ni ci m).tab := by
  obtain ⟨hT, hv, h1, h2, h3, h4, h5, h6, h7, h8, _⟩ := h
  simp only [Con.h] at hT hv h1 h2 h3 h4 h5 h6 h7 h8
  injection hv with hv
  subst hT hv
  by_cases h0 : m = 0
  · subst h0
    exact small_nil2 .u8 5 (.inr rfl) (sm27szc_ok (args := [.slice 1 0 g off n cp, .slice 1 1 gi oi ni ci, .int .i64 0]) (T := [some ⟨.ints .u8 zs, g, false, 5⟩, some ⟨.ints .u8 is, gi, false, 5⟩]) ⟨rfl, rfl, h1, h2, h3, h4, h5, h6, h7, trivial⟩) (Nat.le_refl 2)
  · exact sm27spc_ok (args := [.slice 1 0 g off n cp, .slice 1 1 gi oi ni ci, .int .i64 m]) (T := [some ⟨.ints .u8 zs, g, false, 5⟩, some ⟨.ints .u8 is, gi, false, 5⟩]) ⟨rfl, rfl, h1, h2, h3, h4, h5, h6, h7, ⟨by have := h8.1; omega, h8.2⟩, trivial⟩
noncomputable def sm27u : Summary := fun args T => sm27uc args T (xsAt T 0) (gAt T 0) (offOf (vAt args 0)) (lenOf (vAt args 0)) (capOf (vAt args 0)) (xsAt T 1) (gAt T 1) (offOf (vAt args 1)) (lenOf (vAt args 1)) (capOf (vAt args 1)) (iOf (vAt args 2))
theorem sm27u_ok : SmOk prog glS 27 sm27u := fun args T h => sm27uc_ok h
noncomputable def S27u : Summary := callR sm27u []
theorem S27u_ok : SumOk prog glS 27 S27u := callR_ok sm27u_ok []
noncomputable def eL10 : Env := eS0 [(24, S24), (27, S27u), (29, S29), (26, S26)]
theorem eL10_ok : EnvOk eL10 := envOf_ok tysS_ok (SumsOk.cons (fn := f24) S24_ok (by kernel_rfl) (by kernel_rfl) (by kernel_rfl) (SumsOk.cons (fn := f27) S27u_ok (by kernel_rfl) (by kernel_rfl) (by kernel_rfl) (SumsOk.cons (fn := f29) S29_ok (by kernel_rfl) (by kernel_rfl) (by kernel_rfl) (SumsOk.cons (fn := f26) S26_ok (by kernel_rfl) (by kernel_rfl) (by kernel_rfl) trivial))))
end Go.Abs

set_option linter.unusedVariables false
set_option linter.unusedSimpArgs false
set_option maxRecDepth 8000
set_option maxHeartbeats 4000000
namespace Go.Abs
open Go.Proofs Go.Proofs.Tryd
/-! ### HkdfBegins: what its sides come to -/
noncomputable def R10a (zs : List Int) (n : Nat) (ts : List Int) (nt : Nat) (a b : Int) : Res := runF eL10 f10 [] 400 [.slice 1 0 0 0 n (some zs.length), .slice 1 1 0 0 nt (some ts.length), .int .i64 a, .int .i64 b] [some ⟨.ints .u8 zs, 0, false, 5⟩, some ⟨.ints .u8 ts, 0, false, 5⟩] [none, some false, some false, some false, some false, none]
theorem R10a_ok {zs : List Int} {n : Nat} {ts : List Int} {nt : Nat} {a b : Int} (h : allP [.rng (-9223372036854775808) (a.tmod 8161 + 8161) 9223372036854775807, .rng (-9223372036854775808) (b.tmod 8161 + 8161) 9223372036854775807, .leN (0 + n) zs.length, .leN n 140737488355000, .p (BsLaw zs), .p (capLaw n (some zs.length)), .leN (0 + nt) ts.length, .leN nt 140737488354000, .p (BsLaw ts), .rng 0
 (if (b.tmod 8161 + 8161).tmod 8161 < (a.tmod 8161 + 8161).tmod 8161 then (b.tmod 8161 + 8161).tmod 8161 else (a.tmod 8161 + 8161).tmod 8161) 8160, .leN (0 + n) zs.length, .leN n 140737488355000, .p (BsLaw zs), .p (capLaw n (some zs.length)), .leN (0 + nt) ts.length, .leN nt 140737488354000, .p (BsLaw ts), .rng 0 (if (a.tmod 8161 + 8161).tmod 8161 < (b.tmod 8161 + 8161).tmod 8161 then (b.tmod 8161 +
 8161).tmod 8161 else (a.tmod 8161 + 8161).tmod 8161) 8160, .eqN (rLaw (if (b.tmod 8161 + 8161).tmod 8161 < (a.tmod 8161 + 8161).tmod 8161 then (b.tmod 8161 + 8161).tmod 8161 else (a.tmod 8161 + 8161).tmod 8161) - 1) (rLaw (if (b.tmod 8161 + 8161).tmod 8161 < (a.tmod 8161 + 8161).tmod 8161 then (b.tmod 8161 + 8161).tmod 8161 else (a.tmod 8161 + 8161).tmod 8161) - 1), .p (((↑(if (b.tmod 8161 +
 8161).tmod 8161 < (a.tmod 8161 + 8161).tmod 8161 then (b.tmod 8161 + 8161).tmod 8161 else (a.tmod 8161 + 8161).tmod 8161).toNat : Int) != if (b.tmod 8161 + 8161).tmod 8161 < (a.tmod 8161 + 8161).tmod 8161 then (b.tmod 8161 + 8161).tmod 8161 else (a.tmod 8161 + 8161).tmod 8161) = false), .eqN (rLaw (if (a.tmod 8161 + 8161).tmod 8161 < (b.tmod 8161 + 8161).tmod 8161 then (b.tmod 8161 + 8161).tmod
 8161 else (a.tmod 8161 + 8161).tmod 8161) - 1) (rLaw (if (a.tmod 8161 + 8161).tmod 8161 < (b.tmod 8161 + 8161).tmod 8161 then (b.tmod 8161 + 8161).tmod 8161 else (a.tmod 8161 + 8161).tmod 8161) - 1), .p (((↑(if (a.tmod 8161 + 8161).tmod 8161 < (b.tmod 8161 + 8161).tmod 8161 then (b.tmod 8161 + 8161).tmod 8161 else (a.tmod 8161 + 8161).tmod 8161).toNat : Int) != if (a.tmod 8161 + 8161).tmod 8161 <
 (b.tmod 8161 + 8161).tmod 8161 then (b.tmod 8161 + 8161).tmod 8161 else (a.tmod 8161 + 8161).tmod 8161) = false), .eqN (rLaw (if (b.tmod 8161 + 8161).tmod 8161 < (a.tmod 8161 + 8161).tmod 8161 then (b.tmod 8161 + 8161).tmod 8161 else (a.tmod 8161 + 8161).tmod 8161) - 1) (rLaw (if (b.tmod 8161 + 8161).tmod 8161 < (a.tmod 8161 + 8161).tmod 8161 then (b.tmod 8161 + 8161).tmod 8161 else (a.tmod 8161 +
 8161).tmod 8161) - 1), .leI 0 (↑(if (b.tmod 8161 + 8161).tmod 8161 < (a.tmod 8161 + 8161).tmod 8161 then (b.tmod 8161 + 8161).tmod 8161 else (a.tmod 8161 + 8161).tmod 8161).toNat : Int), .eqN (rLaw (if (a.tmod 8161 + 8161).tmod 8161 < (b.tmod 8161 + 8161).tmod 8161 then (b.tmod 8161 + 8161).tmod 8161 else (a.tmod 8161 + 8161).tmod 8161) - 1) (rLaw (if (a.tmod 8161 + 8161).tmod 8161 < (b.tmod 8161 +
 8161).tmod 8161 then (b.tmod 8161 + 8161).tmod 8161 else (a.tmod 8161 + 8161).tmod 8161) - 1), .leN 0 (if (b.tmod 8161 + 8161).tmod 8161 < (a.tmod 8161 + 8161).tmod 8161 then (b.tmod 8161 + 8161).tmod 8161 else (a.tmod 8161 + 8161).tmod 8161).toNat, .orN (if (b.tmod 8161 + 8161).tmod 8161 < (a.tmod 8161 + 8161).tmod 8161 then (b.tmod 8161 + 8161).tmod 8161 else (a.tmod 8161 + 8161).tmod 8161).toNat
 (if (a.tmod 8161 + 8161).tmod 8161 < (b.tmod 8161 + 8161).tmod 8161 then (b.tmod 8161 + 8161).tmod 8161 else (a.tmod 8161 + 8161).tmod 8161).toNat (0 + (if (b.tmod 8161 + 8161).tmod 8161 < (a.tmod 8161 + 8161).tmod 8161 then (b.tmod 8161 + 8161).tmod 8161 else (a.tmod 8161 + 8161).tmod 8161).toNat) (outLaw (subLaw zs 0 n) (subLaw ts 0 nt) (rLaw (if (a.tmod 8161 + 8161).tmod 8161 < (b.tmod 8161 +
 8161).tmod 8161 then (b.tmod 8161 + 8161).tmod 8161 else (a.tmod 8161 + 8161).tmod 8161))).length, .eqN (rLaw (if (a.tmod 8161 + 8161).tmod 8161 < (b.tmod 8161 + 8161).tmod 8161 then (b.tmod 8161 + 8161).tmod 8161 else (a.tmod 8161 + 8161).tmod 8161) - 1) (rLaw (if (a.tmod 8161 + 8161).tmod 8161 < (b.tmod 8161 + 8161).tmod 8161 then (b.tmod 8161 + 8161).tmod 8161 else (a.tmod 8161 + 8161).tmod
 8161) - 1), .leN (0 + (if (b.tmod 8161 + 8161).tmod 8161 < (a.tmod 8161 + 8161).tmod 8161 then (b.tmod 8161 + 8161).tmod 8161 else (a.tmod 8161 + 8161).tmod 8161).toNat) (outLaw (subLaw zs 0 n) (subLaw ts 0 nt) (rLaw (if (a.tmod 8161 + 8161).tmod 8161 < (b.tmod 8161 + 8161).tmod 8161 then (b.tmod 8161 + 8161).tmod 8161 else (a.tmod 8161 + 8161).tmod 8161))).length, .eqN (rLaw (if (b.tmod 8161 +
 8161).tmod 8161 < (a.tmod 8161 + 8161).tmod 8161 then (b.tmod 8161 + 8161).tmod 8161 else (a.tmod 8161 + 8161).tmod 8161) - 1) (rLaw (if (b.tmod 8161 + 8161).tmod 8161 < (a.tmod 8161 + 8161).tmod 8161 then (b.tmod 8161 + 8161).tmod 8161 else (a.tmod 8161 + 8161).tmod 8161) - 1), .leN (0 + (if (b.tmod 8161 + 8161).tmod 8161 < (a.tmod 8161 + 8161).tmod 8161 then (b.tmod 8161 + 8161).tmod 8161 else
 (a.tmod 8161 + 8161).tmod 8161).toNat) (outLaw (subLaw zs 0 n) (subLaw ts 0 nt) (rLaw (if (b.tmod 8161 + 8161).tmod 8161 < (a.tmod 8161 + 8161).tmod 8161 then (b.tmod 8161 + 8161).tmod 8161 else (a.tmod 8161 + 8161).tmod 8161))).length, .p ((!List.map byteOf (List.take (if (b.tmod 8161 + 8161).tmod 8161 < (a.tmod 8161 + 8161).tmod 8161 then (b.tmod 8161 + 8161).tmod 8161 else (a.tmod 8161 +
 8161).tmod 8161).toNat (outLaw (subLaw zs 0 n) (subLaw ts 0 nt) (rLaw (if (a.tmod 8161 + 8161).tmod 8161 < (b.tmod 8161 + 8161).tmod 8161 then (b.tmod 8161 + 8161).tmod 8161 else (a.tmod 8161 + 8161).tmod 8161)))) == List.map byteOf (List.take (if (b.tmod 8161 + 8161).tmod 8161 < (a.tmod 8161 + 8161).tmod 8161 then (b.tmod 8161 + 8161).tmod 8161 else (a.tmod 8161 + 8161).tmod 8161).toNat (outLaw
 (subLaw zs 0 n) (subLaw ts 0 nt) (rLaw (if (b.tmod 8161 + 8161).tmod 8161 < (a.tmod 8161 + 8161).tmod 8161 then (b.tmod 8161 + 8161).tmod 8161 else (a.tmod 8161 + 8161).tmod 8161))))) = false), .p (decide ((↑n : Int) < 64) = false)]) : OkR (R10a zs n ts nt a b) := OkR.dem (fl := bitsF 51 562967134077165) (by kernel_rfl) (by kernel_rfl) (by kernel_rfl) h
theorem R10a_val {zs : List Int} {n : Nat} {ts : List Int} {nt : Nat} {a b : Int} : (R10a zs n ts nt a b).val = .bool true := by kernel_rfl
theorem R10a_tab {zs : List Int} {n : Nat} {ts : List Int} {nt : Nat} {a b : Int} : (R10a zs n ts nt a b).tab = [some ⟨.ints .u8 zs, 0, false, 5⟩, some ⟨.ints .u8 ts, 0, false, 5⟩, some ⟨.ints .u8 (outLaw (subLaw zs 0 n) (subLaw ts 0 nt) (rLaw (if (b.tmod 8161 + 8161).tmod 8161 < (a.tmod 8161 + 8161).tmod 8161 then (b.tmod 8161 + 8161).tmod 8161 else (a.tmod 8161 + 8161).tmod 8161))), rLaw (if
 (b.tmod 8161 + 8161).tmod 8161 < (a.tmod 8161 + 8161).tmod 8161 then (b.tmod 8161 + 8161).tmod 8161 else (a.tmod 8161 + 8161).tmod 8161) - 1, true, 5⟩, some ⟨.ints .u8 (outLaw (subLaw zs 0 n) (subLaw ts 0 nt) (rLaw (if (a.tmod 8161 + 8161).tmod 8161 < (b.tmod 8161 + 8161).tmod 8161 then (b.tmod 8161 + 8161).tmod 8161 else (a.tmod 8161 + 8161).tmod 8161))), rLaw (if (a.tmod 8161 + 8161).tmod 8161 <
 (b.tmod 8161 + 8161).tmod 8161 then (b.tmod 8161 + 8161).tmod 8161 else (a.tmod 8161 + 8161).tmod 8161) - 1, true, 5⟩] := by kernel_rfl
noncomputable def R10b (zs : List Int) (n : Nat) (ts : List Int) (nt : Nat) (a b : Int) : Res := runF eL10 f10 [] 400 [.slice 1 0 0 0 n (some zs.length), .slice 1 1 0 0 nt (some ts.length), .int .i64 a, .int .i64 b] [some ⟨.ints .u8 zs, 0, false, 5⟩, some ⟨.ints .u8 ts, 0, false, 5⟩] [none, some false, some false, some false, some true, some true, none]
theorem R10b_ok {zs : List Int} {n : Nat} {ts : List Int} {nt : Nat} {a b : Int} (h : allP [.rng (-9223372036854775808) (a.tmod 8161 + 8161) 9223372036854775807, .rng (-9223372036854775808) (b.tmod 8161 + 8161) 9223372036854775807, .leN (0 + n) zs.length, .leN n 140737488355000, .p (BsLaw zs), .p (capLaw n (some zs.length)), .leN (0 + nt) ts.length, .leN nt 140737488354000, .p (BsLaw ts), .rng 0
 (if (b.tmod 8161 + 8161).tmod 8161 < (a.tmod 8161 + 8161).tmod 8161 then (b.tmod 8161 + 8161).tmod 8161 else (a.tmod 8161 + 8161).tmod 8161) 8160, .leN (0 + n) zs.length, .leN n 140737488355000, .p (BsLaw zs), .p (capLaw n (some zs.length)), .leN (0 + nt) ts.length, .leN nt 140737488354000, .p (BsLaw ts), .rng 0 (if (a.tmod 8161 + 8161).tmod 8161 < (b.tmod 8161 + 8161).tmod 8161 then (b.tmod 8161 +
 8161).tmod 8161 else (a.tmod 8161 + 8161).tmod 8161) 8160, .eqN (rLaw (if (b.tmod 8161 + 8161).tmod 8161 < (a.tmod 8161 + 8161).tmod 8161 then (b.tmod 8161 + 8161).tmod 8161 else (a.tmod 8161 + 8161).tmod 8161) - 1) (rLaw (if (b.tmod 8161 + 8161).tmod 8161 < (a.tmod 8161 + 8161).tmod 8161 then (b.tmod 8161 + 8161).tmod 8161 else (a.tmod 8161 + 8161).tmod 8161) - 1), .p (((↑(if (b.tmod 8161 +
 8161).tmod 8161 < (a.tmod 8161 + 8161).tmod 8161 then (b.tmod 8161 + 8161).tmod 8161 else (a.tmod 8161 + 8161).tmod 8161).toNat : Int) != if (b.tmod 8161 + 8161).tmod 8161 < (a.tmod 8161 + 8161).tmod 8161 then (b.tmod 8161 + 8161).tmod 8161 else (a.tmod 8161 + 8161).tmod 8161) = false), .eqN (rLaw (if (a.tmod 8161 + 8161).tmod 8161 < (b.tmod 8161 + 8161).tmod 8161 then (b.tmod 8161 + 8161).tmod
 8161 else (a.tmod 8161 + 8161).tmod 8161) - 1) (rLaw (if (a.tmod 8161 + 8161).tmod 8161 < (b.tmod 8161 + 8161).tmod 8161 then (b.tmod 8161 + 8161).tmod 8161 else (a.tmod 8161 + 8161).tmod 8161) - 1), .p (((↑(if (a.tmod 8161 + 8161).tmod 8161 < (b.tmod 8161 + 8161).tmod 8161 then (b.tmod 8161 + 8161).tmod 8161 else (a.tmod 8161 + 8161).tmod 8161).toNat : Int) != if (a.tmod 8161 + 8161).tmod 8161 <
 (b.tmod 8161 + 8161).tmod 8161 then (b.tmod 8161 + 8161).tmod 8161 else (a.tmod 8161 + 8161).tmod 8161) = false), .eqN (rLaw (if (b.tmod 8161 + 8161).tmod 8161 < (a.tmod 8161 + 8161).tmod 8161 then (b.tmod 8161 + 8161).tmod 8161 else (a.tmod 8161 + 8161).tmod 8161) - 1) (rLaw (if (b.tmod 8161 + 8161).tmod 8161 < (a.tmod 8161 + 8161).tmod 8161 then (b.tmod 8161 + 8161).tmod 8161 else (a.tmod 8161 +
 8161).tmod 8161) - 1), .leI 0 (↑(if (b.tmod 8161 + 8161).tmod 8161 < (a.tmod 8161 + 8161).tmod 8161 then (b.tmod 8161 + 8161).tmod 8161 else (a.tmod 8161 + 8161).tmod 8161).toNat : Int), .eqN (rLaw (if (a.tmod 8161 + 8161).tmod 8161 < (b.tmod 8161 + 8161).tmod 8161 then (b.tmod 8161 + 8161).tmod 8161 else (a.tmod 8161 + 8161).tmod 8161) - 1) (rLaw (if (a.tmod 8161 + 8161).tmod 8161 < (b.tmod 8161 +
 8161).tmod 8161 then (b.tmod 8161 + 8161).tmod 8161 else (a.tmod 8161 + 8161).tmod 8161) - 1), .leN 0 (if (b.tmod 8161 + 8161).tmod 8161 < (a.tmod 8161 + 8161).tmod 8161 then (b.tmod 8161 + 8161).tmod 8161 else (a.tmod 8161 + 8161).tmod 8161).toNat, .orN (if (b.tmod 8161 + 8161).tmod 8161 < (a.tmod 8161 + 8161).tmod 8161 then (b.tmod 8161 + 8161).tmod 8161 else (a.tmod 8161 + 8161).tmod 8161).toNat
 (if (a.tmod 8161 + 8161).tmod 8161 < (b.tmod 8161 + 8161).tmod 8161 then (b.tmod 8161 + 8161).tmod 8161 else (a.tmod 8161 + 8161).tmod 8161).toNat (0 + (if (b.tmod 8161 + 8161).tmod 8161 < (a.tmod 8161 + 8161).tmod 8161 then (b.tmod 8161 + 8161).tmod 8161 else (a.tmod 8161 + 8161).tmod 8161).toNat) (outLaw (subLaw zs 0 n) (subLaw ts 0 nt) (rLaw (if (a.tmod 8161 + 8161).tmod 8161 < (b.tmod 8161 +
 8161).tmod 8161 then (b.tmod 8161 + 8161).tmod 8161 else (a.tmod 8161 + 8161).tmod 8161))).length, .eqN (rLaw (if (a.tmod 8161 + 8161).tmod 8161 < (b.tmod 8161 + 8161).tmod 8161 then (b.tmod 8161 + 8161).tmod 8161 else (a.tmod 8161 + 8161).tmod 8161) - 1) (rLaw (if (a.tmod 8161 + 8161).tmod 8161 < (b.tmod 8161 + 8161).tmod 8161 then (b.tmod 8161 + 8161).tmod 8161 else (a.tmod 8161 + 8161).tmod
 8161) - 1), .leN (0 + (if (b.tmod 8161 + 8161).tmod 8161 < (a.tmod 8161 + 8161).tmod 8161 then (b.tmod 8161 + 8161).tmod 8161 else (a.tmod 8161 + 8161).tmod 8161).toNat) (outLaw (subLaw zs 0 n) (subLaw ts 0 nt) (rLaw (if (a.tmod 8161 + 8161).tmod 8161 < (b.tmod 8161 + 8161).tmod 8161 then (b.tmod 8161 + 8161).tmod 8161 else (a.tmod 8161 + 8161).tmod 8161))).length, .eqN (rLaw (if (b.tmod 8161 +
 8161).tmod 8161 < (a.tmod 8161 + 8161).tmod 8161 then (b.tmod 8161 + 8161).tmod 8161 else (a.tmod 8161 + 8161).tmod 8161) - 1) (rLaw (if (b.tmod 8161 + 8161).tmod 8161 < (a.tmod 8161 + 8161).tmod 8161 then (b.tmod 8161 + 8161).tmod 8161 else (a.tmod 8161 + 8161).tmod 8161) - 1), .leN (0 + (if (b.tmod 8161 + 8161).tmod 8161 < (a.tmod 8161 + 8161).tmod 8161 then (b.tmod 8161 + 8161).tmod 8161 else
 (a.tmod 8161 + 8161).tmod 8161).toNat) (outLaw (subLaw zs 0 n) (subLaw ts 0 nt) (rLaw (if (b.tmod 8161 + 8161).tmod 8161 < (a.tmod 8161 + 8161).tmod 8161 then (b.tmod 8161 + 8161).tmod 8161 else (a.tmod 8161 + 8161).tmod 8161))).length, .p ((!List.map byteOf (List.take (if (b.tmod 8161 + 8161).tmod 8161 < (a.tmod 8161 + 8161).tmod 8161 then (b.tmod 8161 + 8161).tmod 8161 else (a.tmod 8161 +
 8161).tmod 8161).toNat (outLaw (subLaw zs 0 n) (subLaw ts 0 nt) (rLaw (if (a.tmod 8161 + 8161).tmod 8161 < (b.tmod 8161 + 8161).tmod 8161 then (b.tmod 8161 + 8161).tmod 8161 else (a.tmod 8161 + 8161).tmod 8161)))) == List.map byteOf (List.take (if (b.tmod 8161 + 8161).tmod 8161 < (a.tmod 8161 + 8161).tmod 8161 then (b.tmod 8161 + 8161).tmod 8161 else (a.tmod 8161 + 8161).tmod 8161).toNat (outLaw
 (subLaw zs 0 n) (subLaw ts 0 nt) (rLaw (if (b.tmod 8161 + 8161).tmod 8161 < (a.tmod 8161 + 8161).tmod 8161 then (b.tmod 8161 + 8161).tmod 8161 else (a.tmod 8161 + 8161).tmod 8161))))) = false), .p (decide ((↑n : Int) < 64) = true), .leN n 140737488355328, .leN (0 + n) zs.length, .rng (-9223372036854775808) (64 - (↑n : Int)) 9223372036854775807, .leN (0 + n) ([] ++ List.take n zs).length, .leN (addO
 n (64 - (↑n : Int)).toNat) 140737488355328, .leI 0 (64 - (↑n : Int)), .leI (64 - (↑n : Int)) 9223372036854775807, .leN (64 - (↑n : Int)).toNat 281474976710656, .leN (0 + addO n (64 - (↑n : Int)).toNat) (List.take n ([] ++ List.take n zs) ++ List.replicate (64 - (↑n : Int)).toNat 0).length, .leN (addO n (64 - (↑n : Int)).toNat) 140737488355000, .p (BsLaw (List.take n ([] ++ List.take n zs) ++
 List.replicate (64 - (↑n : Int)).toNat 0)), .p (capLaw (addO n (64 - (↑n : Int)).toNat) none), .leN (0 + nt) ts.length, .p (BsLaw ts), .leN (64 + nt) 140737488355000, .leN (0 + n) zs.length, .leN n 140737488355000, .p (BsLaw zs), .p (capLaw n (some zs.length)), .leN (0 + nt) ts.length, .p (BsLaw ts), .leN (64 + nt) 140737488355000, .p ((List.map byteOf (List.take 32 (hmLaw (subLaw (List.take n ([]
 ++ List.take n zs) ++ List.replicate (64 - (↑n : Int)).toNat 0) 0 (addO n (64 - (↑n : Int)).toNat)) (subLaw ts 0 nt))) == List.map byteOf (List.take 32 (hmLaw (subLaw zs 0 n) (subLaw ts 0 nt)))) = true)]) : OkR (R10b zs n ts nt a b) := OkR.dem (fl := bitsF 115 7790971846126508589019007917228269) (by kernel_rfl) (by kernel_rfl) (by kernel_rfl) h
theorem R10b_val {zs : List Int} {n : Nat} {ts : List Int} {nt : Nat} {a b : Int} : (R10b zs n ts nt a b).val = .bool true := by kernel_rfl
theorem R10b_tab {zs : List Int} {n : Nat} {ts : List Int} {nt : Nat} {a b : Int} : (R10b zs n ts nt a b).tab = [some ⟨.ints .u8 zs, 0, false, 5⟩, some ⟨.ints .u8 ts, 0, false, 5⟩, some ⟨.ints .u8 (outLaw (subLaw zs 0 n) (subLaw ts 0 nt) (rLaw (if (b.tmod 8161 + 8161).tmod 8161 < (a.tmod 8161 + 8161).tmod 8161 then (b.tmod 8161 + 8161).tmod 8161 else (a.tmod 8161 + 8161).tmod 8161))), rLaw (if
 (b.tmod 8161 + 8161).tmod 8161 < (a.tmod 8161 + 8161).tmod 8161 then (b.tmod 8161 + 8161).tmod 8161 else (a.tmod 8161 + 8161).tmod 8161) - 1, true, 5⟩, some ⟨.ints .u8 (outLaw (subLaw zs 0 n) (subLaw ts 0 nt) (rLaw (if (a.tmod 8161 + 8161).tmod 8161 < (b.tmod 8161 + 8161).tmod 8161 then (b.tmod 8161 + 8161).tmod 8161 else (a.tmod 8161 + 8161).tmod 8161))), rLaw (if (a.tmod 8161 + 8161).tmod 8161 <
 (b.tmod 8161 + 8161).tmod 8161 then (b.tmod 8161 + 8161).tmod 8161 else (a.tmod 8161 + 8161).tmod 8161) - 1, true, 5⟩, some ⟨.ints .u8 (List.take n ([] ++ List.take n zs) ++ List.replicate (64 - (↑n : Int)).toNat 0), 2, true, 5⟩, some ⟨.ints .u8 (hmLaw (subLaw (List.take n ([] ++ List.take n zs) ++ List.replicate (64 - (↑n : Int)).toNat 0) 0 (addO n (64 - (↑n : Int)).toNat)) (subLaw ts 0 nt)), 31,
 true, 5⟩, some ⟨.ints .u8 (hmLaw (subLaw zs 0 n) (subLaw ts 0 nt)), 31, true, 5⟩] := by kernel_rfl
end Go.Abs

set_option linter.unusedVariables false
set_option linter.unusedSimpArgs false
set_option maxRecDepth 8000
set_option maxHeartbeats 4000000
namespace Go.Abs
open Go.Proofs Go.Proofs.Tryd
/-! ### HkdfBegins: the law -/
theorem ext_getD {a b : List Int} (hl : a.length = b.length) (h : ∀ i, i < a.length → a.getD i 0 = b.getD i 0) : a = b := by
  refine List.ext_getElem hl fun i h1 h2 => ?_
  have := h i h1
  simpa [List.getD_eq_getElem?_getD, List.getElem?_eq_getElem h1, List.getElem?_eq_getElem h2] using this
theorem xk_zeros {x : Int} {k : List Int} {z : Nat} (hx : 0 ≤ x) : xkLaw (repLaw x) (k ++ List.replicate z 0) = xkLaw (repLaw x) k := by
  refine ext_getD (by rw [xk_len, xk_len]) fun i hi => ?_
  rw [xk_len] at hi
  rw [xk_get _ _ _ hi, xk_get _ _ _ hi]
  have h64 : i < 64 := hi
  rw [rep_get h64]
  by_cases h1 : i < k.length
  · rw [if_pos (by rw [List.length_append]; omega), if_pos h1, List.getD_eq_getElem?_getD, List.getElem?_append_left h1, ← List.getD_eq_getElem?_getD]
  · rw [if_neg h1]
    by_cases h2 : i < (k ++ List.replicate z 0).length
    · rw [if_pos h2]
      have h3 : (k ++ List.replicate z (0 : Int)).getD i 0 = 0 := by
        rw [List.getD_eq_getElem?_getD, List.getElem?_append_right (by omega), List.getElem?_replicate]
        split <;> rfl
      rw [h3]
      unfold ixor
      simp
      omega
    · rw [if_neg h2]
theorem hm_pad0 {k t : List Int} {z : Nat} (h : k.length + z ≤ 64) : hmLaw (k ++ List.replicate z 0) t = hmLaw k t := by
  unfold hmLaw keyLaw
  rw [if_neg (by rw [List.length_append, List.length_replicate]; omega), if_neg (by omega), xk_zeros (by decide), xk_zeros (by decide)]
theorem out_more (K J : List Int) : ∀ (r d : Nat), ∃ l, outLaw K J (r + d) = outLaw K J r ++ l
  | r, 0 => ⟨[], by rw [List.append_nil]; rfl⟩
  | r, d + 1 => by
    obtain ⟨l, h⟩ := out_more K J r d
    exact ⟨l ++ tLaw K J (r + d + 1), by rw [← Nat.add_assoc, outLaw, h, List.append_assoc]⟩
theorem out_front {K J : List Int} {r s m : Nat} (h : r ≤ s) (hm : m ≤ 32 * r) : List.take m (outLaw K J s) = List.take m (outLaw K J r) := by
  obtain ⟨l, e⟩ := out_more K J r (s - r)
  rw [show r + (s - r) = s by omega] at e
  rw [e, List.take_append_of_le_length (by rw [out_len]; exact hm)]
theorem norm_rngS {x m : Int} (hm : 0 < m) : 0 ≤ (x.tmod m + m).tmod m ∧ (x.tmod m + m).tmod m < m := by
  have h1 : 0 ≤ x.tmod m + m := by
    have := Int.lt_tmod_of_pos x hm
    omega
  rw [Int.tmod_eq_emod_of_nonneg h1]
  exact ⟨Int.emod_nonneg _ (by omega), Int.emod_lt_of_pos _ hm⟩
theorem BsLaw.reps : ∀ z : Nat, BsLaw (List.replicate z 0)
  | 0 => BsLaw.nil
  | z + 1 => BsLaw.cons (by decide) (BsLaw.reps z)
theorem facts10 {K J : List Int} {mn mx : Int} (h0 : 0 ≤ mn) (h1 : mn ≤ mx) (h2 : mx ≤ 8160) : ((mn.toNat : Int) != mn) = false ∧ ((mx.toNat : Int) != mx) = false ∧ List.take mn.toNat (outLaw K J (rLaw mx)) = List.take mn.toNat (outLaw K J (rLaw mn)) ∧ mn.toNat ≤ 32 * rLaw mn ∧ mn.toNat ≤ 32 * rLaw mx := by
  have hr : rLaw mn ≤ rLaw mx := by unfold rLaw; omega
  have hrm : mn.toNat ≤ 32 * rLaw mn := by unfold rLaw; omega
  exact ⟨by rw [Int.toNat_of_nonneg h0, bne_self_eq_false], by rw [Int.toNat_of_nonneg (by omega), bne_self_eq_false], out_front hr hrm, hrm, by omega⟩
theorem law10 {zs ts : List Int} {n nt : Nat} {a b : Int} (hn : n ≤ zs.length) (hz : ∀ z ∈ zs, 0 ≤ z ∧ z < 256) (hm : zs.length ≤ 140737488351232) (hn2 : nt ≤ ts.length) (hz2 : ∀ z ∈ ts, 0 ≤ z ∧ z < 256) (hm2 : ts.length ≤ 140737488351232) :
    Small prog glS 10 [.slice 1 0 0 0 n (some zs.length), .slice 1 1 0 0 nt (some ts.length), .int .i64 a, .int .i64 b] [some ⟨.ints .u8 zs, 0, false, 5⟩, some ⟨.ints .u8 ts, 0, false, 5⟩] (.bool true) (if n < 64 then (R10b zs n ts nt a b).tab else (R10a zs n ts nt a b).tab) := by
  have hb := bs_of hz
  have hb2 := bs_of hz2
  have hc := capLaw_some hn
  have q1 := Int.lt_tmod_of_pos a (show (0 : Int) < 8161 by omega)
  have q2 := Int.tmod_lt_of_pos a (show (0 : Int) < 8161 by omega)
  have q3 := Int.lt_tmod_of_pos b (show (0 : Int) < 8161 by omega)
  have q4 := Int.tmod_lt_of_pos b (show (0 : Int) < 8161 by omega)
  have hu := norm_rngS (x := a) (m := 8161) (by omega)
  have hv := norm_rngS (x := b) (m := 8161) (by omega)
  by_cases h64 : n < 64
  · rw [if_pos h64]
    refine small_of (R := R10b zs n ts nt a b) eL10_ok hmS (f := 10) (fn := f10) (by kernel_rfl) (by kernel_rfl) FnOrc.nil rfl (R10b_ok ?_) R10b_val rfl
    have hk : (subLaw zs 0 n).length = n := subLaw_len (by omega)
    have ek : List.take n ([] ++ List.take n zs) = subLaw zs 0 n := by rw [List.nil_append, List.take_take, Nat.min_self]; rfl
    have ez : (64 - (n : Int)).toNat = 64 - n := by omega
    have ea : addO n (64 - n) = 64 := by rw [addO_eq]; omega
    have el : (subLaw zs 0 n ++ List.replicate (64 - n) (0 : Int)).length = 64 := by rw [List.length_append, List.length_replicate, hk]; omega
    have es : subLaw (subLaw zs 0 n ++ List.replicate (64 - n) 0) 0 64 = subLaw zs 0 n ++ List.replicate (64 - n) 0 := sub_all el
    have eh : hmLaw (subLaw zs 0 n ++ List.replicate (64 - n) 0) (subLaw ts 0 nt) = hmLaw (subLaw zs 0 n) (subLaw ts 0 nt) := hm_pad0 (by omega)
    have eb : BsLaw (subLaw zs 0 n ++ List.replicate (64 - n) 0) := (hb.sub 0 n).append (BsLaw.reps _)
    have et : ([] ++ List.take n zs).length = n := by rw [List.nil_append, List.length_take]; omega
    have hcn := capLaw_none 64
    generalize (a.tmod 8161 + 8161).tmod 8161 = u at hu ⊢
    generalize (b.tmod 8161 + 8161).tmod 8161 = v at hv ⊢
    generalize a.tmod 8161 = w at q1 q2 ⊢
    generalize b.tmod 8161 = y at q3 q4 ⊢
    rcases Int.lt_trichotomy u v with h | h | h
    · have h2 : ¬ v < u := by omega
      obtain ⟨e1, e2, e3, e4, e5⟩ := facts10 (K := subLaw zs 0 n) (J := subLaw ts 0 nt) (mn := u) (mx := v) (by omega) (by omega) (by omega)
      simp only [h, h2, if_true, if_false]
      simp only [allP, Con.h, ek, ez, ea, el, es, eh, eb, et, e1, e2, e3, hb, hb2, hc, hcn, out_len, beq_self_eq_true, Bool.not_true, decide_eq_true_eq, and_true, true_and]
      omega
    · subst h
      obtain ⟨e1, e2, e3, e4, e5⟩ := facts10 (K := subLaw zs 0 n) (J := subLaw ts 0 nt) (mn := u) (mx := u) (by omega) (by omega) (by omega)
      simp only [Int.lt_irrefl, if_true, if_false]
      simp only [allP, Con.h, ek, ez, ea, el, es, eh, eb, et, e1, e2, e3, hb, hb2, hc, hcn, out_len, beq_self_eq_true, Bool.not_true, decide_eq_true_eq, and_true, true_and]
      omega
    · have h2 : ¬ u < v := by omega
      obtain ⟨e1, e2, e3, e4, e5⟩ := facts10 (K := subLaw zs 0 n) (J := subLaw ts 0 nt) (mn := v) (mx := u) (by omega) (by omega) (by omega)
      simp only [h, h2, if_true, if_false]
      simp only [allP, Con.h, ek, ez, ea, el, es, eh, eb, et, e1, e2, e3, hb, hb2, hc, hcn, out_len, beq_self_eq_true, Bool.not_true, decide_eq_true_eq, and_true, true_and]
      omega
  · rw [if_neg h64]
    refine small_of (R := R10a zs n ts nt a b) eL10_ok hmS (f := 10) (fn := f10) (by kernel_rfl) (by kernel_rfl) FnOrc.nil rfl (R10a_ok ?_) R10a_val rfl
    generalize (a.tmod 8161 + 8161).tmod 8161 = u at hu ⊢
    generalize (b.tmod 8161 + 8161).tmod 8161 = v at hv ⊢
    generalize a.tmod 8161 = w at q1 q2 ⊢
    generalize b.tmod 8161 = y at q3 q4 ⊢
    rcases Int.lt_trichotomy u v with h | h | h
    · have h2 : ¬ v < u := by omega
      obtain ⟨e1, e2, e3, e4, e5⟩ := facts10 (K := subLaw zs 0 n) (J := subLaw ts 0 nt) (mn := u) (mx := v) (by omega) (by omega) (by omega)
      simp only [h, h2, if_true, if_false]
      simp only [allP, Con.h, e1, e2, e3, hb, hb2, hc, out_len, beq_self_eq_true, Bool.not_true, decide_eq_true_eq, decide_eq_false_iff_not, and_true, true_and]
      omega
    · subst h
      obtain ⟨e1, e2, e3, e4, e5⟩ := facts10 (K := subLaw zs 0 n) (J := subLaw ts 0 nt) (mn := u) (mx := u) (by omega) (by omega) (by omega)
      simp only [Int.lt_irrefl, if_true, if_false]
      simp only [allP, Con.h, e1, e2, e3, hb, hb2, hc, out_len, beq_self_eq_true, Bool.not_true, decide_eq_true_eq, decide_eq_false_iff_not, and_true, true_and]
      omega
    · have h2 : ¬ u < v := by omega
      obtain ⟨e1, e2, e3, e4, e5⟩ := facts10 (K := subLaw zs 0 n) (J := subLaw ts 0 nt) (mn := v) (mx := u) (by omega) (by omega) (by omega)
      simp only [h, h2, if_true, if_false]
      simp only [allP, Con.h, e1, e2, e3, hb, hb2, hc, out_len, beq_self_eq_true, Bool.not_true, decide_eq_true_eq, decide_eq_false_iff_not, and_true, true_and]
      omega
end Go.Abs
