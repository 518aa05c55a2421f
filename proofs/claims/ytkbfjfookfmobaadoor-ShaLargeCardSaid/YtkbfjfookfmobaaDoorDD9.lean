/- What functions of the given program come to, by the abstract machine: one text of a proof. -/
import Derived.Test.YtkbfjfookfmobaaDoorDD8
set_option linter.unusedVariables false
set_option linter.unusedSimpArgs false
set_option maxRecDepth 8000
set_option maxHeartbeats 4000000
namespace Go.Abs
open Go.Proofs Go.Proofs.Tryd
/-! ### the laws of two sums -/
theorem sub_front {a b : List Int} {n : Nat} (h : a.length = n) : subLaw (a ++ b) 0 n = a := by
  unfold subLaw; rw [List.drop_zero, List.take_append_of_le_length (by omega), List.take_of_length_le (by omega)]
noncomputable def sm12c (args : List AVal) (T : Tab) (zs : List Int) (g : Nat) (off : Nat) (n : Nat) (cp : Option Nat) (ow : Bool) : Res := ⟨[.tab T [some ⟨.ints .u8 zs, g, ow, 5⟩], .val (.tuple args) (.tuple [.slice 1 0 g off n cp]), .leN (off + n) zs.length, .leN n 140737488355300], .slice 1 1 2 0 n none, [some ⟨.ints .u8 zs, g, ow, 5⟩, some ⟨.ints .u8 (subLaw zs off n ++ [201, 202]), 2, true, 5⟩]⟩
theorem sm12c_ok {args : List AVal} {T : Tab} {zs : List Int} {g : Nat} {off : Nat} {n : Nat} {cp : Option Nat} {ow : Bool} (h : allP (sm12c args T zs g off n cp ow).cs) : Small prog glS 12 args T (sm12c args T zs g off n cp ow).val (sm12c args T zs g off n cp ow).tab := by
  obtain ⟨hT, hv, h1, h2, _⟩ := h
  simp only [Con.h] at hT hv h1 h2
  injection hv with hv
  subst hT hv
  refine small_gc [0, 1] (small_of (R := R12 zs g off n cp ow) eS0_ok hmS (f := 12) (fn := f12) (by kernel_rfl) (by kernel_rfl) FnOrc.nil rfl (R12_ok ?_) R12_val R12_tab) rfl rfl rfl ?_
  · simp only [allP, Con.h, addO_eq, dropO_eq, List.nil_append, List.length_take, List.length_drop, List.length_append, List.length_cons, List.length_nil, eq_self, true_and, and_true]
    omega
  · have e : List.take n (subLaw zs off n) = subLaw zs off n := List.take_of_length_le (by rw [subLaw_len h1]; exact Nat.le_refl _)
    rw [dropO_eq, List.nil_append, show List.take n (List.take n (List.drop off zs)) = subLaw zs off n from e]
    rfl
noncomputable def sm12 : Summary := fun args T => sm12c args T (xsAt T 0) (gAt T 0) (offOf (vAt args 0)) (lenOf (vAt args 0)) (capOf (vAt args 0)) (owAt T 0)
theorem sm12_ok : SmOk prog glS 12 sm12 := fun args T h => sm12c_ok h
def lentLaw (xs ys : List Int) : Prop := xs = ys ++ [201, 202]
noncomputable def sm15c (args : List AVal) (T : Tab) (xs : List Int) (zs : List Int) (g0 : Nat) (g1 : Nat) (o0 : Bool) (o1 : Bool) (n : Nat) (off : Nat) (cp : Option Nat) (n1 : Nat) : Res := ⟨[.tab T [some ⟨.ints .u8 xs, g0, o0, 5⟩, some ⟨.ints .u8 zs, g1, o1, 5⟩], .val (.tuple args) (.tuple [.slice 1 0 g0 0 n none, .slice 1 1 g1 off n1 cp]), .eqN n1 n, .leN (off + n) zs.length, .leN n 140737488355300, .p (lentLaw xs (subLaw zs off n))], .bool true, [some ⟨.ints .u8 xs, g0, o0, 5⟩, some ⟨.ints .u8 zs, g1, o1, 5⟩]⟩
theorem sm15c_ok {args : List AVal} {T : Tab} {xs : List Int} {zs : List Int} {g0 : Nat} {g1 : Nat} {o0 : Bool} {o1 : Bool} {n : Nat} {off : Nat} {cp : Option Nat} {n1 : Nat} (h : allP (sm15c args T xs zs g0 g1 o0 o1 n off cp n1).cs) : Small prog glS 15 args T (sm15c args T xs zs g0 g1 o0 o1 n off cp n1).val (sm15c args T xs zs g0 g1 o0 o1 n off cp n1).tab := by
  obtain ⟨hT, hv, h1, h2, h3, h4, _⟩ := h
  simp only [Con.h] at hT hv h1 h2 h3 h4
  injection hv with hv
  subst hT hv
  subst h1
  have hl := subLaw_len h2
  have h4 : xs = subLaw zs off n1 ++ [201, 202] := h4
  subst h4
  refine small_of (R := R15 _ zs g0 g1 n1 off cp o0 o1) eS0_ok hmS (f := 15) (fn := f15) (by kernel_rfl) (by kernel_rfl) FnOrc.nil rfl (R15_ok ?_) R15_val R15_tab
  have e2 : List.take n1 (subLaw zs off n1 ++ [201, 202]) = subLaw zs off n1 := by rw [List.take_append_of_le_length (by omega), List.take_of_length_le (by omega)]
  have e5 : List.take n1 (List.drop off zs) = subLaw zs off n1 := rfl
  have e3 : (subLaw zs off n1 ++ [201, 202]).getD n1 0 = 201 := by
    rw [List.getD_eq_getElem?_getD, List.getElem?_append_right (by omega), hl]; simp
  have e4 : (subLaw zs off n1 ++ [201, 202]).getD (n1 + 1) 0 = 202 := by
    rw [List.getD_eq_getElem?_getD, List.getElem?_append_right (by omega), hl]; simp
  simp only [allP, Con.h, addO_eq, dropO_eq, e2, e3, e4, e5, hl, beq_self_eq_true, List.length_append, List.length_cons, List.length_nil, eq_self, true_and, and_true, Nat.zero_add]
  omega
noncomputable def sm15 : Summary := fun args T => sm15c args T (xsAt T 0) (xsAt T 1) (gAt T 0) (gAt T 1) (owAt T 0) (owAt T 1) (lenOf (vAt args 0)) (offOf (vAt args 1)) (capOf (vAt args 1)) (lenOf (vAt args 1))
theorem sm15_ok : SmOk prog glS 15 sm15 := fun args T h => sm15c_ok h
noncomputable def sm16 : Summary := fun args T => match args, T with
  | [], [] => ⟨[], .bool true, []⟩
  | _, _ => fail
theorem sm16_ok : SmOk prog glS 16 sm16 := by
  intro args T hc
  unfold sm16 at hc ⊢
  split at hc
  · refine small_drop (small_of (R := R16) eK0_ok hmS (f := 16) (fn := f16) (by kernel_rfl) (by kernel_rfl) FnOrc.nil rfl (R16_ok ?_) R16_val R16_tab)
    have hb : BsLaw [97, 98, 99] := .cons (by decide) (.cons (by decide) (.cons (by decide) .nil))
    have hc : capLaw 3 (some 3) := capLaw_some (Nat.le_refl 3)
    simp only [allP, Con.h, hb, hc, eq_self, true_and, and_true]
  · exact absurd hc nofail
noncomputable def S12 : Summary := callR sm12 []
theorem S12_ok : SumOk prog glS 12 S12 := callR_ok sm12_ok []
noncomputable def S15 : Summary := callR sm15 []
theorem S15_ok : SumOk prog glS 15 S15 := callR_ok sm15_ok []
noncomputable def S16 : Summary := callR sm16 []
theorem S16_ok : SumOk prog glS 16 S16 := callR_ok sm16_ok []
noncomputable def eL3 : Env := eS0 [(12, S12), (13, S13), (14, S14), (15, S15), (16, S16)]
theorem eL3_ok : EnvOk eL3 := envOf_ok tysS_ok (SumsOk.cons (fn := f12) S12_ok (by kernel_rfl) (by kernel_rfl) (by kernel_rfl) (SumsOk.cons (fn := f13) S13_ok (by kernel_rfl) (by kernel_rfl) (by kernel_rfl) (SumsOk.cons (fn := f14) S14_ok (by kernel_rfl) (by kernel_rfl) (by kernel_rfl) (SumsOk.cons (fn := f15) S15_ok (by kernel_rfl) (by kernel_rfl) (by kernel_rfl) (SumsOk.cons (fn := f16) S16_ok (by kernel_rfl) (by kernel_rfl) (by kernel_rfl) trivial)))))
noncomputable def eL4 : Env := eS0 [(12, S12), (17, S17), (18, S18), (15, S15), (16, S16)]
theorem eL4_ok : EnvOk eL4 := envOf_ok tysS_ok (SumsOk.cons (fn := f12) S12_ok (by kernel_rfl) (by kernel_rfl) (by kernel_rfl) (SumsOk.cons (fn := f17) S17_ok (by kernel_rfl) (by kernel_rfl) (by kernel_rfl) (SumsOk.cons (fn := f18) S18_ok (by kernel_rfl) (by kernel_rfl) (by kernel_rfl) (SumsOk.cons (fn := f15) S15_ok (by kernel_rfl) (by kernel_rfl) (by kernel_rfl) (SumsOk.cons (fn := f16) S16_ok (by kernel_rfl) (by kernel_rfl) (by kernel_rfl) trivial)))))
noncomputable def R3 (zs : List Int) (n : Nat) : Res := runF eL3 f3 [] 400 [.slice 1 0 0 0 n (some zs.length)] [some ⟨.ints .u8 zs, 0, false, 5⟩] [some true, some true, some true, some true, some true]
theorem R3_ok {zs : List Int} {n : Nat} (h : allP [.leN (0 + n) zs.length, .leN n 140737488355300, .leN (0 + n) (subLaw zs 0 n ++ [201, 202]).length, .leN n 140737488355000, .p (BsLaw (subLaw zs 0 n ++ [201, 202])), .p (capLaw n none), .leN (0 + n) zs.length, .leN n 140737488355000, .p (BsLaw zs), .p ((List.map byteOf (List.take 32 (sum32Law (subLaw (subLaw zs 0 n ++ [201, 202]) 0 n))) == List.map
 byteOf (List.take 32 (sum32Law (subLaw zs 0 n)))) = true), .eqN n n, .leN (0 + n) zs.length, .leN n 140737488355300, .p (lentLaw (subLaw zs 0 n ++ [201, 202]) (subLaw zs 0 n)), .p (true = true), .p (true = true)]) : OkR (R3 zs n) := OkR.dem (fl := bitsF 42 3625173057) (by kernel_rfl) (by kernel_rfl) (by kernel_rfl) h
theorem R3_val {zs : List Int} {n : Nat} : (R3 zs n).val = .bool true := by kernel_rfl
theorem R3_tab {zs : List Int} {n : Nat} : (R3 zs n).tab = [some ⟨.ints .u8 zs, 0, false, 5⟩, some ⟨.ints .u8 (subLaw zs 0 n ++ [201, 202]), 2, true, 5⟩, some ⟨.ints .u8 (sum32Law (subLaw (subLaw zs 0 n ++ [201, 202]) 0 n)), 31, true, 5⟩, some ⟨.ints .u8 (sum32Law (subLaw zs 0 n)), 32, true, 5⟩] := by kernel_rfl
noncomputable def R4 (zs : List Int) (n : Nat) : Res := runF eL4 f4 [] 400 [.slice 1 0 0 0 n (some zs.length)] [some ⟨.ints .u8 zs, 0, false, 5⟩] [some true, some true, some true, some true, some true]
theorem R4_ok {zs : List Int} {n : Nat} (h : allP [.leN (0 + n) zs.length, .leN n 140737488355300, .leN (0 + n) (subLaw zs 0 n ++ [201, 202]).length, .leN n 140737488355000, .p (BsLaw (subLaw zs 0 n ++ [201, 202])), .p (capLaw n none), .leN (0 + n) zs.length, .leN n 140737488355000, .p (BsLaw zs), .p ((List.map byteOf (List.take 64 (sum64Law (subLaw (subLaw zs 0 n ++ [201, 202]) 0 n))) == List.map
 byteOf (List.take 64 (sum64Law (subLaw zs 0 n)))) = true), .eqN n n, .leN (0 + n) zs.length, .leN n 140737488355300, .p (lentLaw (subLaw zs 0 n ++ [201, 202]) (subLaw zs 0 n)), .p (true = true), .p (true = true)]) : OkR (R4 zs n) := OkR.dem (fl := bitsF 42 3625173057) (by kernel_rfl) (by kernel_rfl) (by kernel_rfl) h
theorem R4_val {zs : List Int} {n : Nat} : (R4 zs n).val = .bool true := by kernel_rfl
theorem R4_tab {zs : List Int} {n : Nat} : (R4 zs n).tab = [some ⟨.ints .u8 zs, 0, false, 5⟩, some ⟨.ints .u8 (subLaw zs 0 n ++ [201, 202]), 2, true, 5⟩, some ⟨.ints .u8 (sum64Law (subLaw (subLaw zs 0 n ++ [201, 202]) 0 n)), 63, true, 5⟩, some ⟨.ints .u8 (sum64Law (subLaw zs 0 n)), 64, true, 5⟩] := by kernel_rfl
theorem law3 {zs : List Int} {n : Nat} (hn : n ≤ zs.length) (hz : ∀ z ∈ zs, 0 ≤ z ∧ z < 256) (hm : zs.length ≤ 140737488351232) :
    Small prog glS 3 [.slice 1 0 0 0 n (some zs.length)] [some ⟨.ints .u8 zs, 0, false, 5⟩] (.bool true) (R3 zs n).tab := by
  refine small_of (R := R3 zs n) eL3_ok hmS (f := 3) (fn := f3) (by kernel_rfl) (by kernel_rfl) FnOrc.nil rfl (R3_ok ?_) R3_val rfl
  have hl : (subLaw zs 0 n).length = n := subLaw_len (by omega)
  have hb : BsLaw zs := fun i => by
    rcases Nat.lt_or_ge i zs.length with h | h
    · rw [List.getD_eq_getElem?_getD, List.getElem?_eq_getElem h]; exact hz _ (List.getElem_mem h)
    · rw [List.getD_eq_getElem?_getD, List.getElem?_eq_none h]; exact ⟨by decide, by decide⟩
  have hb2 : BsLaw (subLaw zs 0 n ++ [201, 202]) := (hb.sub 0 n).append (.cons (by decide) (.cons (by decide) .nil))
  have e1 : subLaw (subLaw zs 0 n ++ [201, 202]) 0 n = subLaw zs 0 n := sub_front hl
  have hq : lentLaw (subLaw zs 0 n ++ [201, 202]) (subLaw zs 0 n) := rfl
  have hcn := capLaw_none n
  simp only [allP, Con.h, e1, hl, hb, hb2, hq, hcn, beq_self_eq_true, List.length_append, List.length_cons, List.length_nil, eq_self, true_and, and_true, Nat.zero_add]
  omega
theorem law4 {zs : List Int} {n : Nat} (hn : n ≤ zs.length) (hz : ∀ z ∈ zs, 0 ≤ z ∧ z < 256) (hm : zs.length ≤ 140737488351232) :
    Small prog glS 4 [.slice 1 0 0 0 n (some zs.length)] [some ⟨.ints .u8 zs, 0, false, 5⟩] (.bool true) (R4 zs n).tab := by
  refine small_of (R := R4 zs n) eL4_ok hmS (f := 4) (fn := f4) (by kernel_rfl) (by kernel_rfl) FnOrc.nil rfl (R4_ok ?_) R4_val rfl
  have hl : (subLaw zs 0 n).length = n := subLaw_len (by omega)
  have hb : BsLaw zs := fun i => by
    rcases Nat.lt_or_ge i zs.length with h | h
    · rw [List.getD_eq_getElem?_getD, List.getElem?_eq_getElem h]; exact hz _ (List.getElem_mem h)
    · rw [List.getD_eq_getElem?_getD, List.getElem?_eq_none h]; exact ⟨by decide, by decide⟩
  have hb2 : BsLaw (subLaw zs 0 n ++ [201, 202]) := (hb.sub 0 n).append (.cons (by decide) (.cons (by decide) .nil))
  have e1 : subLaw (subLaw zs 0 n ++ [201, 202]) 0 n = subLaw zs 0 n := sub_front hl
  have hq : lentLaw (subLaw zs 0 n ++ [201, 202]) (subLaw zs 0 n) := rfl
  have hcn := capLaw_none n
  simp only [allP, Con.h, e1, hl, hb, hb2, hq, hcn, beq_self_eq_true, List.length_append, List.length_cons, List.length_nil, eq_self, true_and, and_true, Nat.zero_add]
  omega
end Go.Abs
