/- What functions of the given program come to, by the abstract machine: one text of a proof. -/
import Derived.Test.YtmhfelkcibfigaaCB4
set_option linter.unusedVariables false
set_option linter.unusedSimpArgs false
set_option maxRecDepth 8000
namespace Go.Abs
open Go.Proofs.Try
def subLaw (zs : List Int) (off n : Nat) : List Int := (zs.drop off).take n
theorem subLaw_len {zs : List Int} {off n : Nat} (h : off + n ≤ zs.length) : (subLaw zs off n).length = n := by simp [subLaw]; omega
def vecLaw (bs : List Int) : List Int := if bs.length ≤ 65536 then lenLaw bs.length ++ bs else []
def vecErrLaw (n : Nat) : Int := if n ≤ 65536 then 0 else 6
def val20Law (zs : List Int) (off n : Nat) : AVal := .tuple [.slice 1 2 (if n ≤ 65536 then 1 else 0) 0 (vecLaw (subLaw zs off n)).length none, .int .i64 (vecErrLaw n)]
def val21Law (zs : List Int) (off n : Nat) : AVal := .tuple [.slice 1 1 (if n ≤ 65536 then (lenLaw n).length - 1 + 1 else 0) 0 (vecLaw (subLaw zs off n)).length none, .int .i64 (vecErrLaw n)]
def sm20 : Summary := fun args T => match args, T with
  | [.slice 1 0 g off n cp], [some ⟨.ints .u8 zs, g', ow, 5⟩] => ⟨[.eqN g g', .leN (off + n) zs.length], val20Law zs off n, [some ⟨.ints .u8 zs, g', ow, 5⟩, some ⟨.agg [.slice 1 0 g off n cp], 0, true, 23⟩, some ⟨.ints .u8 (vecLaw (subLaw zs off n)), if n ≤ 65536 then 1 else 0, true, 5⟩]⟩
  | _, _ => fail
theorem sm20_ok : SmOk prog (fun _ => none) 20 sm20 := by
  intro args T hc
  unfold sm20 at hc ⊢
  split at hc
  · rename_i g off n cp zs g' ow
    obtain ⟨h1, h2, _⟩ := hc
    simp only [Con.h] at h1 h2
    subst h1
    have hl := subLaw_len h2
    have hL := lenLaw_len n
    simp only
    unfold val20Law vecErrLaw vecLaw
    rw [hl]
    by_cases h : n ≤ 65536
    · simp only [if_pos h]
      refine small_of (R := R20t zs g off n cp ow) eC8t_ok hmC (f := 20) (fn := f20) (by kernel_rfl) (by kernel_rfl) FnOrc.nil rfl (R20t_ok ?_) ?_ ?_
      · simp only [allP, Con.h, addO_eq, List.nil_append, List.length_take, decide_eq_false_iff_not, eq_self, true_and, and_true]
        omega
      · rw [R20t_val, addO_eq, List.length_append, hl]
      · rw [R20t_tab, dropO_eq, List.nil_append, List.take_of_length_le (Nat.le_refl _), List.take_of_length_le (Nat.le_refl _)]
        rfl
    · simp only [if_neg h]
      exact small_nil2 .u8 5 (.inr rfl) (small_of (R := R20f zs g off n cp ow) eC8f_ok hmC (f := 20) (fn := f20) (by kernel_rfl) (by kernel_rfl) FnOrc.nil rfl (R20f_ok (by simp [allP, Con.h]; omega)) R20f_val R20f_tab) (by simp)
  · exact absurd hc nofail
def S20c : Summary := callR sm20 []
theorem S20c_ok : SumOk prog (fun _ => none) 20 S20c := callR_ok sm20_ok []
def sm21 : Summary := fun args T => match args, T with
  | [.slice 1 0 g off n cp], [some ⟨.ints .u8 zs, g', ow, 5⟩] => ⟨[.eqN g g', .leN (off + n) zs.length], val21Law zs off n, [some ⟨.ints .u8 zs, g', ow, 5⟩, some ⟨.ints .u8 (vecLaw (subLaw zs off n)), if n ≤ 65536 then (lenLaw n).length - 1 + 1 else 0, true, 5⟩]⟩
  | _, _ => fail
theorem sm21_ok : SmOk prog (fun _ => none) 21 sm21 := by
  intro args T hc
  unfold sm21 at hc ⊢
  split at hc
  · rename_i g off n cp zs g' ow
    obtain ⟨h1, h2, _⟩ := hc
    simp only [Con.h] at h1 h2
    subst h1
    have hl := subLaw_len h2
    have hL := lenLaw_len n
    simp only
    unfold val21Law vecErrLaw vecLaw
    rw [hl]
    by_cases h : n ≤ 65536
    · simp only [if_pos h]
      refine small_of (R := R21t zs g off n cp ow) eC9_ok hmC (f := 21) (fn := f21) (by kernel_rfl) (by kernel_rfl) FnOrc.nil rfl (R21t_ok ?_) ?_ ?_
      · simp only [allP, Con.h, addO_eq, List.nil_append, List.length_take, decide_eq_false_iff_not, eq_self, true_and, and_true]
        omega
      · rw [R21t_val, addO_eq, List.length_append, hl]
      · rw [R21t_tab, dropO_eq, List.take_of_length_le (Nat.le_refl _)]
        rfl
    · simp only [if_neg h]
      exact small_nil2 .u8 5 (.inr rfl) (small_of (R := R21f zs g off n cp ow) eC9_ok hmC (f := 21) (fn := f21) (by kernel_rfl) (by kernel_rfl) FnOrc.nil rfl (R21f_ok (by simp [allP, Con.h]; omega)) R21f_val R21f_tab) (by simp)
  · exact absurd hc nofail
def S21c : Summary := callR sm21 []
theorem S21c_ok : SumOk prog (fun _ => none) 21 S21c := callR_ok sm21_ok []
/-! ### Lent and Stays -/
noncomputable def R15 (zs : List Int) (g off n : Nat) (cp : Option Nat) (ow : Bool) : Res := runF (eC0 []) f15 [] 100 [.slice 1 0 g off n cp] [some ⟨.ints .u8 zs, g, ow, 5⟩] []
theorem R15_ok {zs : List Int} {g off n : Nat} {cp : Option Nat} {ow : Bool} (h : allP [Con.leN n 140737488355328, Con.eqN g g, Con.leN (off + n) zs.length,
    Con.leN (0 + n) ([] ++ List.take n (dropO off zs)).length, Con.leN (addO n 2) 140737488355328, Con.eqN g g,
    Con.leI 0 (↑n : Int), Con.leN 0 n,
    Con.orN n (addO n 2) (0 + n) (List.take n ([] ++ List.take n (dropO off zs)) ++ [201, 202]).length]) : OkR (R15 zs g off n cp ow) := OkR.dem (fl := [true, true, true, false, false, false, true, true, true, true, true, true, true, false, false, true, true, true,
    false, false, true, false, false]) (by kernel_rfl) (by kernel_rfl) (by kernel_rfl) h
theorem R15_val {zs : List Int} {g off n : Nat} {cp : Option Nat} {ow : Bool} : (R15 zs g off n cp ow).val = AVal.slice 1 1 2 0 n none := by kernel_rfl
theorem R15_tab {zs : List Int} {g off n : Nat} {cp : Option Nat} {ow : Bool} : (R15 zs g off n cp ow).tab = [some { data := AVal.ints IntKind.u8 zs, g := g, own := ow, et := 5 },
    some
      { data := AVal.ints IntKind.u8 (List.take n ([] ++ List.take n (dropO off zs)) ++ [201, 202]), g := 2,
        own := true, et := 5 },
    some { data := AVal.ints IntKind.u8 [201, 202], g := 0, own := true, et := 5 }] := by kernel_rfl
def sm15 : Summary := fun args T => match args, T with
  | [.slice 1 0 g off n cp], [some ⟨.ints .u8 zs, g', ow, 5⟩] => ⟨[.eqN g g', .leN (off + n) zs.length, .leN n 140737488355300], .slice 1 1 2 0 n none, [some ⟨.ints .u8 zs, g', ow, 5⟩, some ⟨.ints .u8 (subLaw zs off n ++ [201, 202]), 2, true, 5⟩, some ⟨.ints .u8 [201, 202], 0, true, 5⟩]⟩
  | _, _ => fail
theorem sm15_ok : SmOk prog (fun _ => none) 15 sm15 := by
  intro args T hc
  unfold sm15 at hc ⊢
  split at hc
  · rename_i g off n cp zs g' ow
    obtain ⟨h1, h2, h3, _⟩ := hc
    simp only [Con.h] at h1 h2 h3
    subst h1
    refine small_of (R := R15 zs g off n cp ow) eC0_ok hmC (f := 15) (fn := f15) (by kernel_rfl) (by kernel_rfl) FnOrc.nil rfl (R15_ok ?_) R15_val ?_
    · simp only [allP, Con.h, addO_eq, dropO_eq, List.nil_append, List.length_take, List.length_drop, List.length_append, List.length_cons, List.length_nil, eq_self, true_and, and_true]
      omega
    · rw [R15_tab, dropO_eq, List.nil_append, List.take_of_length_le (by simp; omega)]
      rfl
  · exact absurd hc nofail
def S15 : Summary := callR sm15 []
theorem S15_ok : SumOk prog (fun _ => none) 15 S15 := callR_ok sm15_ok []
noncomputable def S22 : Summary := sumI modeO (eC0 []) f22 [] 100 [some true, some true, some true] []
theorem S22_ok : SumOk prog (fun _ => none) 22 S22 := sumI_ok eC0_ok hmC (fn := f22) (by kernel_rfl) (by kernel_rfl) [] FnOrc.nil 100 [some true, some true, some true] []
noncomputable def eC10 : Env := eC0 [(12, S12), (13, S13), (15, S15), (16, S16), (17, S17), (18, S18c), (19, S19c), (20, S20c), (21, S21c), (22, S22)]
theorem eC10_ok : EnvOk eC10 := envOf_ok tysC_ok (SumsOk.cons (fn := f12) S12_ok (by kernel_rfl) (by kernel_rfl) (by kernel_rfl) (SumsOk.cons (fn := f13) S13_ok (by kernel_rfl) (by kernel_rfl) (by kernel_rfl) (SumsOk.cons (fn := f15) S15_ok (by kernel_rfl) (by kernel_rfl) (by kernel_rfl)
  (SumsOk.cons (fn := f16) S16_ok (by kernel_rfl) (by kernel_rfl) (by kernel_rfl) (SumsOk.cons (fn := f17) S17_ok (by kernel_rfl) (by kernel_rfl) (by kernel_rfl) (SumsOk.cons (fn := f18) S18c_ok (by kernel_rfl) (by kernel_rfl) (by kernel_rfl) (SumsOk.cons (fn := f19) S19c_ok (by kernel_rfl) (by kernel_rfl) (by kernel_rfl)
  (SumsOk.cons (fn := f20) S20c_ok (by kernel_rfl) (by kernel_rfl) (by kernel_rfl) (SumsOk.cons (fn := f21) S21c_ok (by kernel_rfl) (by kernel_rfl) (by kernel_rfl) (SumsOk.cons (fn := f22) S22_ok (by kernel_rfl) (by kernel_rfl) (by kernel_rfl) trivial))))))))))
noncomputable def R6 (a b : Int) (zs : List Int) (n : Nat) : Res := runF eC10 f6 [] 400 [.int .i64 a, .int .i64 b, .slice 1 0 0 0 n (some zs.length)] [some ⟨.ints .u8 zs, 0, false, 5⟩] [some true, some true, some true, some true, some true, some true, some true, some true, some true, some true]
theorem R6_ok {a b : Int} {zs : List Int} {n : Nat} (h : allP [Con.leN (0 + n) zs.length, Con.leN n 140737488355300, Con.leN (0 + n) (subLaw zs 0 n ++ [201, 202]).length,
    Con.leN (0 + n) zs.length, Con.leN (0 + (numLaw a b).length) (numLaw a b).length,
    Con.eqN ((numLaw a b).length - 1) ((numLaw a b).length - 1), Con.leN (0 + (numLaw a b).length) (numLaw a b).length,
    Con.p
      ((List.map byteOf (List.take (numLaw a b).length (numLaw a b)) ==
          List.map byteOf (List.take (numLaw a b).length (numLaw a b))) =
        true),
    Con.p ((numErrLaw a b == numErrLaw a b) = true), Con.leN (0 + (lenLaw a).length) (lenLaw a).length,
    Con.eqN ((lenLaw a).length - 1) ((lenLaw a).length - 1), Con.leN (0 + (lenLaw a).length) (lenLaw a).length,
    Con.p
      ((List.map byteOf (List.take (lenLaw a).length (lenLaw a)) ==
          List.map byteOf (List.take (lenLaw a).length (lenLaw a))) =
        true),
    Con.p ((lenErrLaw a == lenErrLaw a) = true), Con.eqN (if n ≤ 65536 then 1 else 0) (if n ≤ 65536 then 1 else 0),
    Con.leN (0 + (vecLaw (subLaw (subLaw zs 0 n ++ [201, 202]) 0 n)).length)
      (vecLaw (subLaw (subLaw zs 0 n ++ [201, 202]) 0 n)).length,
    Con.eqN (if n ≤ 65536 then (lenLaw (↑n : Int)).length - 1 + 1 else 0)
      (if n ≤ 65536 then (lenLaw (↑n : Int)).length - 1 + 1 else 0),
    Con.leN (0 + (vecLaw (subLaw zs 0 n)).length) (vecLaw (subLaw zs 0 n)).length,
    Con.p
      ((List.map byteOf
            (List.take (vecLaw (subLaw (subLaw zs 0 n ++ [201, 202]) 0 n)).length
              (vecLaw (subLaw (subLaw zs 0 n ++ [201, 202]) 0 n))) ==
          List.map byteOf (List.take (vecLaw (subLaw zs 0 n)).length (vecLaw (subLaw zs 0 n)))) =
        true),
    Con.p ((vecErrLaw n == vecErrLaw n) = true), Con.rng (-9223372036854775808) ((↑n : Int) + 2) 9223372036854775807,
    Con.leI 0 ((↑n : Int) + 2), Con.leN 0 (n + 2), Con.orN (n + 2) n (0 + (n + 2)) (subLaw zs 0 n ++ [201, 202]).length,
    Con.leI 0 (↑n : Int), Con.leN 0 n, Con.orN n (n + 2) (0 + n) (subLaw zs 0 n ++ [201, 202]).length,
    Con.leN (0 + n) (subLaw zs 0 n ++ [201, 202]).length, Con.leN (0 + n) zs.length,
    Con.p ((List.map byteOf (List.take n (subLaw zs 0 n ++ [201, 202])) == List.map byteOf (List.take n zs)) = true),
    Con.leI 0 (↑n : Int), Con.leI ((↑n : Int) + 1) (↑(n + 2) : Int),
    Con.leN (n + 1) (subLaw zs 0 n ++ [201, 202]).length,
    Con.p (((subLaw zs 0 n ++ [201, 202]).getD n 0 == 201) = true),
    Con.rng (-9223372036854775808) ((↑n : Int) + 1) 9223372036854775807, Con.leI 0 ((↑n : Int) + 1),
    Con.leI ((↑n : Int) + 1 + 1) (↑(n + 2) : Int), Con.leN (n + 1 + 1) (subLaw zs 0 n ++ [201, 202]).length,
    Con.p (((subLaw zs 0 n ++ [201, 202]).getD (n + 1) 0 == 202) = true), Con.p (true = true), Con.p (true = true)]) : OkR (R6 a b zs n) := OkR.dem (fl := [true, true, false, false, true, true, false, true, true, false, true, false, false, false, false, false, true, false,
    false, false, false, false, false, false, false, false, false, false, true, true, true, false, false, true, false,
    false, false, true, false, true, false, false, true, false, true, false, false, true, true, false, false, true,
    false, false, true, false, true, false, false, true, false, false, false, false]) (by kernel_rfl) (by kernel_rfl) (by kernel_rfl) h
theorem R6_val {a b : Int} {zs : List Int} {n : Nat} : (R6 a b zs n).val = AVal.bool true := by kernel_rfl
theorem R6_tab {a b : Int} {zs : List Int} {n : Nat} : (R6 a b zs n).tab = [some { data := AVal.ints IntKind.u8 zs, g := 0, own := false, et := 5 },
    some { data := AVal.ints IntKind.u8 (subLaw zs 0 n ++ [201, 202]), g := 2, own := true, et := 5 },
    some { data := AVal.ints IntKind.u8 (numLaw a b), g := 0, own := true, et := 5 },
    some { data := AVal.ints IntKind.u8 (numLaw a b), g := (numLaw a b).length - 1, own := true, et := 5 },
    some { data := AVal.ints IntKind.u8 (lenLaw a), g := 0, own := true, et := 5 },
    some { data := AVal.ints IntKind.u8 (lenLaw a), g := (lenLaw a).length - 1, own := true, et := 5 },
    some
      { data := AVal.ints IntKind.u8 (vecLaw (subLaw (subLaw zs 0 n ++ [201, 202]) 0 n)),
        g := if n ≤ 65536 then 1 else 0, own := true, et := 5 },
    some
      { data := AVal.ints IntKind.u8 (vecLaw (subLaw zs 0 n)),
        g := if n ≤ 65536 then (lenLaw (↑n : Int)).length - 1 + 1 else 0, own := true, et := 5 }] := by kernel_rfl
theorem law6 {a b : Int} {zs : List Int} {n : Nat} (hn : n ≤ zs.length) (hz : zs.length ≤ 140737488351232) : Small prog (fun _ => none) 6 [.int .i64 a, .int .i64 b, .slice 1 0 0 0 n (some zs.length)] [some ⟨.ints .u8 zs, 0, false, 5⟩] (.bool true) (R6 a b zs n).tab := by
  refine small_of (R := R6 a b zs n) eC10_ok hmC (f := 6) (fn := f6) (by kernel_rfl) (by kernel_rfl) FnOrc.nil rfl (R6_ok ?_) R6_val rfl
  have hl : (subLaw zs 0 n).length = n := subLaw_len (by omega)
  have e2 : List.take n (subLaw zs 0 n ++ [201, 202]) = List.take n zs := by
    rw [List.take_append_of_le_length (by omega), List.take_of_length_le (by omega)]
    simp [subLaw]
  have e1 : subLaw (subLaw zs 0 n ++ [201, 202]) 0 n = subLaw zs 0 n := by
    rw [subLaw, List.drop_zero, e2]
    simp [subLaw]
  have e3 : (subLaw zs 0 n ++ [201, 202]).getD n 0 = 201 := by
    rw [List.getD_eq_getElem?_getD, List.getElem?_append_right (by omega), hl]; simp
  have e4 : (subLaw zs 0 n ++ [201, 202]).getD (n + 1) 0 = 202 := by
    rw [List.getD_eq_getElem?_getD, List.getElem?_append_right (by omega), hl]; simp
  simp only [allP, Con.h, e1, e2, e3, e4, hl, beq_self_eq_true, List.length_append, List.length_cons, List.length_nil, eq_self, true_and, and_true, Nat.zero_add]
  omega
end Go.Abs
