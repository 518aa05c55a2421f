/- What functions of the given program come to, by the abstract machine: one text of a proof. -/
import Derived.Test.YtlnflmjgnmljeaaBB6
import Derived.Test.YtlnflmjgnmljeaaBA5
set_option linter.unusedVariables false
set_option linter.unusedSimpArgs false
set_option maxRecDepth 8000
namespace Go.Abs
open Go.Proofs.Try
def sm20a : Summary := fun args T => match args, T with
  | [.slice 1 0 g off 16 cp], [some ⟨.ints .u8 zs, g', ow, 5⟩] =>
    ⟨[.eqN g g', .leN (off + 16) zs.length, .p (Bytes (subLaw zs off 16))], .tuple [.slice 1 2 161 0 176 none, .int .i64 0], [some ⟨.ints .u8 zs, g', ow, 5⟩, some ⟨.ints .u8 BOXLaw, 256, true, 5⟩, some ⟨.ints .u8 (ksLaw (subLaw zs off 16) 176), 161, true, 5⟩]⟩
  | _, _ => fail
theorem sm20a_ok : SmOk prog (fun _ => none) 20 sm20a := by
  intro args T hc
  unfold sm20a at hc ⊢
  split at hc
  · obtain ⟨h1, h2, h3, _⟩ := hc
    simp only [Con.h] at h1 h2 h3
    subst h1
    exact small_of (R := R20a _ _ _ _ _) eK_ok hmA (f := 20) (fn := f20) (by kernel_rfl) (by kernel_rfl) FnOrc.nil rfl (R20a_ok ⟨rfl, rfl, rfl, h2, rfl, h3, trivial⟩) R20a_val R20a_tab
  · exact absurd hc nofail
def S20a : Summary := callR sm20a []
theorem S20a_ok : SumOk prog (fun _ => none) 20 S20a := callR_ok sm20a_ok []
def smNot : Summary := fun args T => match args, T with
  | [.slice 1 0 g off n cp], [some ⟨.ints .u8 zs, g', ow, 5⟩] =>
    ⟨[.eqN g g', .p (n ≠ 16)], .tuple [.nilSlice, .int .i64 1], [some ⟨.ints .u8 zs, g', ow, 5⟩]⟩
  | _, _ => fail
theorem ne16 {n : Nat} (h : n ≠ 16) : ((n : Int) != 16) = true := by simp only [bne_iff_ne, ne_eq]; omega
theorem sm20b_ok : SmOk prog (fun _ => none) 20 smNot := by
  intro args T hc
  unfold smNot at hc ⊢
  split at hc
  · obtain ⟨h1, h2, _⟩ := hc
    simp only [Con.h] at h1 h2
    subst h1
    exact small_of (R := R20b _ _ _ _ _ _) eK_ok hmA (f := 20) (fn := f20) (by kernel_rfl) (by kernel_rfl) FnOrc.nil rfl (R20b_ok ⟨rfl, ne16 h2, trivial⟩) R20b_val R20b_tab
  · exact absurd hc nofail
def SNot : Summary := callR smNot []
theorem S20b_ok : SumOk prog (fun _ => none) 20 SNot := callR_ok sm20b_ok []
theorem sm19b_ok : SmOk prog (fun _ => none) 19 smNot := by
  intro args T hc
  unfold smNot at hc ⊢
  split at hc
  · obtain ⟨h1, h2, _⟩ := hc
    simp only [Con.h] at h1 h2
    subst h1
    exact small_of (R := R19b _ _ _ _ _ _) eI_ok hmA (f := 19) (fn := f19) (by kernel_rfl) (by kernel_rfl) orc19_ok rfl (R19b_ok ⟨rfl, ne16 h2, trivial⟩) R19b_val R19b_tab
  · exact absurd hc nofail
theorem S19b_ok : SumOk prog (fun _ => none) 19 SNot := callR_ok sm19b_ok []
def sm19a : Summary := fun args T => match args, T with
  | [.slice 1 0 g off 16 cp], [some ⟨.ints .u8 zs, g', ow, 5⟩] =>
    ⟨[.eqN g g', .leN (off + 16) zs.length, .p (Bytes (subLaw zs off 16))], .tuple [.slice 1 1 11 0 176 none, .int .i64 0], [some ⟨.ints .u8 zs, g', ow, 5⟩, some ⟨.ints .u8 (ksLaw (subLaw zs off 16) 176), 11, true, 5⟩]⟩
  | _, _ => fail
theorem sm19a_ok : SmOk prog (fun _ => none) 19 sm19a := by
  intro args T hc
  unfold sm19a at hc ⊢
  split at hc
  · obtain ⟨h1, h2, h3, _⟩ := hc
    simp only [Con.h] at h1 h2 h3
    subst h1
    exact small_of (R := R19a _ _ _ _ _) eI_ok hmA (f := 19) (fn := f19) (by kernel_rfl) (by kernel_rfl) orc19_ok rfl (R19a_ok ⟨rfl, rfl, rfl, h2, rfl, h3, ksLaw_len (subLaw_len h2) (by decide), trivial⟩) R19a_val R19a_tab
  · exact absurd hc nofail
def S19a : Summary := callR sm19a []
theorem S19a_ok : SumOk prog (fun _ => none) 19 S19a := callR_ok sm19a_ok []
/-! ### Lent and Stays -/
noncomputable def R18 (zs : List Int) (g off n : Nat) (cp : Option Nat) (ow : Bool) : Res := runF (eA []) f18 [] 100 [.slice 1 0 g off n cp] [some ⟨.ints .u8 zs, g, ow, 5⟩] []
theorem R18_ok {zs : List Int} {g off n : Nat} {cp : Option Nat} {ow : Bool} (h : allP [Con.leN n 140737488355328, Con.eqN g g, Con.leN (off + n) zs.length,
    Con.leN (0 + n) ([] ++ List.take n (dropO off zs)).length, Con.leN (addO n 2) 140737488355328, Con.eqN g g,
    Con.leI 0 (↑n : Int), Con.leN 0 n,
    Con.orN n (addO n 2) (0 + n) (List.take n ([] ++ List.take n (dropO off zs)) ++ [201, 202]).length]) : OkR (R18 zs g off n cp ow) := OkR.dem (fl := [true, true, true, false, false, false, true, true, true, true, true, true, true, false, false, true, true, true,
    false, false, true, false, false]) (by kernel_rfl) (by kernel_rfl) (by kernel_rfl) h
theorem R18_val {zs : List Int} {g off n : Nat} {cp : Option Nat} {ow : Bool} : (R18 zs g off n cp ow).val = AVal.slice 1 1 2 0 n none := by kernel_rfl
theorem R18_tab {zs : List Int} {g off n : Nat} {cp : Option Nat} {ow : Bool} : (R18 zs g off n cp ow).tab = [some { data := AVal.ints IntKind.u8 zs, g := g, own := ow, et := 5 },
    some
      { data := AVal.ints IntKind.u8 (List.take n ([] ++ List.take n (dropO off zs)) ++ [201, 202]), g := 2,
        own := true, et := 5 },
    some { data := AVal.ints IntKind.u8 [201, 202], g := 0, own := true, et := 5 }] := by kernel_rfl
def sm18 : Summary := fun args T => match args, T with
  | [.slice 1 0 g off n cp], [some ⟨.ints .u8 zs, g', ow, 5⟩] => ⟨[.eqN g g', .leN (off + n) zs.length, .leN n 140737488355300], .slice 1 1 2 0 n none, [some ⟨.ints .u8 zs, g', ow, 5⟩, some ⟨.ints .u8 (subLaw zs off n ++ [201, 202]), 2, true, 5⟩, some ⟨.ints .u8 [201, 202], 0, true, 5⟩]⟩
  | _, _ => fail
theorem sm18_ok : SmOk prog (fun _ => none) 18 sm18 := by
  intro args T hc
  unfold sm18 at hc ⊢
  split at hc
  · rename_i g off n cp zs g' ow
    obtain ⟨h1, h2, h3, _⟩ := hc
    simp only [Con.h] at h1 h2 h3
    subst h1
    refine small_of (R := R18 zs g off n cp ow) eA0_ok hmA (f := 18) (fn := f18) (by kernel_rfl) (by kernel_rfl) FnOrc.nil rfl (R18_ok ?_) R18_val ?_
    · simp only [allP, Con.h, addO_eq, dropO_eq, List.nil_append, List.length_take, List.length_drop, List.length_append, List.length_cons, List.length_nil, eq_self, true_and, and_true]
      omega
    · rw [R18_tab, dropO_eq, List.nil_append, List.take_of_length_le (by simp; omega)]
      rfl
  · exact absurd hc nofail
def S18 : Summary := callR sm18 []
theorem S18_ok : SumOk prog (fun _ => none) 18 S18 := callR_ok sm18_ok []
noncomputable def S22 : Summary := sumI modeO (eA []) f22 [] 100 [some true, some true, some true] []
theorem S22_ok : SumOk prog (fun _ => none) 22 S22 := sumI_ok eA0_ok hmA (fn := f22) (by kernel_rfl) (by kernel_rfl) [] FnOrc.nil 100 [some true, some true, some true] []
noncomputable def eLa : Env := eA [(17, S17), (18, S18), (19, S19a), (20, S20a), (21, S21), (22, S22)]
theorem eLa_ok : EnvOk eLa := envOf_ok tysA_ok (SumsOk.cons (fn := f17) S17_ok (by kernel_rfl) (by kernel_rfl) (by kernel_rfl) (SumsOk.cons (fn := f18) S18_ok (by kernel_rfl) (by kernel_rfl) (by kernel_rfl) (SumsOk.cons (fn := f19) S19a_ok (by kernel_rfl) (by kernel_rfl) (by kernel_rfl)
  (SumsOk.cons (fn := f20) S20a_ok (by kernel_rfl) (by kernel_rfl) (by kernel_rfl) (SumsOk.cons (fn := f21) S21_ok (by kernel_rfl) (by kernel_rfl) (by kernel_rfl) (SumsOk.cons (fn := f22) S22_ok (by kernel_rfl) (by kernel_rfl) (by kernel_rfl) trivial))))))
noncomputable def eLb : Env := eA [(17, S17), (18, S18), (19, SNot), (20, SNot), (21, S21), (22, S22)]
theorem eLb_ok : EnvOk eLb := envOf_ok tysA_ok (SumsOk.cons (fn := f17) S17_ok (by kernel_rfl) (by kernel_rfl) (by kernel_rfl) (SumsOk.cons (fn := f18) S18_ok (by kernel_rfl) (by kernel_rfl) (by kernel_rfl) (SumsOk.cons (fn := f19) S19b_ok (by kernel_rfl) (by kernel_rfl) (by kernel_rfl)
  (SumsOk.cons (fn := f20) S20b_ok (by kernel_rfl) (by kernel_rfl) (by kernel_rfl) (SumsOk.cons (fn := f21) S21_ok (by kernel_rfl) (by kernel_rfl) (by kernel_rfl) (SumsOk.cons (fn := f22) S22_ok (by kernel_rfl) (by kernel_rfl) (by kernel_rfl) trivial))))))
noncomputable def R4a (zs : List Int) : Res := runF eLa f4 [] 400 [.slice 1 0 0 0 16 (some zs.length)] [some ⟨.ints .u8 zs, 0, false, 5⟩] [some true, some true, some true, some true]
theorem R4a_ok {zs : List Int} (h : allP [Con.leN 16 zs.length, Con.leN 16 (subLaw zs 0 16 ++ [201, 202]).length,
    Con.p (Bytes (subLaw (subLaw zs 0 16 ++ [201, 202]) 0 16)), Con.leN 16 zs.length, Con.p (Bytes (subLaw zs 0 16)),
    Con.leN 176 (ksLaw (subLaw (subLaw zs 0 16 ++ [201, 202]) 0 16) 176).length,
    Con.leN 176 (ksLaw (subLaw zs 0 16) 176).length,
    Con.p
      ((List.map byteOf (List.take 176 (ksLaw (subLaw (subLaw zs 0 16 ++ [201, 202]) 0 16) 176)) ==
          List.map byteOf (List.take 176 (ksLaw (subLaw zs 0 16) 176))) =
        true),
    Con.p (true = true), Con.orN 18 16 18 (subLaw zs 0 16 ++ [201, 202]).length,
    Con.orN 16 18 16 (subLaw zs 0 16 ++ [201, 202]).length, Con.leN 16 (subLaw zs 0 16 ++ [201, 202]).length,
    Con.leN 16 zs.length,
    Con.p ((List.map byteOf (List.take 16 (subLaw zs 0 16 ++ [201, 202])) == List.map byteOf (List.take 16 zs)) = true),
    Con.leN 17 (subLaw zs 0 16 ++ [201, 202]).length, Con.p (((subLaw zs 0 16 ++ [201, 202]).getD 16 0 == 201) = true),
    Con.leN 18 (subLaw zs 0 16 ++ [201, 202]).length, Con.p (((subLaw zs 0 16 ++ [201, 202]).getD 17 0 == 202) = true),
    Con.p (true = true), Con.p (true = true)]) : OkR (R4a zs) := OkR.dem (fl := [true, true, false, true, true, true, false, false, true, true, false, false, true, false, true, false, false, false,
    true, true, true, true, true, true, true, false, false, true, true, true, true, false, true, false, true, false,
    false, true, true, true, true, true, false, false, true, true, true, true, true, true, false, false, false, false]) (by kernel_rfl) (by kernel_rfl) (by kernel_rfl) h
theorem R4a_val {zs : List Int} : (R4a zs).val = AVal.bool true := by kernel_rfl
theorem R4a_tab {zs : List Int} : (R4a zs).tab = [some { data := AVal.ints IntKind.u8 zs, g := 0, own := false, et := 5 },
    some { data := AVal.ints IntKind.u8 (subLaw zs 0 16 ++ [201, 202]), g := 2, own := true, et := 5 },
    some
      { data := AVal.ints IntKind.u8 (ksLaw (subLaw (subLaw zs 0 16 ++ [201, 202]) 0 16) 176), g := 11, own := true,
        et := 5 },
    some { data := AVal.ints IntKind.u8 (ksLaw (subLaw zs 0 16) 176), g := 161, own := true, et := 5 }] := by kernel_rfl
noncomputable def R4b (zs : List Int) (n : Nat) : Res := runF eLb f4 [] 400 [.slice 1 0 0 0 n (some zs.length)] [some ⟨.ints .u8 zs, 0, false, 5⟩] [some true, some true, some true, some true]
theorem R4b_ok {zs : List Int} {n : Nat} (h : allP [Con.leN (0 + n) zs.length, Con.leN n 140737488355300, Con.p (n ≠ 16), Con.p (n ≠ 16), Con.p (true = true),
    Con.p (true = true), Con.rng (-9223372036854775808) ((↑n : Int) + 2) 9223372036854775807,
    Con.leI 0 ((↑n : Int) + 2), Con.leN 0 (n + 2), Con.orN (n + 2) n (0 + (n + 2)) (subLaw zs 0 n ++ [201, 202]).length,
    Con.leI 0 (↑n : Int), Con.leN 0 n, Con.orN n (n + 2) (0 + n) (subLaw zs 0 n ++ [201, 202]).length,
    Con.leN (0 + n) (subLaw zs 0 n ++ [201, 202]).length, Con.leN (0 + n) zs.length,
    Con.p ((List.map byteOf (List.take n (subLaw zs 0 n ++ [201, 202])) == List.map byteOf (List.take n zs)) = true),
    Con.leI 0 (↑n : Int), Con.leI ((↑n : Int) + 1) (↑(n + 2) : Int),
    Con.leN (n + 1) (subLaw zs 0 n ++ [201, 202]).length,
    Con.p (((subLaw zs 0 n ++ [201, 202]).getD n 0 == 201) = true),
    Con.rng (-9223372036854775808) ((↑n : Int) + 1) 9223372036854775807, Con.leI 0 ((↑n : Int) + 1),
    Con.leI ((↑n : Int) + 1 + 1) (↑(n + 2) : Int), Con.leN (n + 1 + 1) (subLaw zs 0 n ++ [201, 202]).length,
    Con.p (((subLaw zs 0 n ++ [201, 202]).getD (n + 1) 0 == 202) = true), Con.p (true = true), Con.p (true = true)]) : OkR (R4b zs n) := OkR.dem (fl := [true, true, false, false, true, true, false, true, true, false, false, false, true, true, true, false, false, true,
    false, false, false, true, false, true, false, false, true, false, true, false, false, true, true, false, false,
    true, false, false, true, false, true, false, false, true, false, false, false, false]) (by kernel_rfl) (by kernel_rfl) (by kernel_rfl) h
theorem R4b_val {zs : List Int} {n : Nat} : (R4b zs n).val = AVal.bool true := by kernel_rfl
theorem R4b_tab {zs : List Int} {n : Nat} : (R4b zs n).tab = [some { data := AVal.ints IntKind.u8 zs, g := 0, own := false, et := 5 },
    some { data := AVal.ints IntKind.u8 (subLaw zs 0 n ++ [201, 202]), g := 2, own := true, et := 5 }] := by kernel_rfl
end Go.Abs
