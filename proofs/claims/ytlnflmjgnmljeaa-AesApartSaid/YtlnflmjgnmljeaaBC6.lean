/- What functions of the given program come to, by the abstract machine: one text of a proof. -/
import Derived.Test.YtlnflmjgnmljeaaBC5
set_option linter.unusedVariables false
set_option linter.unusedSimpArgs false
set_option maxRecDepth 8000
namespace Go.Abs
open Go.Proofs.Try
noncomputable def orc23 : OrcL := [(0, blkS 5 [6,7,8,9] g23)]
theorem orc23_ok : FnOrc eP f23 orc23 := FnOrc.cons g23_ok (by kernel_rfl) FnOrc.nil
noncomputable def orc25 : OrcL := [(0, blkS 5 [6,7,8,9] g25)]
theorem orc25_ok : FnOrc eQ f25 orc25 := FnOrc.cons g25_ok (by kernel_rfl) FnOrc.nil
theorem ne16i {n : Nat} (h : n ≠ 16) : (((n : Int) != 16) = true) := ne16 h
theorem eq16i : (((16 : Nat) : Int) != 16) = false := rfl
def smNot2 : Summary := fun args T => match args, T with
  | [.slice 1 0 g0 0 n0 cp0, .slice 1 1 g1 0 n1 cp1], [some ⟨.ints .u8 zs, g0', ow0, 5⟩, some ⟨.ints .u8 bs, g1', ow1, e1⟩] =>
    ⟨[.eqN g0 g0', .eqN g1 g1', .p (n0 ≠ 16 ∨ n1 ≠ 16)], .tuple [.nilSlice, .int .i64 1], [some ⟨.ints .u8 zs, g0', ow0, 5⟩, some ⟨.ints .u8 bs, g1', ow1, e1⟩]⟩
  | _, _ => fail
def SNot2 : Summary := callR smNot2 []
noncomputable def R23 (zs bs : List Int) (g0 g1 e1 : Nat) (cp0 cp1 : Option Nat) (ow0 ow1 : Bool) : Res := resG 2 [0,1,4] (runF eP f23 orc23 400 [.slice 1 0 g0 0 16 cp0, .slice 1 1 g1 0 16 cp1] [some ⟨.ints .u8 zs, g0, ow0, 5⟩, some ⟨.ints .u8 bs, g1, ow1, e1⟩] [])
theorem R23_ok {zs bs : List Int} {g0 g1 e1 : Nat} {cp0 cp1 : Option Nat} {ow0 ow1 : Bool} (h : allP [Con.eqN g0 g0, Con.eqN g1 g1, Con.eqN g0 g0, Con.eqN g0 g0, Con.leN 16 zs.length, Con.p (TABLaw = TABLaw),
    Con.p (Bytes (subLaw zs 0 16)), Con.eqN (ksLaw (subLaw zs 0 16) 176).length 176, Con.eqN g1 g1, Con.eqN g1 g1,
    Con.leN 16 bs.length, Con.leN 16 (ksLaw (subLaw zs 0 16) 176).length, Con.eqN (List.take 16 bs).length 16,
    Con.eqN (List.take 16 (ksLaw (subLaw zs 0 16) 176)).length 16, Con.p (Bytes (List.take 16 bs)),
    Con.p (Bytes (List.take 16 (ksLaw (subLaw zs 0 16) 176))), Con.p (TABLaw = TABLaw),
    Con.eqN (ksLaw (subLaw zs 0 16) 176).length 176, Con.p (Bytes (ksLaw (subLaw zs 0 16) 176)),
    Con.p (Bytes (subLaw bs 0 16)),
    Con.p
      (plusLaw (List.take 16 bs) (List.take 16 (ksLaw (subLaw zs 0 16) 176)) =
        encLaw (ksLaw (subLaw zs 0 16) 176) (subLaw bs 0 16) 0)]) : OkR (R23 zs bs g0 g1 e1 cp0 cp1 ow0 ow1) := OkR.dem (fl := [false, false, true, false, true, false, false, false, false, true, false, true, true, false, false, true, true, false,
    false, true, true, true, true, false, false, false, false, false, false, false, false, false, true, true, true,
    true, false, true, false, false, false, false, false, true, true, true, true]) (by kernel_rfl) (by kernel_rfl) (by kernel_rfl) h
theorem R23_val {zs bs : List Int} {g0 g1 e1 : Nat} {cp0 cp1 : Option Nat} {ow0 ow1 : Bool} : (R23 zs bs g0 g1 e1 cp0 cp1 ow0 ow1).val = AVal.tuple [AVal.slice 1 2 0 0 16 (some 16), AVal.int IntKind.i64 0] := by kernel_rfl
theorem R23_tab {zs bs : List Int} {g0 g1 e1 : Nat} {cp0 cp1 : Option Nat} {ow0 ow1 : Bool} : (R23 zs bs g0 g1 e1 cp0 cp1 ow0 ow1).tab = [some { data := AVal.ints IntKind.u8 zs, g := g0, own := ow0, et := 5 },
    some { data := AVal.ints IntKind.u8 bs, g := g1, own := ow1, et := e1 },
    some
      { data := AVal.ints IntKind.u8 (blockLaw (ksLaw (subLaw zs 0 16) 176) (subLaw bs 0 16)), g := 0, own := true,
        et := 48 }] := by kernel_rfl
noncomputable def R23a (n0 n1 : Nat) (zs bs : List Int) (g0 g1 e1 : Nat) (cp0 cp1 : Option Nat) (ow0 ow1 : Bool) : Res := runF eP f23 orc23 400 [.slice 1 0 g0 0 n0 cp0, .slice 1 1 g1 0 n1 cp1] [some ⟨.ints .u8 zs, g0, ow0, 5⟩, some ⟨.ints .u8 bs, g1, ow1, e1⟩] [some true]
theorem R23a_ok {n0 n1 : Nat} {zs bs : List Int} {g0 g1 e1 : Nat} {cp0 cp1 : Option Nat} {ow0 ow1 : Bool} (h : allP [Con.eqN g0 g0, Con.p (((↑n0 : Int) != 16) = true)]) : OkR (R23a n0 n1 zs bs g0 g1 e1 cp0 cp1 ow0 ow1) := OkR.dem (fl := [false, false]) (by kernel_rfl) (by kernel_rfl) (by kernel_rfl) h
theorem R23a_val {n0 n1 : Nat} {zs bs : List Int} {g0 g1 e1 : Nat} {cp0 cp1 : Option Nat} {ow0 ow1 : Bool} : (R23a n0 n1 zs bs g0 g1 e1 cp0 cp1 ow0 ow1).val = AVal.tuple [AVal.nilSlice, AVal.int IntKind.i64 1] := by kernel_rfl
theorem R23a_tab {n0 n1 : Nat} {zs bs : List Int} {g0 g1 e1 : Nat} {cp0 cp1 : Option Nat} {ow0 ow1 : Bool} : (R23a n0 n1 zs bs g0 g1 e1 cp0 cp1 ow0 ow1).tab = [some { data := AVal.ints IntKind.u8 zs, g := g0, own := ow0, et := 5 },
    some { data := AVal.ints IntKind.u8 bs, g := g1, own := ow1, et := e1 }] := by kernel_rfl
noncomputable def R23b (n0 n1 : Nat) (zs bs : List Int) (g0 g1 e1 : Nat) (cp0 cp1 : Option Nat) (ow0 ow1 : Bool) : Res := runF eP f23 orc23 400 [.slice 1 0 g0 0 n0 cp0, .slice 1 1 g1 0 n1 cp1] [some ⟨.ints .u8 zs, g0, ow0, 5⟩, some ⟨.ints .u8 bs, g1, ow1, e1⟩] [some false, some true]
theorem R23b_ok {n0 n1 : Nat} {zs bs : List Int} {g0 g1 e1 : Nat} {cp0 cp1 : Option Nat} {ow0 ow1 : Bool} (h : allP [Con.eqN g0 g0, Con.p (((↑n0 : Int) != 16) = false), Con.eqN g1 g1, Con.p (((↑n1 : Int) != 16) = true)]) : OkR (R23b n0 n1 zs bs g0 g1 e1 cp0 cp1 ow0 ow1) := OkR.dem (fl := [false, false, false, false]) (by kernel_rfl) (by kernel_rfl) (by kernel_rfl) h
theorem R23b_val {n0 n1 : Nat} {zs bs : List Int} {g0 g1 e1 : Nat} {cp0 cp1 : Option Nat} {ow0 ow1 : Bool} : (R23b n0 n1 zs bs g0 g1 e1 cp0 cp1 ow0 ow1).val = AVal.tuple [AVal.nilSlice, AVal.int IntKind.i64 1] := by kernel_rfl
theorem R23b_tab {n0 n1 : Nat} {zs bs : List Int} {g0 g1 e1 : Nat} {cp0 cp1 : Option Nat} {ow0 ow1 : Bool} : (R23b n0 n1 zs bs g0 g1 e1 cp0 cp1 ow0 ow1).tab = [some { data := AVal.ints IntKind.u8 zs, g := g0, own := ow0, et := 5 },
    some { data := AVal.ints IntKind.u8 bs, g := g1, own := ow1, et := e1 }] := by kernel_rfl
theorem smNot2_23 : SmOk prog (fun _ => none) 23 smNot2 := by
  intro args T hc
  unfold smNot2 at hc ⊢
  split at hc
  · rename_i g0 n0 cp0 g1 n1 cp1 zs g0' ow0 bs g1' ow1 e1
    obtain ⟨h1, h2, h3, _⟩ := hc
    simp only [Con.h] at h1 h2 h3
    subst h1 h2
    by_cases h : n0 = 16
    · subst h
      have h3 := h3.resolve_left (fun h => h rfl)
      refine small_of (R := R23b 16 n1 zs bs g0 g1 e1 cp0 cp1 ow0 ow1) eP_ok hmA (f := 23) (fn := f23) (by kernel_rfl) (by kernel_rfl) orc23_ok rfl (R23b_ok ?_) R23b_val R23b_tab
      simp only [allP, Con.h, eq16i, ne16 h3, eq_self, and_true, true_and]
    · refine small_of (R := R23a n0 n1 zs bs g0 g1 e1 cp0 cp1 ow0 ow1) eP_ok hmA (f := 23) (fn := f23) (by kernel_rfl) (by kernel_rfl) orc23_ok rfl (R23a_ok ?_) R23a_val R23a_tab
      simp only [allP, Con.h, ne16 h, eq_self, and_true, true_and]
  · exact absurd hc nofail
theorem SNot2_23 : SumOk prog (fun _ => none) 23 SNot2 := callR_ok smNot2_23 []
noncomputable def R25 (zs bs : List Int) (g0 g1 e1 : Nat) (cp0 cp1 : Option Nat) (ow0 ow1 : Bool) : Res := resG 2 [0,1,4] (runF eQ f25 orc25 400 [.slice 1 0 g0 0 16 cp0, .slice 1 1 g1 0 16 cp1] [some ⟨.ints .u8 zs, g0, ow0, 5⟩, some ⟨.ints .u8 bs, g1, ow1, e1⟩] [])
theorem R25_ok {zs bs : List Int} {g0 g1 e1 : Nat} {cp0 cp1 : Option Nat} {ow0 ow1 : Bool} (h : allP [Con.eqN g0 g0, Con.eqN g1 g1, Con.eqN g0 g0, Con.eqN g0 g0, Con.leN 16 zs.length, Con.p (TABLaw = TABLaw),
    Con.p (Bytes (subLaw zs 0 16)), Con.eqN (ksLaw (subLaw zs 0 16) 176).length 176, Con.eqN g1 g1, Con.eqN g1 g1,
    Con.leN 16 bs.length, Con.eqN (List.take 16 bs).length 16, Con.p (TABLaw = TABLaw),
    Con.eqN (ksLaw (subLaw zs 0 16) 176).length 176, Con.p (Bytes (ksLaw (subLaw zs 0 16) 176)),
    Con.eqN (List.take 16 bs).length 16, Con.p (Bytes (List.take 16 bs)),
    Con.leN 16 (ksLaw (subLaw zs 0 16) 176).length, Con.eqN (List.take 16 (ksLaw (subLaw zs 0 16) 176)).length 16,
    Con.p (Bytes (decLaw (ksLaw (subLaw zs 0 16) 176) (List.take 16 bs) 10)),
    Con.p (Bytes (List.take 16 (ksLaw (subLaw zs 0 16) 176)))]) : OkR (R25 zs bs g0 g1 e1 cp0 cp1 ow0 ow1) := OkR.dem (fl := [false, false, true, false, true, false, false, false, false, true, false, true, true, false, true, true, false, false,
    true, false, true, true, true, false, false, false, false, false, true, true, true, true, true, true, false, true,
    false, false, false, true, true, true, true, true, true, true, true]) (by kernel_rfl) (by kernel_rfl) (by kernel_rfl) h
theorem R25_val {zs bs : List Int} {g0 g1 e1 : Nat} {cp0 cp1 : Option Nat} {ow0 ow1 : Bool} : (R25 zs bs g0 g1 e1 cp0 cp1 ow0 ow1).val = AVal.tuple [AVal.slice 1 2 0 0 16 (some 16), AVal.int IntKind.i64 0] := by kernel_rfl
theorem R25_tab {zs bs : List Int} {g0 g1 e1 : Nat} {cp0 cp1 : Option Nat} {ow0 ow1 : Bool} : (R25 zs bs g0 g1 e1 cp0 cp1 ow0 ow1).tab = [some { data := AVal.ints IntKind.u8 zs, g := g0, own := ow0, et := 5 },
    some { data := AVal.ints IntKind.u8 bs, g := g1, own := ow1, et := e1 },
    some
      {
        data :=
          AVal.ints IntKind.u8
            (plusLaw (decLaw (ksLaw (subLaw zs 0 16) 176) (List.take 16 bs) 10)
              (List.take 16 (ksLaw (subLaw zs 0 16) 176))),
        g := 0, own := true, et := 48 }] := by kernel_rfl
noncomputable def R25a (n0 n1 : Nat) (zs bs : List Int) (g0 g1 e1 : Nat) (cp0 cp1 : Option Nat) (ow0 ow1 : Bool) : Res := runF eQ f25 orc25 400 [.slice 1 0 g0 0 n0 cp0, .slice 1 1 g1 0 n1 cp1] [some ⟨.ints .u8 zs, g0, ow0, 5⟩, some ⟨.ints .u8 bs, g1, ow1, e1⟩] [some true]
theorem R25a_ok {n0 n1 : Nat} {zs bs : List Int} {g0 g1 e1 : Nat} {cp0 cp1 : Option Nat} {ow0 ow1 : Bool} (h : allP [Con.eqN g0 g0, Con.p (((↑n0 : Int) != 16) = true)]) : OkR (R25a n0 n1 zs bs g0 g1 e1 cp0 cp1 ow0 ow1) := OkR.dem (fl := [false, false]) (by kernel_rfl) (by kernel_rfl) (by kernel_rfl) h
theorem R25a_val {n0 n1 : Nat} {zs bs : List Int} {g0 g1 e1 : Nat} {cp0 cp1 : Option Nat} {ow0 ow1 : Bool} : (R25a n0 n1 zs bs g0 g1 e1 cp0 cp1 ow0 ow1).val = AVal.tuple [AVal.nilSlice, AVal.int IntKind.i64 1] := by kernel_rfl
theorem R25a_tab {n0 n1 : Nat} {zs bs : List Int} {g0 g1 e1 : Nat} {cp0 cp1 : Option Nat} {ow0 ow1 : Bool} : (R25a n0 n1 zs bs g0 g1 e1 cp0 cp1 ow0 ow1).tab = [some { data := AVal.ints IntKind.u8 zs, g := g0, own := ow0, et := 5 },
    some { data := AVal.ints IntKind.u8 bs, g := g1, own := ow1, et := e1 }] := by kernel_rfl
noncomputable def R25b (n0 n1 : Nat) (zs bs : List Int) (g0 g1 e1 : Nat) (cp0 cp1 : Option Nat) (ow0 ow1 : Bool) : Res := runF eQ f25 orc25 400 [.slice 1 0 g0 0 n0 cp0, .slice 1 1 g1 0 n1 cp1] [some ⟨.ints .u8 zs, g0, ow0, 5⟩, some ⟨.ints .u8 bs, g1, ow1, e1⟩] [some false, some true]
theorem R25b_ok {n0 n1 : Nat} {zs bs : List Int} {g0 g1 e1 : Nat} {cp0 cp1 : Option Nat} {ow0 ow1 : Bool} (h : allP [Con.eqN g0 g0, Con.p (((↑n0 : Int) != 16) = false), Con.eqN g1 g1, Con.p (((↑n1 : Int) != 16) = true)]) : OkR (R25b n0 n1 zs bs g0 g1 e1 cp0 cp1 ow0 ow1) := OkR.dem (fl := [false, false, false, false]) (by kernel_rfl) (by kernel_rfl) (by kernel_rfl) h
theorem R25b_val {n0 n1 : Nat} {zs bs : List Int} {g0 g1 e1 : Nat} {cp0 cp1 : Option Nat} {ow0 ow1 : Bool} : (R25b n0 n1 zs bs g0 g1 e1 cp0 cp1 ow0 ow1).val = AVal.tuple [AVal.nilSlice, AVal.int IntKind.i64 1] := by kernel_rfl
theorem R25b_tab {n0 n1 : Nat} {zs bs : List Int} {g0 g1 e1 : Nat} {cp0 cp1 : Option Nat} {ow0 ow1 : Bool} : (R25b n0 n1 zs bs g0 g1 e1 cp0 cp1 ow0 ow1).tab = [some { data := AVal.ints IntKind.u8 zs, g := g0, own := ow0, et := 5 },
    some { data := AVal.ints IntKind.u8 bs, g := g1, own := ow1, et := e1 }] := by kernel_rfl
theorem smNot2_25 : SmOk prog (fun _ => none) 25 smNot2 := by
  intro args T hc
  unfold smNot2 at hc ⊢
  split at hc
  · rename_i g0 n0 cp0 g1 n1 cp1 zs g0' ow0 bs g1' ow1 e1
    obtain ⟨h1, h2, h3, _⟩ := hc
    simp only [Con.h] at h1 h2 h3
    subst h1 h2
    by_cases h : n0 = 16
    · subst h
      have h3 := h3.resolve_left (fun h => h rfl)
      refine small_of (R := R25b 16 n1 zs bs g0 g1 e1 cp0 cp1 ow0 ow1) eQ_ok hmA (f := 25) (fn := f25) (by kernel_rfl) (by kernel_rfl) orc25_ok rfl (R25b_ok ?_) R25b_val R25b_tab
      simp only [allP, Con.h, eq16i, ne16 h3, eq_self, and_true, true_and]
    · refine small_of (R := R25a n0 n1 zs bs g0 g1 e1 cp0 cp1 ow0 ow1) eQ_ok hmA (f := 25) (fn := f25) (by kernel_rfl) (by kernel_rfl) orc25_ok rfl (R25a_ok ?_) R25a_val R25a_tab
      simp only [allP, Con.h, ne16 h, eq_self, and_true, true_and]
  · exact absurd hc nofail
theorem SNot2_25 : SumOk prog (fun _ => none) 25 SNot2 := callR_ok smNot2_25 []
noncomputable def R24a (n0 n1 : Nat) (zs bs : List Int) (g0 g1 e1 : Nat) (cp0 cp1 : Option Nat) (ow0 ow1 : Bool) : Res := runF (eA []) f24 [] 400 [.slice 1 0 g0 0 n0 cp0, .slice 1 1 g1 0 n1 cp1] [some ⟨.ints .u8 zs, g0, ow0, 5⟩, some ⟨.ints .u8 bs, g1, ow1, e1⟩] [some true]
theorem R24a_ok {n0 n1 : Nat} {zs bs : List Int} {g0 g1 e1 : Nat} {cp0 cp1 : Option Nat} {ow0 ow1 : Bool} (h : allP [Con.eqN g0 g0, Con.p (((↑n0 : Int) != 16) = true)]) : OkR (R24a n0 n1 zs bs g0 g1 e1 cp0 cp1 ow0 ow1) := OkR.dem (fl := [false, false]) (by kernel_rfl) (by kernel_rfl) (by kernel_rfl) h
theorem R24a_val {n0 n1 : Nat} {zs bs : List Int} {g0 g1 e1 : Nat} {cp0 cp1 : Option Nat} {ow0 ow1 : Bool} : (R24a n0 n1 zs bs g0 g1 e1 cp0 cp1 ow0 ow1).val = AVal.tuple [AVal.nilSlice, AVal.int IntKind.i64 1] := by kernel_rfl
theorem R24a_tab {n0 n1 : Nat} {zs bs : List Int} {g0 g1 e1 : Nat} {cp0 cp1 : Option Nat} {ow0 ow1 : Bool} : (R24a n0 n1 zs bs g0 g1 e1 cp0 cp1 ow0 ow1).tab = [some { data := AVal.ints IntKind.u8 zs, g := g0, own := ow0, et := 5 },
    some { data := AVal.ints IntKind.u8 bs, g := g1, own := ow1, et := e1 }] := by kernel_rfl
noncomputable def R24b (n0 n1 : Nat) (zs bs : List Int) (g0 g1 e1 : Nat) (cp0 cp1 : Option Nat) (ow0 ow1 : Bool) : Res := runF (eA []) f24 [] 400 [.slice 1 0 g0 0 n0 cp0, .slice 1 1 g1 0 n1 cp1] [some ⟨.ints .u8 zs, g0, ow0, 5⟩, some ⟨.ints .u8 bs, g1, ow1, e1⟩] [some false, some true]
theorem R24b_ok {n0 n1 : Nat} {zs bs : List Int} {g0 g1 e1 : Nat} {cp0 cp1 : Option Nat} {ow0 ow1 : Bool} (h : allP [Con.eqN g0 g0, Con.p (((↑n0 : Int) != 16) = false), Con.eqN g1 g1, Con.p (((↑n1 : Int) != 16) = true)]) : OkR (R24b n0 n1 zs bs g0 g1 e1 cp0 cp1 ow0 ow1) := OkR.dem (fl := [false, false, false, false]) (by kernel_rfl) (by kernel_rfl) (by kernel_rfl) h
theorem R24b_val {n0 n1 : Nat} {zs bs : List Int} {g0 g1 e1 : Nat} {cp0 cp1 : Option Nat} {ow0 ow1 : Bool} : (R24b n0 n1 zs bs g0 g1 e1 cp0 cp1 ow0 ow1).val = AVal.tuple [AVal.nilSlice, AVal.int IntKind.i64 1] := by kernel_rfl
theorem R24b_tab {n0 n1 : Nat} {zs bs : List Int} {g0 g1 e1 : Nat} {cp0 cp1 : Option Nat} {ow0 ow1 : Bool} : (R24b n0 n1 zs bs g0 g1 e1 cp0 cp1 ow0 ow1).tab = [some { data := AVal.ints IntKind.u8 zs, g := g0, own := ow0, et := 5 },
    some { data := AVal.ints IntKind.u8 bs, g := g1, own := ow1, et := e1 }] := by kernel_rfl
theorem smNot2_24 : SmOk prog (fun _ => none) 24 smNot2 := by
  intro args T hc
  unfold smNot2 at hc ⊢
  split at hc
  · rename_i g0 n0 cp0 g1 n1 cp1 zs g0' ow0 bs g1' ow1 e1
    obtain ⟨h1, h2, h3, _⟩ := hc
    simp only [Con.h] at h1 h2 h3
    subst h1 h2
    by_cases h : n0 = 16
    · subst h
      have h3 := h3.resolve_left (fun h => h rfl)
      refine small_of (R := R24b 16 n1 zs bs g0 g1 e1 cp0 cp1 ow0 ow1) eA0_ok hmA (f := 24) (fn := f24) (by kernel_rfl) (by kernel_rfl) FnOrc.nil rfl (R24b_ok ?_) R24b_val R24b_tab
      simp only [allP, Con.h, eq16i, ne16 h3, eq_self, and_true, true_and]
    · refine small_of (R := R24a n0 n1 zs bs g0 g1 e1 cp0 cp1 ow0 ow1) eA0_ok hmA (f := 24) (fn := f24) (by kernel_rfl) (by kernel_rfl) FnOrc.nil rfl (R24a_ok ?_) R24a_val R24a_tab
      simp only [allP, Con.h, ne16 h, eq_self, and_true, true_and]
  · exact absurd hc nofail
theorem SNot2_24 : SumOk prog (fun _ => none) 24 SNot2 := callR_ok smNot2_24 []
noncomputable def R26a (n0 n1 : Nat) (zs bs : List Int) (g0 g1 e1 : Nat) (cp0 cp1 : Option Nat) (ow0 ow1 : Bool) : Res := runF (eA []) f26 [] 400 [.slice 1 0 g0 0 n0 cp0, .slice 1 1 g1 0 n1 cp1] [some ⟨.ints .u8 zs, g0, ow0, 5⟩, some ⟨.ints .u8 bs, g1, ow1, e1⟩] [some true]
theorem R26a_ok {n0 n1 : Nat} {zs bs : List Int} {g0 g1 e1 : Nat} {cp0 cp1 : Option Nat} {ow0 ow1 : Bool} (h : allP [Con.eqN g0 g0, Con.p (((↑n0 : Int) != 16) = true)]) : OkR (R26a n0 n1 zs bs g0 g1 e1 cp0 cp1 ow0 ow1) := OkR.dem (fl := [false, false]) (by kernel_rfl) (by kernel_rfl) (by kernel_rfl) h
theorem R26a_val {n0 n1 : Nat} {zs bs : List Int} {g0 g1 e1 : Nat} {cp0 cp1 : Option Nat} {ow0 ow1 : Bool} : (R26a n0 n1 zs bs g0 g1 e1 cp0 cp1 ow0 ow1).val = AVal.tuple [AVal.nilSlice, AVal.int IntKind.i64 1] := by kernel_rfl
theorem R26a_tab {n0 n1 : Nat} {zs bs : List Int} {g0 g1 e1 : Nat} {cp0 cp1 : Option Nat} {ow0 ow1 : Bool} : (R26a n0 n1 zs bs g0 g1 e1 cp0 cp1 ow0 ow1).tab = [some { data := AVal.ints IntKind.u8 zs, g := g0, own := ow0, et := 5 },
    some { data := AVal.ints IntKind.u8 bs, g := g1, own := ow1, et := e1 }] := by kernel_rfl
noncomputable def R26b (n0 n1 : Nat) (zs bs : List Int) (g0 g1 e1 : Nat) (cp0 cp1 : Option Nat) (ow0 ow1 : Bool) : Res := runF (eA []) f26 [] 400 [.slice 1 0 g0 0 n0 cp0, .slice 1 1 g1 0 n1 cp1] [some ⟨.ints .u8 zs, g0, ow0, 5⟩, some ⟨.ints .u8 bs, g1, ow1, e1⟩] [some false, some true]
theorem R26b_ok {n0 n1 : Nat} {zs bs : List Int} {g0 g1 e1 : Nat} {cp0 cp1 : Option Nat} {ow0 ow1 : Bool} (h : allP [Con.eqN g0 g0, Con.p (((↑n0 : Int) != 16) = false), Con.eqN g1 g1, Con.p (((↑n1 : Int) != 16) = true)]) : OkR (R26b n0 n1 zs bs g0 g1 e1 cp0 cp1 ow0 ow1) := OkR.dem (fl := [false, false, false, false]) (by kernel_rfl) (by kernel_rfl) (by kernel_rfl) h
theorem R26b_val {n0 n1 : Nat} {zs bs : List Int} {g0 g1 e1 : Nat} {cp0 cp1 : Option Nat} {ow0 ow1 : Bool} : (R26b n0 n1 zs bs g0 g1 e1 cp0 cp1 ow0 ow1).val = AVal.tuple [AVal.nilSlice, AVal.int IntKind.i64 1] := by kernel_rfl
theorem R26b_tab {n0 n1 : Nat} {zs bs : List Int} {g0 g1 e1 : Nat} {cp0 cp1 : Option Nat} {ow0 ow1 : Bool} : (R26b n0 n1 zs bs g0 g1 e1 cp0 cp1 ow0 ow1).tab = [some { data := AVal.ints IntKind.u8 zs, g := g0, own := ow0, et := 5 },
    some { data := AVal.ints IntKind.u8 bs, g := g1, own := ow1, et := e1 }] := by kernel_rfl
theorem smNot2_26 : SmOk prog (fun _ => none) 26 smNot2 := by
  intro args T hc
  unfold smNot2 at hc ⊢
  split at hc
  · rename_i g0 n0 cp0 g1 n1 cp1 zs g0' ow0 bs g1' ow1 e1
    obtain ⟨h1, h2, h3, _⟩ := hc
    simp only [Con.h] at h1 h2 h3
    subst h1 h2
    by_cases h : n0 = 16
    · subst h
      have h3 := h3.resolve_left (fun h => h rfl)
      refine small_of (R := R26b 16 n1 zs bs g0 g1 e1 cp0 cp1 ow0 ow1) eA0_ok hmA (f := 26) (fn := f26) (by kernel_rfl) (by kernel_rfl) FnOrc.nil rfl (R26b_ok ?_) R26b_val R26b_tab
      simp only [allP, Con.h, eq16i, ne16 h3, eq_self, and_true, true_and]
    · refine small_of (R := R26a n0 n1 zs bs g0 g1 e1 cp0 cp1 ow0 ow1) eA0_ok hmA (f := 26) (fn := f26) (by kernel_rfl) (by kernel_rfl) FnOrc.nil rfl (R26a_ok ?_) R26a_val R26a_tab
      simp only [allP, Con.h, ne16 h, eq_self, and_true, true_and]
  · exact absurd hc nofail
theorem SNot2_26 : SumOk prog (fun _ => none) 26 SNot2 := callR_ok smNot2_26 []
def sm23 : Summary := fun args T => match args, T with
  | [.slice 1 0 g0 0 16 cp0, .slice 1 1 g1 0 16 cp1], [some ⟨.ints .u8 zs, g0', ow0, 5⟩, some ⟨.ints .u8 bs, g1', ow1, e1⟩] =>
    ⟨[.eqN g0 g0', .eqN g1 g1', .leN 16 zs.length, .leN 16 bs.length, .p (Bytes (subLaw zs 0 16)), .p (Bytes (subLaw bs 0 16))], .tuple [.slice 1 2 0 0 16 (some 16), .int .i64 0],
      [some ⟨.ints .u8 zs, g0', ow0, 5⟩, some ⟨.ints .u8 bs, g1', ow1, e1⟩, some ⟨.ints .u8 (blockLaw (ksLaw (subLaw zs 0 16) 176) (subLaw bs 0 16)), 0, true, 48⟩]⟩
  | _, _ => fail
theorem sm23_ok : SmOk prog (fun _ => none) 23 sm23 := by
  intro args T hc
  unfold sm23 at hc ⊢
  split at hc
  · rename_i g0 cp0 g1 cp1 zs g0' ow0 bs g1' ow1 e1
    obtain ⟨h1, h2, h3, h4, h5, h6, _⟩ := hc
    simp only [Con.h] at h1 h2 h3 h4 h5 h6
    subst h1 h2
    have hl := ksLaw_len (subLaw_len (zs := zs) (off := 0) (n := 16) (by omega)) (n := 176) (by decide)
    have hb := ksLaw_bytes h5 176
    have hs : (subLaw bs 0 16).length = 16 := subLaw_len (by omega)
    have e0 : ∀ l : List Int, List.take 16 l = subLaw l 0 16 := fun l => rfl
    refine small_ofG (keep := [0,1,4]) (R := R23 zs bs g0 g1 e1 cp0 cp1 ow0 ow1) eP_ok hmA (f := 23) (fn := f23) (by kernel_rfl) (by kernel_rfl) orc23_ok rfl (R23_ok ?_) R23_val R23_tab
    generalize ksLaw (subLaw zs 0 16) 176 = ks at hl hb ⊢
    have hsk : (subLaw ks 0 16).length = 16 := subLaw_len (by omega)
    have hbk := sub_bytes hb 0 16
    have hd := dec_bytes h6 (ks := ks) 10
    simp only [allP, Con.h, e0, hl, hb, hs, hsk, hbk, hd, h3, h4, h5, h6, eq_self, and_true, true_and]
    first | omega | exact ⟨by omega, rfl⟩ | rfl | trivial
  · exact absurd hc nofail
def S23 : Summary := callR sm23 []
theorem S23_ok : SumOk prog (fun _ => none) 23 S23 := callR_ok sm23_ok []
def sm25 : Summary := fun args T => match args, T with
  | [.slice 1 0 g0 0 16 cp0, .slice 1 1 g1 0 16 cp1], [some ⟨.ints .u8 zs, g0', ow0, 5⟩, some ⟨.ints .u8 bs, g1', ow1, e1⟩] =>
    ⟨[.eqN g0 g0', .eqN g1 g1', .leN 16 zs.length, .leN 16 bs.length, .p (Bytes (subLaw zs 0 16)), .p (Bytes (subLaw bs 0 16))], .tuple [.slice 1 2 0 0 16 (some 16), .int .i64 0],
      [some ⟨.ints .u8 zs, g0', ow0, 5⟩, some ⟨.ints .u8 bs, g1', ow1, e1⟩, some ⟨.ints .u8 (unblockLaw (ksLaw (subLaw zs 0 16) 176) (subLaw bs 0 16)), 0, true, 48⟩]⟩
  | _, _ => fail
theorem sm25_ok : SmOk prog (fun _ => none) 25 sm25 := by
  intro args T hc
  unfold sm25 at hc ⊢
  split at hc
  · rename_i g0 cp0 g1 cp1 zs g0' ow0 bs g1' ow1 e1
    obtain ⟨h1, h2, h3, h4, h5, h6, _⟩ := hc
    simp only [Con.h] at h1 h2 h3 h4 h5 h6
    subst h1 h2
    have hl := ksLaw_len (subLaw_len (zs := zs) (off := 0) (n := 16) (by omega)) (n := 176) (by decide)
    have hb := ksLaw_bytes h5 176
    have hs : (subLaw bs 0 16).length = 16 := subLaw_len (by omega)
    have e0 : ∀ l : List Int, List.take 16 l = subLaw l 0 16 := fun l => rfl
    refine small_ofG (keep := [0,1,4]) (R := R25 zs bs g0 g1 e1 cp0 cp1 ow0 ow1) eQ_ok hmA (f := 25) (fn := f25) (by kernel_rfl) (by kernel_rfl) orc25_ok rfl (R25_ok ?_) R25_val R25_tab
    generalize ksLaw (subLaw zs 0 16) 176 = ks at hl hb ⊢
    have hsk : (subLaw ks 0 16).length = 16 := subLaw_len (by omega)
    have hbk := sub_bytes hb 0 16
    have hd := dec_bytes h6 (ks := ks) 10
    simp only [allP, Con.h, e0, hl, hb, hs, hsk, hbk, hd, h3, h4, h5, h6, eq_self, and_true, true_and]
    first | omega | exact ⟨by omega, rfl⟩ | rfl | trivial
  · exact absurd hc nofail
def S25 : Summary := callR sm25 []
theorem S25_ok : SumOk prog (fun _ => none) 25 S25 := callR_ok sm25_ok []
end Go.Abs
