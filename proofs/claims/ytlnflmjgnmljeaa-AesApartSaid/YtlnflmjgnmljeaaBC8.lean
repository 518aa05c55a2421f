/- What functions of the given program come to, by the abstract machine: one text of a proof. -/
import Derived.Test.YtlnflmjgnmljeaaBC7
import Derived.Test.YtlnflmjgnmljeaaBA5
set_option linter.unusedVariables false
set_option linter.unusedSimpArgs false
set_option maxRecDepth 8000
namespace Go.Abs
open Go.Proofs.Try
def sm24 : Summary := fun args T => match args, T with
  | [.slice 1 0 g0 0 16 cp0, .slice 1 1 g1 0 16 cp1], [some ⟨.ints .u8 zs, g0', ow0, 5⟩, some ⟨.ints .u8 bs, g1', ow1, 5⟩] =>
    ⟨[.eqN g0 g0', .eqN g1 g1', .leN 16 zs.length, .leN 16 bs.length, .p (Bytes (subLaw zs 0 16)), .p (Bytes bs)], .tuple [.slice 1 2 15 0 16 none, .int .i64 0],
      [some ⟨.ints .u8 zs, g0', ow0, 5⟩, some ⟨.ints .u8 bs, g1', ow1, 5⟩, some ⟨.ints .u8 (blockLaw (ksLaw (subLaw zs 0 16) 176) (subLaw bs 0 16)), 15, true, 5⟩]⟩
  | _, _ => fail
theorem sm24_ok : SmOk prog (fun _ => none) 24 sm24 := by
  intro args T hc
  unfold sm24 at hc ⊢
  split at hc
  · rename_i g0 cp0 g1 cp1 zs g0' ow0 bs g1' ow1
    obtain ⟨h1, h2, h3, h4, h5, h6, _⟩ := hc
    simp only [Con.h] at h1 h2 h3 h4 h5 h6
    subst h1 h2
    have hl := ksLaw_len (subLaw_len (zs := zs) (off := 0) (n := 16) (by omega)) (n := 176) (by decide)
    have hb := ksLaw_bytes h5 176
    have hs : (subLaw bs 0 16).length = 16 := subLaw_len (by omega)
    have hsb := sub_bytes h6 0 16
    have q0 : ∀ l : List Int, List.take 16 l = subLaw l 0 16 := fun l => rfl
    have q1 : ∀ l : List Int, [] ++ l = l := fun l => rfl
    refine small_ofG (keep := [0,1,4]) (R := R24 zs bs g0 g1 cp0 cp1 ow0 ow1) eR_ok hmA (f := 24) (fn := f24) (by kernel_rfl) (by kernel_rfl) orc24_ok rfl (R24_ok ?_) R24_val R24_tab
    generalize ksLaw (subLaw zs 0 16) 176 = ks at hl hb ⊢
    have hsk : (subLaw ks 0 16).length = 16 := subLaw_len (by omega)
    have hbk := sub_bytes hb 0 16
    have hd := dec_bytes hsb (ks := ks) 10
    have hdl := dec_len hs (ks := ks) 10
    simp only [allP, Con.h, q0, q1, hl, hb, hs, hsb, hsk, hbk, hd, hdl, h3, h4, h5, h6, eq_self, and_true, true_and]
    first | trivial | rfl | omega | exact ⟨rfl, by omega⟩ | exact ⟨by omega, rfl⟩
  · exact absurd hc nofail
def S24 : Summary := callR sm24 []
theorem S24_ok : SumOk prog (fun _ => none) 24 S24 := callR_ok sm24_ok []
def sm26 : Summary := fun args T => match args, T with
  | [.slice 1 0 g0 0 16 cp0, .slice 1 1 g1 0 16 cp1], [some ⟨.ints .u8 zs, g0', ow0, 5⟩, some ⟨.ints .u8 bs, g1', ow1, 5⟩] =>
    ⟨[.eqN g0 g0', .eqN g1 g1', .leN 16 zs.length, .leN 16 bs.length, .p (Bytes (subLaw zs 0 16)), .p (Bytes bs)], .tuple [.slice 1 2 15 0 16 none, .int .i64 0],
      [some ⟨.ints .u8 zs, g0', ow0, 5⟩, some ⟨.ints .u8 bs, g1', ow1, 5⟩, some ⟨.ints .u8 (unblockLaw (ksLaw (subLaw zs 0 16) 176) (subLaw bs 0 16)), 15, true, 5⟩]⟩
  | _, _ => fail
theorem sm26_ok : SmOk prog (fun _ => none) 26 sm26 := by
  intro args T hc
  unfold sm26 at hc ⊢
  split at hc
  · rename_i g0 cp0 g1 cp1 zs g0' ow0 bs g1' ow1
    obtain ⟨h1, h2, h3, h4, h5, h6, _⟩ := hc
    simp only [Con.h] at h1 h2 h3 h4 h5 h6
    subst h1 h2
    have hl := ksLaw_len (subLaw_len (zs := zs) (off := 0) (n := 16) (by omega)) (n := 176) (by decide)
    have hb := ksLaw_bytes h5 176
    have hs : (subLaw bs 0 16).length = 16 := subLaw_len (by omega)
    have hsb := sub_bytes h6 0 16
    have q0 : ∀ l : List Int, List.take 16 l = subLaw l 0 16 := fun l => rfl
    have q1 : ∀ l : List Int, [] ++ l = l := fun l => rfl
    refine small_ofG (keep := [0,1,6]) (R := R26 zs bs g0 g1 cp0 cp1 ow0 ow1) eR_ok hmA (f := 26) (fn := f26) (by kernel_rfl) (by kernel_rfl) orc26_ok rfl (R26_ok ?_) R26_val (by rw [R26_tab, q1, q0 bs, take_self (dec_len hs 10)]; rfl)
    generalize ksLaw (subLaw zs 0 16) 176 = ks at hl hb ⊢
    have hsk : (subLaw ks 0 16).length = 16 := subLaw_len (by omega)
    have hbk := sub_bytes hb 0 16
    have hd := dec_bytes hsb (ks := ks) 10
    have hdl := dec_len hs (ks := ks) 10
    simp only [allP, Con.h, q0, q1, hl, hb, hs, hsb, hsk, hbk, hd, hdl, h3, h4, h5, h6, eq_self, and_true, true_and]
    first | trivial | rfl | omega | exact ⟨rfl, by omega⟩ | exact ⟨by omega, rfl⟩
  · exact absurd hc nofail
def S26 : Summary := callR sm26 []
theorem S26_ok : SumOk prog (fun _ => none) 26 S26 := callR_ok sm26_ok []
noncomputable def eSa : Env := eA [(17, S17), (18, S18), (21, S21), (22, S22), (23, S23), (24, S24), (25, S25), (26, S26)]
theorem eSa_ok : EnvOk eSa := envOf_ok tysA_ok (SumsOk.cons (fn := f17) S17_ok (by kernel_rfl) (by kernel_rfl) (by kernel_rfl) (SumsOk.cons (fn := f18) S18_ok (by kernel_rfl) (by kernel_rfl) (by kernel_rfl) (SumsOk.cons (fn := f21) S21_ok (by kernel_rfl) (by kernel_rfl) (by kernel_rfl) (SumsOk.cons (fn := f22) S22_ok (by kernel_rfl) (by kernel_rfl) (by kernel_rfl) (SumsOk.cons (fn := f23) S23_ok (by kernel_rfl) (by kernel_rfl) (by kernel_rfl) (SumsOk.cons (fn := f24) S24_ok (by kernel_rfl) (by kernel_rfl) (by kernel_rfl) (SumsOk.cons (fn := f25) S25_ok (by kernel_rfl) (by kernel_rfl) (by kernel_rfl) (SumsOk.cons (fn := f26) S26_ok (by kernel_rfl) (by kernel_rfl) (by kernel_rfl) trivial))))))))
noncomputable def eSb : Env := eA [(17, S17), (18, S18), (21, S21), (22, S22), (23, SNot2), (24, SNot2), (25, SNot2), (26, SNot2)]
theorem eSb_ok : EnvOk eSb := envOf_ok tysA_ok (SumsOk.cons (fn := f17) S17_ok (by kernel_rfl) (by kernel_rfl) (by kernel_rfl) (SumsOk.cons (fn := f18) S18_ok (by kernel_rfl) (by kernel_rfl) (by kernel_rfl) (SumsOk.cons (fn := f21) S21_ok (by kernel_rfl) (by kernel_rfl) (by kernel_rfl) (SumsOk.cons (fn := f22) S22_ok (by kernel_rfl) (by kernel_rfl) (by kernel_rfl) (SumsOk.cons (fn := f23) SNot2_23 (by kernel_rfl) (by kernel_rfl) (by kernel_rfl) (SumsOk.cons (fn := f24) SNot2_24 (by kernel_rfl) (by kernel_rfl) (by kernel_rfl) (SumsOk.cons (fn := f25) SNot2_25 (by kernel_rfl) (by kernel_rfl) (by kernel_rfl) (SumsOk.cons (fn := f26) SNot2_26 (by kernel_rfl) (by kernel_rfl) (by kernel_rfl) trivial))))))))
noncomputable def R5a (zs bs : List Int) : Res := resG 2 [0,1] (runF eSa f5 [] 400 [.slice 1 0 0 0 16 (some zs.length), .slice 1 1 0 0 16 (some bs.length)] [some ⟨.ints .u8 zs, 0, false, 5⟩, some ⟨.ints .u8 bs, 0, false, 5⟩] [some true, some true, some true, some true, some true, some true, some true])
theorem R5a_ok {zs bs : List Int} (h : allP [Con.leN 16 zs.length, Con.leN 16 bs.length, Con.leN 16 (subLaw zs 0 16 ++ [201, 202]).length,
    Con.leN 16 (subLaw bs 0 16 ++ [201, 202]).length, Con.p (Bytes (subLaw (subLaw zs 0 16 ++ [201, 202]) 0 16)),
    Con.p (Bytes (subLaw (subLaw bs 0 16 ++ [201, 202]) 0 16)), Con.leN 16 zs.length, Con.leN 16 bs.length,
    Con.p (Bytes (subLaw zs 0 16)), Con.p (Bytes bs), Con.leN 16 (subLaw zs 0 16 ++ [201, 202]).length,
    Con.leN 16 (subLaw bs 0 16 ++ [201, 202]).length, Con.p (Bytes (subLaw (subLaw zs 0 16 ++ [201, 202]) 0 16)),
    Con.p (Bytes (subLaw (subLaw bs 0 16 ++ [201, 202]) 0 16)), Con.leN 16 zs.length, Con.leN 16 bs.length,
    Con.p (Bytes (subLaw zs 0 16)), Con.p (Bytes bs),
    Con.p
      ((List.map byteOf
            (List.take 16
              (blockLaw (ksLaw (subLaw (subLaw zs 0 16 ++ [201, 202]) 0 16) 176)
                (subLaw (subLaw bs 0 16 ++ [201, 202]) 0 16))) ==
          List.map byteOf (List.take 16 (blockLaw (ksLaw (subLaw zs 0 16) 176) (subLaw bs 0 16)))) =
        true),
    Con.p (true = true),
    Con.p
      ((List.map byteOf
            (List.take 16
              (unblockLaw (ksLaw (subLaw (subLaw zs 0 16 ++ [201, 202]) 0 16) 176)
                (subLaw (subLaw bs 0 16 ++ [201, 202]) 0 16))) ==
          List.map byteOf (List.take 16 (unblockLaw (ksLaw (subLaw zs 0 16) 176) (subLaw bs 0 16)))) =
        true),
    Con.p (true = true), Con.orN 18 16 18 (subLaw zs 0 16 ++ [201, 202]).length,
    Con.orN 16 18 16 (subLaw zs 0 16 ++ [201, 202]).length, Con.leN 16 (subLaw zs 0 16 ++ [201, 202]).length,
    Con.leN 16 zs.length,
    Con.p ((List.map byteOf (List.take 16 (subLaw zs 0 16 ++ [201, 202])) == List.map byteOf (List.take 16 zs)) = true),
    Con.leN 17 (subLaw zs 0 16 ++ [201, 202]).length, Con.p (((subLaw zs 0 16 ++ [201, 202]).getD 16 0 == 201) = true),
    Con.leN 18 (subLaw zs 0 16 ++ [201, 202]).length, Con.p (((subLaw zs 0 16 ++ [201, 202]).getD 17 0 == 202) = true),
    Con.p (true = true), Con.orN 18 16 18 (subLaw bs 0 16 ++ [201, 202]).length,
    Con.orN 16 18 16 (subLaw bs 0 16 ++ [201, 202]).length, Con.leN 16 (subLaw bs 0 16 ++ [201, 202]).length,
    Con.leN 16 bs.length,
    Con.p ((List.map byteOf (List.take 16 (subLaw bs 0 16 ++ [201, 202])) == List.map byteOf (List.take 16 bs)) = true),
    Con.leN 17 (subLaw bs 0 16 ++ [201, 202]).length, Con.p (((subLaw bs 0 16 ++ [201, 202]).getD 16 0 == 201) = true),
    Con.leN 18 (subLaw bs 0 16 ++ [201, 202]).length, Con.p (((subLaw bs 0 16 ++ [201, 202]).getD 17 0 == 202) = true),
    Con.p (true = true), Con.p (true = true)]) : OkR (R5a zs bs) := OkR.dem (fl := [true, true, false, true, true, true, false, true, true, true, true, true, false, false, false, false, true, true,
    true, true, false, false, false, false, true, true, true, true, false, false, false, false, true, true, true, true,
    false, false, false, false, true, true, true, true, false, false, true, true, true, true, false, false, true, true,
    true, true, true, true, true, false, false, true, true, true, true, false, true, false, true, false, false, true,
    true, true, true, true, false, false, true, true, true, true, true, true, false, false, false, true, true, true,
    true, true, true, true, false, false, true, true, true, true, false, true, false, true, false, false, true, true,
    true, true, true, false, false, true, true, true, true, true, true, false, false, false, false]) (by kernel_rfl) (by kernel_rfl) (by kernel_rfl) h
theorem R5a_val {zs bs : List Int} : (R5a zs bs).val = AVal.bool true := by kernel_rfl
theorem R5a_tab {zs bs : List Int} : (R5a zs bs).tab = [some { data := AVal.ints IntKind.u8 zs, g := 0, own := false, et := 5 },
    some { data := AVal.ints IntKind.u8 bs, g := 0, own := false, et := 5 }] := by kernel_rfl
noncomputable def R5b (zs bs : List Int) (n m : Nat) : Res := resG 2 [0,1] (runF eSb f5 [] 400 [.slice 1 0 0 0 n (some zs.length), .slice 1 1 0 0 m (some bs.length)] [some ⟨.ints .u8 zs, 0, false, 5⟩, some ⟨.ints .u8 bs, 0, false, 5⟩] [some true, some true, some true, some true, some true, some true, some true])
theorem R5b_ok {zs bs : List Int} {n m : Nat} (h : allP [Con.leN (0 + n) zs.length, Con.leN n 140737488355300, Con.leN (0 + m) bs.length, Con.leN m 140737488355300,
    Con.p (n ≠ 16 ∨ m ≠ 16), Con.p (n ≠ 16 ∨ m ≠ 16), Con.p (n ≠ 16 ∨ m ≠ 16), Con.p (n ≠ 16 ∨ m ≠ 16),
    Con.p (true = true), Con.p (true = true), Con.p (true = true), Con.p (true = true),
    Con.rng (-9223372036854775808) ((↑n : Int) + 2) 9223372036854775807, Con.leI 0 ((↑n : Int) + 2), Con.leN 0 (n + 2),
    Con.orN (n + 2) n (0 + (n + 2)) (subLaw zs 0 n ++ [201, 202]).length, Con.leI 0 (↑n : Int), Con.leN 0 n,
    Con.orN n (n + 2) (0 + n) (subLaw zs 0 n ++ [201, 202]).length,
    Con.leN (0 + n) (subLaw zs 0 n ++ [201, 202]).length, Con.leN (0 + n) zs.length,
    Con.p ((List.map byteOf (List.take n (subLaw zs 0 n ++ [201, 202])) == List.map byteOf (List.take n zs)) = true),
    Con.leI 0 (↑n : Int), Con.leI ((↑n : Int) + 1) (↑(n + 2) : Int),
    Con.leN (n + 1) (subLaw zs 0 n ++ [201, 202]).length,
    Con.p (((subLaw zs 0 n ++ [201, 202]).getD n 0 == 201) = true),
    Con.rng (-9223372036854775808) ((↑n : Int) + 1) 9223372036854775807, Con.leI 0 ((↑n : Int) + 1),
    Con.leI ((↑n : Int) + 1 + 1) (↑(n + 2) : Int), Con.leN (n + 1 + 1) (subLaw zs 0 n ++ [201, 202]).length,
    Con.p (((subLaw zs 0 n ++ [201, 202]).getD (n + 1) 0 == 202) = true), Con.p (true = true),
    Con.rng (-9223372036854775808) ((↑m : Int) + 2) 9223372036854775807, Con.leI 0 ((↑m : Int) + 2), Con.leN 0 (m + 2),
    Con.orN (m + 2) m (0 + (m + 2)) (subLaw bs 0 m ++ [201, 202]).length, Con.leI 0 (↑m : Int), Con.leN 0 m,
    Con.orN m (m + 2) (0 + m) (subLaw bs 0 m ++ [201, 202]).length,
    Con.leN (0 + m) (subLaw bs 0 m ++ [201, 202]).length, Con.leN (0 + m) bs.length,
    Con.p ((List.map byteOf (List.take m (subLaw bs 0 m ++ [201, 202])) == List.map byteOf (List.take m bs)) = true),
    Con.leI 0 (↑m : Int), Con.leI ((↑m : Int) + 1) (↑(m + 2) : Int),
    Con.leN (m + 1) (subLaw bs 0 m ++ [201, 202]).length,
    Con.p (((subLaw bs 0 m ++ [201, 202]).getD m 0 == 201) = true),
    Con.rng (-9223372036854775808) ((↑m : Int) + 1) 9223372036854775807, Con.leI 0 ((↑m : Int) + 1),
    Con.leI ((↑m : Int) + 1 + 1) (↑(m + 2) : Int), Con.leN (m + 1 + 1) (subLaw bs 0 m ++ [201, 202]).length,
    Con.p (((subLaw bs 0 m ++ [201, 202]).getD (m + 1) 0 == 202) = true), Con.p (true = true), Con.p (true = true)]) : OkR (R5b zs bs n m) := OkR.dem (fl := [true, true, false, false, true, true, false, false, true, true, true, true, false, true, true, true, true, false,
    true, true, true, true, false, true, true, true, true, false, false, false, false, false, true, true, true, false,
    false, true, false, false, false, true, false, true, false, false, true, false, true, false, false, true, true,
    false, false, true, false, false, true, false, true, false, false, true, false, false, false, true, true, true,
    false, false, true, false, false, false, true, false, true, false, false, true, false, true, false, false, true,
    true, false, false, true, false, false, true, false, true, false, false, true, false, false, false, false]) (by kernel_rfl) (by kernel_rfl) (by kernel_rfl) h
theorem R5b_val {zs bs : List Int} {n m : Nat} : (R5b zs bs n m).val = AVal.bool true := by kernel_rfl
theorem R5b_tab {zs bs : List Int} {n m : Nat} : (R5b zs bs n m).tab = [some { data := AVal.ints IntKind.u8 zs, g := 0, own := false, et := 5 },
    some { data := AVal.ints IntKind.u8 bs, g := 0, own := false, et := 5 }] := by kernel_rfl
noncomputable def R27 (zs : List Int) (g off n : Nat) (cp : Option Nat) (ow : Bool) : Res := runF (eA []) f27 [] 100 [.slice 1 0 g off n cp] [some ⟨.ints .u8 zs, g, ow, 5⟩] []
theorem R27_ok {zs : List Int} {g off n : Nat} {cp : Option Nat} {ow : Bool} (h : allP [Con.eqN g g, Con.leN (off + n) zs.length]) : OkR (R27 zs g off n cp ow) := OkR.dem (fl := [true, true, true, true, true, true, false, false, true]) (by kernel_rfl) (by kernel_rfl) (by kernel_rfl) h
theorem R27_val {zs : List Int} {g off n : Nat} {cp : Option Nat} {ow : Bool} : (R27 zs g off n cp ow).val = AVal.slice 1 1 0 0 16 (some 16) := by kernel_rfl
theorem R27_tab {zs : List Int} {g off n : Nat} {cp : Option Nat} {ow : Bool} : (R27 zs g off n cp ow).tab = [some { data := AVal.ints IntKind.u8 zs, g := g, own := ow, et := 5 },
    some
      {
        data :=
          AVal.ints IntKind.u8
            (over [0, 0, 0, 0, 0, 0, 0, 0, 0, 0, 0, 0, 0, 0, 0, 0] 0
              (List.take (if n ≤ 16 then n else 16) (dropO off zs))),
        g := 0, own := true, et := 5 }] := by kernel_rfl
end Go.Abs
