/- What functions of the given program come to, by the abstract machine: one text of a proof. -/
import Derived.Test.YtmhfelkcibfigaaCB3
set_option linter.unusedVariables false
set_option linter.unusedSimpArgs false
set_option maxRecDepth 8000
namespace Go.Abs
open Go.Proofs.Try
theorem ior_64 {n : Int} (h : 0 ≤ n) : ior n 0 = n := by
  obtain ⟨m, rfl⟩ := Int.eq_ofNat_of_zero_le h
  simp [ior]
theorem ior_16384 {n : Int} (h : 0 ≤ n) (h2 : n < 16384) : ior n 16384 = n + 16384 := ior_add (k := 14) (b := 1) h h2 (by decide)
theorem ior_31 {n : Int} (h : 0 ≤ n) (h2 : n < 1073741824) : ior n 2147483648 = n + 2147483648 := ior_add (k := 30) (b := 2) h h2 (by decide)
theorem len_a {n : Int} (h : 0 ≤ n) (h2 : n < 64) : lenLaw n = [n / 1 % 256] ∧ lenErrLaw n = 0 := by
  unfold lenLaw lenErrLaw; rw [if_neg (by omega), if_pos h2, if_neg (by omega)]; exact ⟨rfl, rfl⟩
theorem len_b {n : Int} (h : 64 ≤ n) (h2 : n < 16384) : lenLaw n = [(n + 16384) / 256 % 256, (n + 16384) / 1 % 256] ∧ lenErrLaw n = 0 := by
  unfold lenLaw lenErrLaw; rw [if_neg (by omega), if_neg (by omega), if_pos h2, if_neg (by omega)]; exact ⟨rfl, rfl⟩
theorem len_c {n : Int} (h : 16384 ≤ n) (h2 : n < 1073741824) : lenLaw n = [(n + 2147483648) / 16777216 % 256, (n + 2147483648) / 65536 % 256, (n + 2147483648) / 256 % 256, (n + 2147483648) / 1 % 256] ∧ lenErrLaw n = 0 := by
  unfold lenLaw lenErrLaw; rw [if_neg (by omega), if_neg (by omega), if_neg (by omega), if_neg (by omega)]; exact ⟨rfl, rfl⟩
theorem len_d {n : Int} (h : n < 0 ∨ 1073741824 ≤ n) : lenLaw n = [] ∧ lenErrLaw n = 11 := by
  unfold lenLaw lenErrLaw; rw [if_pos h, if_pos h]; exact ⟨rfl, rfl⟩
theorem lenLaw_len (n : Int) : (lenLaw n).length ≤ 4 := by
  unfold lenLaw; split
  · simp
  · split
    · simp
    · split <;> simp
def len18Law (n : Int) : AVal := .tuple [.slice 1 0 0 0 (lenLaw n).length (some (lenLaw n).length), .int .i64 (lenErrLaw n)]
def len19Law (n : Int) : AVal := .tuple [.slice 1 0 ((lenLaw n).length - 1) 0 (lenLaw n).length none, .int .i64 (lenErrLaw n)]
def sm18 : Summary := fun args T => match args, T with
  | [.int .i64 n], [] => ⟨[], len18Law n, [some ⟨.ints .u8 (lenLaw n), 0, true, 5⟩]⟩
  | _, _ => fail
theorem nn_i64 {n : Int} (h : 0 ≤ n) (h2 : n < 1073741824) : nonneg .i64 n := ⟨h, by omega⟩
theorem sm18_ok : SmOk prog (fun _ => none) 18 sm18 := by
  intro args T hc
  unfold sm18 at hc ⊢
  split at hc
  · rename_i n
    simp only
    unfold len18Law
    by_cases h0 : n < 0
    · rw [(len_d (.inl h0)).1, (len_d (.inl h0)).2]
      exact small_nil2 .u8 5 (.inl rfl) (small_of (R := R18d n) eC1_ok hmC (f := 18) (fn := f18) (by kernel_rfl) (by kernel_rfl) FnOrc.nil rfl (R18d_ok (by simp [allP, Con.h]; omega)) R18d_val R18d_tab) (Nat.le_refl 0)
    by_cases h1 : 1073741824 ≤ n
    · rw [(len_d (.inr h1)).1, (len_d (.inr h1)).2]
      have d1 : n / 64 ≠ 0 := by omega
      have d2 : n / 16384 ≠ 0 := by omega
      have d3 : n / 1073741824 ≠ 0 := by omega
      exact small_nil2 .u8 5 (.inl rfl) (small_of (R := R18e n) eC1_ok hmC (f := 18) (fn := f18) (by kernel_rfl) (by kernel_rfl) FnOrc.nil rfl (R18e_ok (by simp [allP, Con.h, d1, d2, d3]; omega)) R18e_val R18e_tab) (Nat.le_refl 0)
    have hn := nn_i64 (n := n) (by omega) (by omega)
    by_cases h2 : n < 64
    · have e := len_a (n := n) (by omega) h2
      rw [e.1, e.2]
      have d1 : n / 64 = 0 := by omega
      exact small_of (R := R18a n) eC1_ok hmC (f := 18) (fn := f18) (by kernel_rfl) (by kernel_rfl) FnOrc.nil rfl (R18a_ok (by simp [allP, Con.h, d1, hn]; omega)) R18a_val (by rw [R18a_tab, ior_64 (by omega)])
    by_cases h3 : n < 16384
    · have e := len_b (n := n) (by omega) h3
      rw [e.1, e.2]
      have d1 : n / 64 ≠ 0 := by omega
      have d2 : n / 16384 = 0 := by omega
      exact small_of (R := R18b n) eC1_ok hmC (f := 18) (fn := f18) (by kernel_rfl) (by kernel_rfl) FnOrc.nil rfl (R18b_ok (by simp [allP, Con.h, d1, d2, hn]; omega)) R18b_val (by rw [R18b_tab, ior_16384 (by omega) h3])
    · have e := len_c (n := n) (by omega) (by omega)
      rw [e.1, e.2]
      have d1 : n / 64 ≠ 0 := by omega
      have d2 : n / 16384 ≠ 0 := by omega
      have d3 : n / 1073741824 = 0 := by omega
      exact small_of (R := R18c n) eC1_ok hmC (f := 18) (fn := f18) (by kernel_rfl) (by kernel_rfl) FnOrc.nil rfl (R18c_ok (by simp [allP, Con.h, d1, d2, d3, hn]; omega)) R18c_val (by rw [R18c_tab, ior_31 (by omega) (by omega)])
  · exact absurd hc nofail
def S18c : Summary := callR sm18 []
theorem S18c_ok : SumOk prog (fun _ => none) 18 S18c := callR_ok sm18_ok []
def sm19 : Summary := fun args T => match args, T with
  | [.int .i64 n], [] => ⟨[], len19Law n, [some ⟨.ints .u8 (lenLaw n), (lenLaw n).length - 1, true, 5⟩]⟩
  | _, _ => fail
theorem sm19_ok : SmOk prog (fun _ => none) 19 sm19 := by
  intro args T hc
  unfold sm19 at hc ⊢
  split at hc
  · rename_i n
    simp only
    unfold len19Law
    by_cases h0 : n < 0
    · rw [(len_d (.inl h0)).1, (len_d (.inl h0)).2]
      exact small_nil2 .u8 5 (.inr rfl) (small_of (R := R19d n) eC6_ok hmC (f := 19) (fn := f19) (by kernel_rfl) (by kernel_rfl) FnOrc.nil rfl (R19d_ok (by simp [allP, Con.h]; omega)) R19d_val R19d_tab) (Nat.le_refl 0)
    by_cases h1 : 1073741824 ≤ n
    · rw [(len_d (.inr h1)).1, (len_d (.inr h1)).2]
      exact small_nil2 .u8 5 (.inr rfl) (small_of (R := R19e n) eC6_ok hmC (f := 19) (fn := f19) (by kernel_rfl) (by kernel_rfl) FnOrc.nil rfl (R19e_ok (by simp [allP, Con.h]; omega)) R19e_val R19e_tab) (Nat.le_refl 0)
    by_cases h2 : n < 64
    · have e := len_a (n := n) (by omega) h2
      rw [e.1, e.2]
      exact small_of (R := R19a n) eC6_ok hmC (f := 19) (fn := f19) (by kernel_rfl) (by kernel_rfl) FnOrc.nil rfl (R19a_ok (by simp [allP, Con.h]; omega)) R19a_val R19a_tab
    by_cases h3 : n < 16384
    · have e := len_b (n := n) (by omega) h3
      rw [e.1, e.2]
      exact small_of (R := R19b n) eC6_ok hmC (f := 19) (fn := f19) (by kernel_rfl) (by kernel_rfl) FnOrc.nil rfl (R19b_ok (by simp [allP, Con.h]; omega)) R19b_val R19b_tab
    · have e := len_c (n := n) (by omega) (by omega)
      rw [e.1, e.2]
      exact small_of (R := R19c n) eC6_ok hmC (f := 19) (fn := f19) (by kernel_rfl) (by kernel_rfl) FnOrc.nil rfl (R19c_ok (by simp [allP, Con.h]; omega)) R19c_val R19c_tab
  · exact absurd hc nofail
def S19c : Summary := callR sm19 []
theorem S19c_ok : SumOk prog (fun _ => none) 19 S19c := callR_ok sm19_ok []
/-! ### vectors -/
noncomputable def eC7 : Env := eC0 [(18, S18c)]
theorem eC7_ok : EnvOk eC7 := envOf_ok tysC_ok (SumsOk.cons (fn := f18) S18c_ok (by kernel_rfl) (by kernel_rfl) (by kernel_rfl) trivial)
noncomputable def S10t : Summary := sumI modeO eC7 f10 [] 400 [some false] []
theorem S10t_ok : SumOk prog (fun _ => none) 10 S10t := sumI_ok eC7_ok hmC (fn := f10) (by kernel_rfl) (by kernel_rfl) [] FnOrc.nil 400 [some false] []
noncomputable def S10f : Summary := sumI modeO eC7 f10 [] 400 [some true] []
theorem S10f_ok : SumOk prog (fun _ => none) 10 S10f := sumI_ok eC7_ok hmC (fn := f10) (by kernel_rfl) (by kernel_rfl) [] FnOrc.nil 400 [some true] []
noncomputable def eC8t : Env := eC0 [(10, S10t)]
theorem eC8t_ok : EnvOk eC8t := envOf_ok tysC_ok (SumsOk.cons (fn := f10) S10t_ok (by kernel_rfl) (by kernel_rfl) (by kernel_rfl) trivial)
noncomputable def eC8f : Env := eC0 [(10, S10f)]
theorem eC8f_ok : EnvOk eC8f := envOf_ok tysC_ok (SumsOk.cons (fn := f10) S10f_ok (by kernel_rfl) (by kernel_rfl) (by kernel_rfl) trivial)
noncomputable def eC9 : Env := eC0 [(19, S19c)]
theorem eC9_ok : EnvOk eC9 := envOf_ok tysC_ok (SumsOk.cons (fn := f19) S19c_ok (by kernel_rfl) (by kernel_rfl) (by kernel_rfl) trivial)
noncomputable def R20t (zs : List Int) (g off n : Nat) (cp : Option Nat) (ow : Bool) : Res := runF eC8t f20 [] 400 [.slice 1 0 g off n cp] [some ⟨.ints .u8 zs, g, ow, 5⟩] []
theorem R20t_ok {zs : List Int} {g off n : Nat} {cp : Option Nat} {ow : Bool} (h : allP [Con.eqN g g, Con.eqN g g, Con.p (decide (65536 < (↑n : Int)) = false), Con.eqN g g,
    Con.leN (lenLaw (↑n : Int)).length 140737488355328,
    Con.leN (0 + (lenLaw (↑n : Int)).length) (lenLaw (↑n : Int)).length,
    Con.leN (0 + (lenLaw (↑n : Int)).length) ([] ++ List.take (lenLaw (↑n : Int)).length (lenLaw (↑n : Int))).length,
    Con.leN (addO (lenLaw (↑n : Int)).length n) 140737488355328, Con.eqN g g, Con.leN (off + n) zs.length]) : OkR (R20t zs g off n cp ow) := OkR.dem (fl := [true, true, true, true, false, true, true, true, true, true, true, false, false, false, false, true, false, true,
    true, false, false, false, false, true, true]) (by kernel_rfl) (by kernel_rfl) (by kernel_rfl) h
theorem R20t_val {zs : List Int} {g off n : Nat} {cp : Option Nat} {ow : Bool} : (R20t zs g off n cp ow).val = AVal.tuple [AVal.slice 1 2 1 0 (addO (lenLaw (↑n : Int)).length n) none, AVal.int IntKind.i64 0] := by kernel_rfl
theorem R20t_tab {zs : List Int} {g off n : Nat} {cp : Option Nat} {ow : Bool} : (R20t zs g off n cp ow).tab = [some { data := AVal.ints IntKind.u8 zs, g := g, own := ow, et := 5 },
    some { data := AVal.agg [AVal.slice 1 0 g off n cp], g := 0, own := true, et := 23 },
    some
      {
        data :=
          AVal.ints IntKind.u8
            (List.take (lenLaw (↑n : Int)).length ([] ++ List.take (lenLaw (↑n : Int)).length (lenLaw (↑n : Int))) ++
              List.take n (dropO off zs)),
        g := 1, own := true, et := 5 }] := by kernel_rfl
noncomputable def R20f (zs : List Int) (g off n : Nat) (cp : Option Nat) (ow : Bool) : Res := runF eC8f f20 [] 400 [.slice 1 0 g off n cp] [some ⟨.ints .u8 zs, g, ow, 5⟩] []
theorem R20f_ok {zs : List Int} {g off n : Nat} {cp : Option Nat} {ow : Bool} (h : allP [Con.eqN g g, Con.eqN g g, Con.p (decide (65536 < (↑n : Int)) = true)]) : OkR (R20f zs g off n cp ow) := OkR.dem (fl := [true, true, true, true, false, true, true, true, true, true, true, false, false]) (by kernel_rfl) (by kernel_rfl) (by kernel_rfl) h
theorem R20f_val {zs : List Int} {g off n : Nat} {cp : Option Nat} {ow : Bool} : (R20f zs g off n cp ow).val = AVal.tuple [AVal.nilSlice, AVal.int IntKind.i64 6] := by kernel_rfl
theorem R20f_tab {zs : List Int} {g off n : Nat} {cp : Option Nat} {ow : Bool} : (R20f zs g off n cp ow).tab = [some { data := AVal.ints IntKind.u8 zs, g := g, own := ow, et := 5 },
    some { data := AVal.agg [AVal.slice 1 0 g off n cp], g := 0, own := true, et := 23 }] := by kernel_rfl
noncomputable def R21t (zs : List Int) (g off n : Nat) (cp : Option Nat) (ow : Bool) : Res := runF eC9 f21 [] 400 [.slice 1 0 g off n cp] [some ⟨.ints .u8 zs, g, ow, 5⟩] [some false]
theorem R21t_ok {zs : List Int} {g off n : Nat} {cp : Option Nat} {ow : Bool} (h : allP [Con.eqN g g, Con.p (decide (65536 < (↑n : Int)) = false), Con.eqN g g,
    Con.eqN ((lenLaw (↑n : Int)).length - 1) ((lenLaw (↑n : Int)).length - 1),
    Con.leN (0 + (lenLaw (↑n : Int)).length) (lenLaw (↑n : Int)).length,
    Con.leN (addO (lenLaw (↑n : Int)).length n) 140737488355328, Con.eqN g g, Con.leN (off + n) zs.length]) : OkR (R21t zs g off n cp ow) := OkR.dem (fl := [false, false, false, false, false, false, false, false, true]) (by kernel_rfl) (by kernel_rfl) (by kernel_rfl) h
theorem R21t_val {zs : List Int} {g off n : Nat} {cp : Option Nat} {ow : Bool} : (R21t zs g off n cp ow).val = AVal.tuple
    [AVal.slice 1 1 ((lenLaw (↑n : Int)).length - 1 + 1) 0 (addO (lenLaw (↑n : Int)).length n) none,
      AVal.int IntKind.i64 0] := by kernel_rfl
theorem R21t_tab {zs : List Int} {g off n : Nat} {cp : Option Nat} {ow : Bool} : (R21t zs g off n cp ow).tab = [some { data := AVal.ints IntKind.u8 zs, g := g, own := ow, et := 5 },
    some
      {
        data :=
          AVal.ints IntKind.u8 (List.take (lenLaw (↑n : Int)).length (lenLaw (↑n : Int)) ++ List.take n (dropO off zs)),
        g := (lenLaw (↑n : Int)).length - 1 + 1, own := true, et := 5 }] := by kernel_rfl
noncomputable def R21f (zs : List Int) (g off n : Nat) (cp : Option Nat) (ow : Bool) : Res := runF eC9 f21 [] 400 [.slice 1 0 g off n cp] [some ⟨.ints .u8 zs, g, ow, 5⟩] [some true]
theorem R21f_ok {zs : List Int} {g off n : Nat} {cp : Option Nat} {ow : Bool} (h : allP [Con.eqN g g, Con.p (decide (65536 < (↑n : Int)) = true)]) : OkR (R21f zs g off n cp ow) := OkR.dem (fl := [false, false]) (by kernel_rfl) (by kernel_rfl) (by kernel_rfl) h
theorem R21f_val {zs : List Int} {g off n : Nat} {cp : Option Nat} {ow : Bool} : (R21f zs g off n cp ow).val = AVal.tuple [AVal.nilSlice, AVal.int IntKind.i64 6] := by kernel_rfl
theorem R21f_tab {zs : List Int} {g off n : Nat} {cp : Option Nat} {ow : Bool} : (R21f zs g off n cp ow).tab = [some { data := AVal.ints IntKind.u8 zs, g := g, own := ow, et := 5 }] := by kernel_rfl
end Go.Abs
