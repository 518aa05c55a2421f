/- What functions of the given program come to, by the abstract machine: one text of a proof. -/
import Derived.Test.YtlnflmjgnmljeaaBC2
set_option linter.unusedVariables false
set_option linter.unusedSimpArgs false
set_option maxRecDepth 8000
namespace Go.Abs
open Go.Proofs.Try
def colsLaw (m : List Int) : Prop := m = [2, 3, 1, 1] ∨ m = [14, 11, 13, 9]
def byLaw (n : Int) : Prop := n = 1 ∨ n = 3
theorem cols_a : colsLaw [2, 3, 1, 1] := .inl rfl
theorem cols_b : colsLaw [14, 11, 13, 9] := .inr rfl
theorem by_a : byLaw 1 := .inl rfl
theorem by_b : byLaw 3 := .inr rfl
def sm69 : Summary := fun args T => match args, T with
  | [.ints .u8 s, .ints .u8 m], [] => ⟨[.eqN s.length 16, .p (Bytes s), .p (colsLaw m)], .ints .u8 (mixByLaw timesLaw m s), []⟩
  | _, _ => fail
theorem mOk_of {m : List Int} (h : m = [2, 3, 1, 1] ∨ m = [14, 11, 13, 9]) : m.length = 4 ∧ mOk m := by
  rcases h with rfl | rfl
  · exact ⟨rfl, mOk_a⟩
  · exact ⟨rfl, mOk_b⟩
theorem sm69_ok : SmOk prog (fun _ => none) 69 sm69 := by
  intro args T hc
  unfold sm69 at hc ⊢
  split at hc
  · rename_i s m
    obtain ⟨h1, h2, h3, _⟩ := hc
    simp only [Con.h] at h1 h2 h3
    obtain ⟨hm, hk⟩ := mOk_of h3
    have z : [0, 0, 0, 0, 0, 0, 0, 0, 0, 0, 0, 0, 0, 0, 0, 0] = stLaw m s 0 0 := (stLaw_zero m s).symm
    have n := stLaw_next m s
    simp only
    rw [← stLaw_end]
    refine small_drop (small_of (R := R69 s m) eM1_ok hmA (f := 69) (fn := f69) (by kernel_rfl) (by kernel_rfl) orc69_ok rfl (R69_ok ?_) R69_val R69_tab)
    simp only [allP, Con.h, h1, hm, h2, hk, and_true, true_and]
    exact ⟨z, (n 0).symm, (n 1).symm, (n 2).symm, (n 3).symm, (n 4).symm, (n 5).symm, (n 6).symm, (n 7).symm, (n 8).symm, (n 9).symm, (n 10).symm, (n 11).symm, (n 12).symm, (n 13).symm, (n 14).symm⟩
  · exact absurd hc nofail
def S69 : Summary := callR sm69 []
theorem S69_ok : SumOk prog (fun _ => none) 69 S69 := callR_ok sm69_ok []
def sm50 : Summary := fun args T => match args, T with
  | [.slice 1 0 g0 0 16 cp0, .slice 1 1 g1 0 4 cp1], [some ⟨.ints .u8 s, g0', ow0, 5⟩, some ⟨.ints .u8 m, g1', ow1, 5⟩] =>
    ⟨[.eqN g0 g0', .eqN g1 g1', .eqN s.length 16, .p (Bytes s), .p (colsLaw m)], .slice 1 2 0 0 16 (some 16), [some ⟨.ints .u8 s, g0', ow0, 5⟩, some ⟨.ints .u8 m, g1', ow1, 5⟩, some ⟨.ints .u8 (mixByLaw timesLaw m s), 0, true, 5⟩]⟩
  | _, _ => fail
theorem sm50_ok : SmOk prog (fun _ => none) 50 sm50 := by
  intro args T hc
  unfold sm50 at hc ⊢
  split at hc
  · rename_i g0 cp0 g1 cp1 s g0' ow0 m g1' ow1
    obtain ⟨h0, h0', h1, h2, h3, _⟩ := hc
    simp only [Con.h] at h0 h0' h1 h2 h3
    subst h0 h0'
    obtain ⟨hm, hk⟩ := mOk_of h3
    have z := (stLaw_zero m s).symm
    have n := stLaw_next m s
    simp only
    rw [← stLaw_end]
    refine small_of (R := R50 s m g0 g1 cp0 cp1 ow0 ow1) eM2_ok hmA (f := 50) (fn := f50) (by kernel_rfl) (by kernel_rfl) orc50_ok rfl (R50_ok ?_) R50_val R50_tab
    simp only [allP, Con.h, h1, hm, h2, hk, eq_self, and_true, true_and]
    exact ⟨z, (n 0).symm, (n 1).symm, (n 2).symm, (n 3).symm, (n 4).symm, (n 5).symm, (n 6).symm, (n 7).symm, (n 8).symm, (n 9).symm, (n 10).symm, (n 11).symm, (n 12).symm, (n 13).symm, (n 14).symm⟩
  · exact absurd hc nofail
def S50 : Summary := callR sm50 []
theorem S50_ok : SumOk prog (fun _ => none) 50 S50 := callR_ok sm50_ok []
noncomputable def eM3 : Env := eA [(69, S69)]
theorem eM3_ok : EnvOk eM3 := envOf_ok tysA_ok (SumsOk.cons (fn := f69) S69_ok (by kernel_rfl) (by kernel_rfl) (by kernel_rfl) trivial)
def sm68 : Summary := fun args T => match args, T with
  | [.ints .u8 s, .int .i64 n], [] => ⟨[.eqN s.length 16, .p (byLaw n)], .ints .u8 (turnedLaw n.toNat s), []⟩
  | _, _ => fail
theorem sm68_ok : SmOk prog (fun _ => none) 68 sm68 := by
  intro args T hc
  unfold sm68 at hc ⊢
  split at hc
  · rename_i s n
    obtain ⟨h1, h2, _⟩ := hc
    simp only [Con.h] at h1 h2
    obtain ⟨a0, a1, a2, a3, a4, a5, a6, a7, a8, a9, a10, a11, a12, a13, a14, a15, rfl⟩ := list16 h1
    rcases h2 with rfl | rfl
    · exact small_drop (small_of (R := R68a a0 a1 a2 a3 a4 a5 a6 a7 a8 a9 a10 a11 a12 a13 a14 a15) eA0_ok hmA (f := 68) (fn := f68) (by kernel_rfl) (by kernel_rfl) FnOrc.nil rfl (R68a_ok (by first | trivial | (simp only [allP, Con.h]; omega))) R68a_val R68a_tab)
    · exact small_drop (small_of (R := R68b a0 a1 a2 a3 a4 a5 a6 a7 a8 a9 a10 a11 a12 a13 a14 a15) eA0_ok hmA (f := 68) (fn := f68) (by kernel_rfl) (by kernel_rfl) FnOrc.nil rfl (R68b_ok (by first | trivial | (simp only [allP, Con.h]; omega))) R68b_val R68b_tab)
  · exact absurd hc nofail
def S68 : Summary := callR sm68 []
theorem S68_ok : SumOk prog (fun _ => none) 68 S68 := callR_ok sm68_ok []
noncomputable def eM4 : Env := eA [(68, S68)]
theorem eM4_ok : EnvOk eM4 := envOf_ok tysA_ok (SumsOk.cons (fn := f68) S68_ok (by kernel_rfl) (by kernel_rfl) (by kernel_rfl) trivial)
theorem turned_bytes {n : Nat} {s : List Int} (h : Bytes s) : Bytes (turnedLaw n s) := l16_bytes fun i _ => h.get _
noncomputable def R46 (s tb : List Int) (g : Nat) (ow : Bool) : Res := runF eM3 f46 [] 400 [.ints .u8 s, .var 0 g] [some ⟨.ints .u8 tb, g, ow, 72⟩] []
theorem R46_ok {s tb : List Int} {g : Nat} {ow : Bool} (h : allP [Con.eqN s.length 16, Con.eqN s.length 16, Con.p (Bytes s), Con.p (colsLaw [2, 3, 1, 1])]) : OkR (R46 s tb g ow) := OkR.dem (fl := [true, false, true, true, true, true, true, true, true, true, false, false, false, true, true, true, true, true, true]) (by kernel_rfl) (by kernel_rfl) (by kernel_rfl) h
theorem R46_val {s tb : List Int} {g : Nat} {ow : Bool} : (R46 s tb g ow).val = AVal.ints IntKind.u8 (mixByLaw timesLaw [2, 3, 1, 1] s) := by kernel_rfl
theorem R46_tab {s tb : List Int} {g : Nat} {ow : Bool} : (R46 s tb g ow).tab = [some { data := AVal.ints IntKind.u8 tb, g := g, own := ow, et := 72 },
    some { data := AVal.ints IntKind.u8 s, g := 0, own := true, et := 48 },
    some { data := AVal.ints IntKind.u8 (mixByLaw timesLaw [2, 3, 1, 1] s), g := 0, own := true, et := 48 }] := by kernel_rfl
def sm46 : Summary := fun args T => match args, T with
  | [.ints .u8 s, .var 0 g], [some ⟨.ints .u8 tb, g', ow, 72⟩] => ⟨[.eqN g g', .eqN s.length 16, .p (Bytes s)], .ints .u8 (mixLaw s), [some ⟨.ints .u8 tb, g', ow, 72⟩]⟩
  | _, _ => fail
theorem sm46_ok : SmOk prog (fun _ => none) 46 sm46 := by
  intro args T hc
  unfold sm46 at hc ⊢
  split at hc
  · obtain ⟨h1, h2, h3, _⟩ := hc
    simp only [Con.h] at h1 h2 h3
    subst h1
    refine small_drop (small_of (R := R46 _ _ _ _) eM3_ok hmA (f := 46) (fn := f46) (by kernel_rfl) (by kernel_rfl) FnOrc.nil rfl (R46_ok ?_) R46_val R46_tab)
    simp [allP, Con.h, cols_a, cols_b, by_a, by_b, h2, h3]
  · exact absurd hc nofail
def S46 : Summary := callR sm46 []
theorem S46_ok : SumOk prog (fun _ => none) 46 S46 := callR_ok sm46_ok []
noncomputable def R51 (s tb : List Int) (g : Nat) (ow : Bool) : Res := runF eM3 f51 [] 400 [.ints .u8 s, .var 0 g] [some ⟨.ints .u8 tb, g, ow, 72⟩] []
theorem R51_ok {s tb : List Int} {g : Nat} {ow : Bool} (h : allP [Con.eqN s.length 16, Con.eqN s.length 16, Con.p (Bytes s), Con.p (colsLaw [14, 11, 13, 9])]) : OkR (R51 s tb g ow) := OkR.dem (fl := [true, false, true, true, true, true, true, true, true, true, false, false, false, true, true, true, true, true, true]) (by kernel_rfl) (by kernel_rfl) (by kernel_rfl) h
theorem R51_val {s tb : List Int} {g : Nat} {ow : Bool} : (R51 s tb g ow).val = AVal.ints IntKind.u8 (mixByLaw timesLaw [14, 11, 13, 9] s) := by kernel_rfl
theorem R51_tab {s tb : List Int} {g : Nat} {ow : Bool} : (R51 s tb g ow).tab = [some { data := AVal.ints IntKind.u8 tb, g := g, own := ow, et := 72 },
    some { data := AVal.ints IntKind.u8 s, g := 0, own := true, et := 48 },
    some { data := AVal.ints IntKind.u8 (mixByLaw timesLaw [14, 11, 13, 9] s), g := 0, own := true, et := 48 }] := by kernel_rfl
def sm51 : Summary := fun args T => match args, T with
  | [.ints .u8 s, .var 0 g], [some ⟨.ints .u8 tb, g', ow, 72⟩] => ⟨[.eqN g g', .eqN s.length 16, .p (Bytes s)], .ints .u8 (unmixLaw s), [some ⟨.ints .u8 tb, g', ow, 72⟩]⟩
  | _, _ => fail
theorem sm51_ok : SmOk prog (fun _ => none) 51 sm51 := by
  intro args T hc
  unfold sm51 at hc ⊢
  split at hc
  · obtain ⟨h1, h2, h3, _⟩ := hc
    simp only [Con.h] at h1 h2 h3
    subst h1
    refine small_drop (small_of (R := R51 _ _ _ _) eM3_ok hmA (f := 51) (fn := f51) (by kernel_rfl) (by kernel_rfl) FnOrc.nil rfl (R51_ok ?_) R51_val R51_tab)
    simp [allP, Con.h, cols_a, cols_b, by_a, by_b, h2, h3]
  · exact absurd hc nofail
def S51 : Summary := callR sm51 []
theorem S51_ok : SumOk prog (fun _ => none) 51 S51 := callR_ok sm51_ok []
noncomputable def R45 (s tb : List Int) (g : Nat) (ow : Bool) : Res := runF eM4 f45 [] 400 [.ints .u8 s, .var 0 g] [some ⟨.ints .u8 tb, g, ow, 72⟩] []
theorem R45_ok {s tb : List Int} {g : Nat} {ow : Bool} (h : allP [Con.eqN s.length 16, Con.eqN s.length 16, Con.p (byLaw 1)]) : OkR (R45 s tb g ow) := OkR.dem (fl := [true, false, false, false, true, true, true, true, true, true]) (by kernel_rfl) (by kernel_rfl) (by kernel_rfl) h
theorem R45_val {s tb : List Int} {g : Nat} {ow : Bool} : (R45 s tb g ow).val = AVal.ints IntKind.u8 (turnedLaw 1 s) := by kernel_rfl
theorem R45_tab {s tb : List Int} {g : Nat} {ow : Bool} : (R45 s tb g ow).tab = [some { data := AVal.ints IntKind.u8 tb, g := g, own := ow, et := 72 },
    some { data := AVal.ints IntKind.u8 s, g := 0, own := true, et := 48 },
    some { data := AVal.ints IntKind.u8 (turnedLaw 1 s), g := 0, own := true, et := 48 }] := by kernel_rfl
def sm45 : Summary := fun args T => match args, T with
  | [.ints .u8 s, .var 0 g], [some ⟨.ints .u8 tb, g', ow, 72⟩] => ⟨[.eqN g g', .eqN s.length 16], .ints .u8 (turnedLaw 1 s), [some ⟨.ints .u8 tb, g', ow, 72⟩]⟩
  | _, _ => fail
theorem sm45_ok : SmOk prog (fun _ => none) 45 sm45 := by
  intro args T hc
  unfold sm45 at hc ⊢
  split at hc
  · obtain ⟨h1, h2, _⟩ := hc
    simp only [Con.h] at h1 h2
    subst h1
    refine small_drop (small_of (R := R45 _ _ _ _) eM4_ok hmA (f := 45) (fn := f45) (by kernel_rfl) (by kernel_rfl) FnOrc.nil rfl (R45_ok ?_) R45_val R45_tab)
    simp [allP, Con.h, cols_a, cols_b, by_a, by_b, h2]
  · exact absurd hc nofail
def S45 : Summary := callR sm45 []
theorem S45_ok : SumOk prog (fun _ => none) 45 S45 := callR_ok sm45_ok []
noncomputable def R52 (s tb : List Int) (g : Nat) (ow : Bool) : Res := runF eM4 f52 [] 400 [.ints .u8 s, .var 0 g] [some ⟨.ints .u8 tb, g, ow, 72⟩] []
theorem R52_ok {s tb : List Int} {g : Nat} {ow : Bool} (h : allP [Con.eqN s.length 16, Con.eqN s.length 16, Con.p (byLaw 3)]) : OkR (R52 s tb g ow) := OkR.dem (fl := [true, false, false, false, true, true, true, true, true, true]) (by kernel_rfl) (by kernel_rfl) (by kernel_rfl) h
theorem R52_val {s tb : List Int} {g : Nat} {ow : Bool} : (R52 s tb g ow).val = AVal.ints IntKind.u8 (turnedLaw 3 s) := by kernel_rfl
theorem R52_tab {s tb : List Int} {g : Nat} {ow : Bool} : (R52 s tb g ow).tab = [some { data := AVal.ints IntKind.u8 tb, g := g, own := ow, et := 72 },
    some { data := AVal.ints IntKind.u8 s, g := 0, own := true, et := 48 },
    some { data := AVal.ints IntKind.u8 (turnedLaw 3 s), g := 0, own := true, et := 48 }] := by kernel_rfl
def sm52 : Summary := fun args T => match args, T with
  | [.ints .u8 s, .var 0 g], [some ⟨.ints .u8 tb, g', ow, 72⟩] => ⟨[.eqN g g', .eqN s.length 16], .ints .u8 (turnedLaw 3 s), [some ⟨.ints .u8 tb, g', ow, 72⟩]⟩
  | _, _ => fail
theorem sm52_ok : SmOk prog (fun _ => none) 52 sm52 := by
  intro args T hc
  unfold sm52 at hc ⊢
  split at hc
  · obtain ⟨h1, h2, _⟩ := hc
    simp only [Con.h] at h1 h2
    subst h1
    refine small_drop (small_of (R := R52 _ _ _ _) eM4_ok hmA (f := 52) (fn := f52) (by kernel_rfl) (by kernel_rfl) FnOrc.nil rfl (R52_ok ?_) R52_val R52_tab)
    simp [allP, Con.h, cols_a, cols_b, by_a, by_b, h2]
  · exact absurd hc nofail
def S52 : Summary := callR sm52 []
theorem S52_ok : SumOk prog (fun _ => none) 52 S52 := callR_ok sm52_ok []
end Go.Abs
