/- What functions of the given program come to, by the abstract machine: texts of a proof. -/
import Derived.Test.YtlnflmjgnmljeaaP0
import Derived.Test.YtlnflmjgnmljeaaAbs2
set_option linter.unusedVariables false
set_option linter.unusedSimpArgs false
set_option maxRecDepth 8000
namespace Go.Abs
open Go.Proofs.Try
def colsLaw (m : List Int) : Prop := m = [2, 3, 1, 1] ∨ m = [14, 11, 13, 9]
def byLaw (n : Int) : Prop := n = 1 ∨ n = 3
theorem cols_a : colsLaw [2, 3, 1, 1] := .inl rfl
theorem cols_b : colsLaw [14, 11, 13, 9] := .inr rfl
theorem by_a : byLaw 1 := .inl rfl
theorem by_b : byLaw 3 := .inr rfl
def sm69 : Summary := fun args T => match args, T with
  | [.ints .u8 s, .ints .u8 m], [] => ⟨[.eqN s.length 16, .p (Bytes s), .p (colsLaw m)], .ints .u8 (mixByLaw timesLaw m s), []⟩
  | _, _ => fail
theorem mOk_of {m : List Int} (h : m = [2, 3, 1, 1] ∨ m = [14, 11, 13, 9]) : m.length = 4 ∧ mOk m := by
  rcases h with rfl | rfl
  · exact ⟨rfl, mOk_a⟩
  · exact ⟨rfl, mOk_b⟩
theorem sm69_ok : SmOk prog (fun _ => none) 69 sm69 := by
  intro args T hc
  unfold sm69 at hc ⊢
  split at hc
  · rename_i s m
    obtain ⟨h1, h2, h3, _⟩ := hc
    simp only [Con.h] at h1 h2 h3
    obtain ⟨hm, hk⟩ := mOk_of h3
    have z : [0, 0, 0, 0, 0, 0, 0, 0, 0, 0, 0, 0, 0, 0, 0, 0] = stLaw m s 0 0 := (stLaw_zero m s).symm
    have n := stLaw_next m s
    simp only
    rw [← stLaw_end]
    refine small_drop (small_of (R := R69 s m) eM1_ok hmA (f := 69) (fn := f69) (by kernel_rfl) (by kernel_rfl) orc69_ok rfl (R69_ok ?_) R69_val R69_tab)
    simp only [allP, Con.h, h1, hm, h2, hk, and_true, true_and]
    exact ⟨z, (n 0).symm, (n 1).symm, (n 2).symm, (n 3).symm, (n 4).symm, (n 5).symm, (n 6).symm, (n 7).symm, (n 8).symm, (n 9).symm, (n 10).symm, (n 11).symm, (n 12).symm, (n 13).symm, (n 14).symm⟩
  · exact absurd hc nofail
def S69 : Summary := callR sm69 []
theorem S69_ok : SumOk prog (fun _ => none) 69 S69 := callR_ok sm69_ok []
def sm50 : Summary := fun args T => match args, T with
  | [.slice 1 0 g0 0 16 cp0, .slice 1 1 g1 0 4 cp1], [some ⟨.ints .u8 s, g0', ow0, 5⟩, some ⟨.ints .u8 m, g1', ow1, 5⟩] =>
    ⟨[.eqN g0 g0', .eqN g1 g1', .eqN s.length 16, .p (Bytes s), .p (colsLaw m)], .slice 1 2 0 0 16 (some 16), [some ⟨.ints .u8 s, g0', ow0, 5⟩, some ⟨.ints .u8 m, g1', ow1, 5⟩, some ⟨.ints .u8 (mixByLaw timesLaw m s), 0, true, 5⟩]⟩
  | _, _ => fail
theorem sm50_ok : SmOk prog (fun _ => none) 50 sm50 := by
  intro args T hc
  unfold sm50 at hc ⊢
  split at hc
  · rename_i g0 cp0 g1 cp1 s g0' ow0 m g1' ow1
    obtain ⟨h0, h0', h1, h2, h3, _⟩ := hc
    simp only [Con.h] at h0 h0' h1 h2 h3
    subst h0 h0'
    obtain ⟨hm, hk⟩ := mOk_of h3
    have z := (stLaw_zero m s).symm
    have n := stLaw_next m s
    simp only
    rw [← stLaw_end]
    refine small_of (R := R50 s m g0 g1 cp0 cp1 ow0 ow1) eM2_ok hmA (f := 50) (fn := f50) (by kernel_rfl) (by kernel_rfl) orc50_ok rfl (R50_ok ?_) R50_val R50_tab
    simp only [allP, Con.h, h1, hm, h2, hk, eq_self, and_true, true_and]
    exact ⟨z, (n 0).symm, (n 1).symm, (n 2).symm, (n 3).symm, (n 4).symm, (n 5).symm, (n 6).symm, (n 7).symm, (n 8).symm, (n 9).symm, (n 10).symm, (n 11).symm, (n 12).symm, (n 13).symm, (n 14).symm⟩
  · exact absurd hc nofail
def S50 : Summary := callR sm50 []
theorem S50_ok : SumOk prog (fun _ => none) 50 S50 := callR_ok sm50_ok []
noncomputable def eM3 : Env := eA [(69, S69)]
theorem eM3_ok : EnvOk eM3 := envOf_ok tysA_ok (SumsOk.cons (fn := f69) S69_ok (by kernel_rfl) (by kernel_rfl) (by kernel_rfl) trivial)
def sm68 : Summary := fun args T => match args, T with
  | [.ints .u8 s, .int .i64 n], [] => ⟨[.eqN s.length 16, .p (byLaw n)], .ints .u8 (turnedLaw n.toNat s), []⟩
  | _, _ => fail
theorem sm68_ok : SmOk prog (fun _ => none) 68 sm68 := by
  intro args T hc
  unfold sm68 at hc ⊢
  split at hc
  · rename_i s n
    obtain ⟨h1, h2, _⟩ := hc
    simp only [Con.h] at h1 h2
    obtain ⟨a0, a1, a2, a3, a4, a5, a6, a7, a8, a9, a10, a11, a12, a13, a14, a15, rfl⟩ := list16 h1
    rcases h2 with rfl | rfl
    · exact small_drop (small_of (R := R68a a0 a1 a2 a3 a4 a5 a6 a7 a8 a9 a10 a11 a12 a13 a14 a15) eA0_ok hmA (f := 68) (fn := f68) (by kernel_rfl) (by kernel_rfl) FnOrc.nil rfl (R68a_ok (by first | trivial | (simp only [allP, Con.h]; omega))) R68a_val R68a_tab)
    · exact small_drop (small_of (R := R68b a0 a1 a2 a3 a4 a5 a6 a7 a8 a9 a10 a11 a12 a13 a14 a15) eA0_ok hmA (f := 68) (fn := f68) (by kernel_rfl) (by kernel_rfl) FnOrc.nil rfl (R68b_ok (by first | trivial | (simp only [allP, Con.h]; omega))) R68b_val R68b_tab)
  · exact absurd hc nofail
def S68 : Summary := callR sm68 []
theorem S68_ok : SumOk prog (fun _ => none) 68 S68 := callR_ok sm68_ok []
noncomputable def eM4 : Env := eA [(68, S68)]
theorem eM4_ok : EnvOk eM4 := envOf_ok tysA_ok (SumsOk.cons (fn := f68) S68_ok (by kernel_rfl) (by kernel_rfl) (by kernel_rfl) trivial)
theorem turned_bytes {n : Nat} {s : List Int} (h : Bytes s) : Bytes (turnedLaw n s) := l16_bytes fun i _ => h.get _
noncomputable def R46 (s tb : List Int) (g : Nat) (ow : Bool) : Res := runF eM3 f46 [] 400 [.ints .u8 s, .var 0 g] [some ⟨.ints .u8 tb, g, ow, 72⟩] []
theorem R46_ok {s tb : List Int} {g : Nat} {ow : Bool} (h : allP [.eqN s.length 16, .eqN s.length 16, .p (Bytes s), .p (colsLaw [2, 3, 1, 1])]) : OkR (R46 s tb g ow) := OkR.dem (fl := bitsF 19 517117) (by kernel_rfl) (by kernel_rfl) (by kernel_rfl) h
theorem R46_val {s tb : List Int} {g : Nat} {ow : Bool} : (R46 s tb g ow).val = .ints .u8 (mixByLaw timesLaw [2, 3, 1, 1] s) := by kernel_rfl
theorem R46_tab {s tb : List Int} {g : Nat} {ow : Bool} : (R46 s tb g ow).tab = [some ⟨.ints .u8 tb, g, ow, 72⟩, some ⟨.ints .u8 s, 0, true, 48⟩, some ⟨.ints .u8 (mixByLaw timesLaw [2, 3, 1, 1] s), 0, true, 48⟩] := by kernel_rfl
def sm46 : Summary := fun args T => match args, T with
  | [.ints .u8 s, .var 0 g], [some ⟨.ints .u8 tb, g', ow, 72⟩] => ⟨[.eqN g g', .eqN s.length 16, .p (Bytes s)], .ints .u8 (mixLaw s), [some ⟨.ints .u8 tb, g', ow, 72⟩]⟩
  | _, _ => fail
theorem sm46_ok : SmOk prog (fun _ => none) 46 sm46 := by
  intro args T hc
  unfold sm46 at hc ⊢
  split at hc
  · obtain ⟨h1, h2, h3, _⟩ := hc
    simp only [Con.h] at h1 h2 h3
    subst h1
    refine small_drop (small_of (R := R46 _ _ _ _) eM3_ok hmA (f := 46) (fn := f46) (by kernel_rfl) (by kernel_rfl) FnOrc.nil rfl (R46_ok ?_) R46_val R46_tab)
    simp [allP, Con.h, cols_a, cols_b, by_a, by_b, h2, h3]
  · exact absurd hc nofail
def S46 : Summary := callR sm46 []
theorem S46_ok : SumOk prog (fun _ => none) 46 S46 := callR_ok sm46_ok []
noncomputable def R45 (s tb : List Int) (g : Nat) (ow : Bool) : Res := runF eM4 f45 [] 400 [.ints .u8 s, .var 0 g] [some ⟨.ints .u8 tb, g, ow, 72⟩] []
theorem R45_ok {s tb : List Int} {g : Nat} {ow : Bool} (h : allP [.eqN s.length 16, .eqN s.length 16, .p (byLaw 1)]) : OkR (R45 s tb g ow) := OkR.dem (fl := [true, false, false, false, true, true, true, true, true, true]) (by kernel_rfl) (by kernel_rfl) (by kernel_rfl) h
theorem R45_val {s tb : List Int} {g : Nat} {ow : Bool} : (R45 s tb g ow).val = .ints .u8 (turnedLaw 1 s) := by kernel_rfl
theorem R45_tab {s tb : List Int} {g : Nat} {ow : Bool} : (R45 s tb g ow).tab = [some ⟨.ints .u8 tb, g, ow, 72⟩, some ⟨.ints .u8 s, 0, true, 48⟩, some ⟨.ints .u8 (turnedLaw 1 s), 0, true, 48⟩] := by kernel_rfl
def sm45 : Summary := fun args T => match args, T with
  | [.ints .u8 s, .var 0 g], [some ⟨.ints .u8 tb, g', ow, 72⟩] => ⟨[.eqN g g', .eqN s.length 16], .ints .u8 (turnedLaw 1 s), [some ⟨.ints .u8 tb, g', ow, 72⟩]⟩
  | _, _ => fail
theorem sm45_ok : SmOk prog (fun _ => none) 45 sm45 := by
  intro args T hc
  unfold sm45 at hc ⊢
  split at hc
  · obtain ⟨h1, h2, _⟩ := hc
    simp only [Con.h] at h1 h2
    subst h1
    refine small_drop (small_of (R := R45 _ _ _ _) eM4_ok hmA (f := 45) (fn := f45) (by kernel_rfl) (by kernel_rfl) FnOrc.nil rfl (R45_ok ?_) R45_val R45_tab)
    simp [allP, Con.h, cols_a, cols_b, by_a, by_b, h2]
  · exact absurd hc nofail
def S45 : Summary := callR sm45 []
theorem S45_ok : SumOk prog (fun _ => none) 45 S45 := callR_ok sm45_ok []
end Go.Abs

set_option linter.unusedVariables false
set_option linter.unusedSimpArgs false
set_option maxRecDepth 8000
namespace Go.Abs
open Go.Proofs.Try
/-! ### squares, of the document -/
noncomputable def R47 (zs ws : List Int) (g0 g1 n0 n1 : Nat) (cp0 cp1 : Option Nat) (ow0 ow1 : Bool) (r : Int) : Res := resG 2 [0,1,3] (runF (eA []) f47 [] 2000 [.slice 1 0 g0 0 n0 cp0, .slice 1 1 g1 0 n1 cp1, .int .i64 r] [some ⟨.ints .u8 zs, g0, ow0, 5⟩, some ⟨.ints .u8 ws, g1, ow1, 5⟩] [])
theorem R47_ok {zs ws : List Int} {g0 g1 n0 n1 : Nat} {cp0 cp1 : Option Nat} {ow0 ow1 : Bool} {r : Int} (h : allP [.eqN g0 g0, .leI 1 (↑n0 : Int), .eqN g0 g0, .leN 1 zs.length, .rng (-9223372036854775808) (16 * r) 9223372036854775807, .rng (-9223372036854775808) (16 * r + 0) 9223372036854775807, .eqN g1 g1, .leI 0 (16 * r + 0), .leI (16 * r + 0 + 1) (↑n1 : Int), .eqN g1 g1, .leN ((16 * r + 0).toNat
 + 1) ws.length, .nn .u8 (zs.getD 0 0), .nn .u8 (ws.getD (16 * r + 0).toNat 0), .eqN g0 g0, .leI 2 (↑n0 : Int), .eqN g0 g0, .leN 2 zs.length, .rng (-9223372036854775808) (16 * r) 9223372036854775807, .rng (-9223372036854775808) (16 * r + 1) 9223372036854775807, .eqN g1 g1, .leI 0 (16 * r + 1), .leI (16 * r + 1 + 1) (↑n1 : Int), .eqN g1 g1, .leN ((16 * r + 1).toNat + 1) ws.length, .nn .u8 (zs.getD 1
 0), .nn .u8 (ws.getD (16 * r + 1).toNat 0), .eqN g0 g0, .leI 3 (↑n0 : Int), .eqN g0 g0, .leN 3 zs.length, .rng (-9223372036854775808) (16 * r) 9223372036854775807, .rng (-9223372036854775808) (16 * r + 2) 9223372036854775807, .eqN g1 g1, .leI 0 (16 * r + 2), .leI (16 * r + 2 + 1) (↑n1 : Int), .eqN g1 g1, .leN ((16 * r + 2).toNat + 1) ws.length, .nn .u8 (zs.getD 2 0), .nn .u8 (ws.getD (16 * r +
 2).toNat 0), .eqN g0 g0, .leI 4 (↑n0 : Int), .eqN g0 g0, .leN 4 zs.length, .rng (-9223372036854775808) (16 * r) 9223372036854775807, .rng (-9223372036854775808) (16 * r + 3) 9223372036854775807, .eqN g1 g1, .leI 0 (16 * r + 3), .leI (16 * r + 3 + 1) (↑n1 : Int), .eqN g1 g1, .leN ((16 * r + 3).toNat + 1) ws.length, .nn .u8 (zs.getD 3 0), .nn .u8 (ws.getD (16 * r + 3).toNat 0), .eqN g0 g0, .leI 5
 (↑n0 : Int), .eqN g0 g0, .leN 5 zs.length, .rng (-9223372036854775808) (16 * r) 9223372036854775807, .rng (-9223372036854775808) (16 * r + 4) 9223372036854775807, .eqN g1 g1, .leI 0 (16 * r + 4), .leI (16 * r + 4 + 1) (↑n1 : Int), .eqN g1 g1, .leN ((16 * r + 4).toNat + 1) ws.length, .nn .u8 (zs.getD 4 0), .nn .u8 (ws.getD (16 * r + 4).toNat 0), .eqN g0 g0, .leI 6 (↑n0 : Int), .eqN g0 g0, .leN 6
 zs.length, .rng (-9223372036854775808) (16 * r) 9223372036854775807, .rng (-9223372036854775808) (16 * r + 5) 9223372036854775807, .eqN g1 g1, .leI 0 (16 * r + 5), .leI (16 * r + 5 + 1) (↑n1 : Int), .eqN g1 g1, .leN ((16 * r + 5).toNat + 1) ws.length, .nn .u8 (zs.getD 5 0), .nn .u8 (ws.getD (16 * r + 5).toNat 0), .eqN g0 g0, .leI 7 (↑n0 : Int), .eqN g0 g0, .leN 7 zs.length, .rng
 (-9223372036854775808) (16 * r) 9223372036854775807, .rng (-9223372036854775808) (16 * r + 6) 9223372036854775807, .eqN g1 g1, .leI 0 (16 * r + 6), .leI (16 * r + 6 + 1) (↑n1 : Int), .eqN g1 g1, .leN ((16 * r + 6).toNat + 1) ws.length, .nn .u8 (zs.getD 6 0), .nn .u8 (ws.getD (16 * r + 6).toNat 0), .eqN g0 g0, .leI 8 (↑n0 : Int), .eqN g0 g0, .leN 8 zs.length, .rng (-9223372036854775808) (16 * r)
 9223372036854775807, .rng (-9223372036854775808) (16 * r + 7) 9223372036854775807, .eqN g1 g1, .leI 0 (16 * r + 7), .leI (16 * r + 7 + 1) (↑n1 : Int), .eqN g1 g1, .leN ((16 * r + 7).toNat + 1) ws.length, .nn .u8 (zs.getD 7 0), .nn .u8 (ws.getD (16 * r + 7).toNat 0), .eqN g0 g0, .leI 9 (↑n0 : Int), .eqN g0 g0, .leN 9 zs.length, .rng (-9223372036854775808) (16 * r) 9223372036854775807, .rng
 (-9223372036854775808) (16 * r + 8) 9223372036854775807, .eqN g1 g1, .leI 0 (16 * r + 8), .leI (16 * r + 8 + 1) (↑n1 : Int), .eqN g1 g1, .leN ((16 * r + 8).toNat + 1) ws.length, .nn .u8 (zs.getD 8 0), .nn .u8 (ws.getD (16 * r + 8).toNat 0), .eqN g0 g0, .leI 10 (↑n0 : Int), .eqN g0 g0, .leN 10 zs.length, .rng (-9223372036854775808) (16 * r) 9223372036854775807, .rng (-9223372036854775808) (16 * r +
 9) 9223372036854775807, .eqN g1 g1, .leI 0 (16 * r + 9), .leI (16 * r + 9 + 1) (↑n1 : Int), .eqN g1 g1, .leN ((16 * r + 9).toNat + 1) ws.length, .nn .u8 (zs.getD 9 0), .nn .u8 (ws.getD (16 * r + 9).toNat 0), .eqN g0 g0, .leI 11 (↑n0 : Int), .eqN g0 g0, .leN 11 zs.length, .rng (-9223372036854775808) (16 * r) 9223372036854775807, .rng (-9223372036854775808) (16 * r + 10) 9223372036854775807, .eqN g1
 g1, .leI 0 (16 * r + 10), .leI (16 * r + 10 + 1) (↑n1 : Int), .eqN g1 g1, .leN ((16 * r + 10).toNat + 1) ws.length, .nn .u8 (zs.getD 10 0), .nn .u8 (ws.getD (16 * r + 10).toNat 0), .eqN g0 g0, .leI 12 (↑n0 : Int), .eqN g0 g0, .leN 12 zs.length, .rng (-9223372036854775808) (16 * r) 9223372036854775807, .rng (-9223372036854775808) (16 * r + 11) 9223372036854775807, .eqN g1 g1, .leI 0 (16 * r + 11),
 .leI (16 * r + 11 + 1) (↑n1 : Int), .eqN g1 g1, .leN ((16 * r + 11).toNat + 1) ws.length, .nn .u8 (zs.getD 11 0), .nn .u8 (ws.getD (16 * r + 11).toNat 0), .eqN g0 g0, .leI 13 (↑n0 : Int), .eqN g0 g0, .leN 13 zs.length, .rng (-9223372036854775808) (16 * r) 9223372036854775807, .rng (-9223372036854775808) (16 * r + 12) 9223372036854775807, .eqN g1 g1, .leI 0 (16 * r + 12), .leI (16 * r + 12 + 1) (↑n1
 : Int), .eqN g1 g1, .leN ((16 * r + 12).toNat + 1) ws.length, .nn .u8 (zs.getD 12 0), .nn .u8 (ws.getD (16 * r + 12).toNat 0), .eqN g0 g0, .leI 14 (↑n0 : Int), .eqN g0 g0, .leN 14 zs.length, .rng (-9223372036854775808) (16 * r) 9223372036854775807, .rng (-9223372036854775808) (16 * r + 13) 9223372036854775807, .eqN g1 g1, .leI 0 (16 * r + 13), .leI (16 * r + 13 + 1) (↑n1 : Int), .eqN g1 g1, .leN
 ((16 * r + 13).toNat + 1) ws.length, .nn .u8 (zs.getD 13 0), .nn .u8 (ws.getD (16 * r + 13).toNat 0), .eqN g0 g0, .leI 15 (↑n0 : Int), .eqN g0 g0, .leN 15 zs.length, .rng (-9223372036854775808) (16 * r) 9223372036854775807, .rng (-9223372036854775808) (16 * r + 14) 9223372036854775807, .eqN g1 g1, .leI 0 (16 * r + 14), .leI (16 * r + 14 + 1) (↑n1 : Int), .eqN g1 g1, .leN ((16 * r + 14).toNat + 1)
 ws.length, .nn .u8 (zs.getD 14 0), .nn .u8 (ws.getD (16 * r + 14).toNat 0), .eqN g0 g0, .leI 16 (↑n0 : Int), .eqN g0 g0, .leN 16 zs.length, .rng (-9223372036854775808) (16 * r) 9223372036854775807, .rng (-9223372036854775808) (16 * r + 15) 9223372036854775807, .eqN g1 g1, .leI 0 (16 * r + 15), .leI (16 * r + 15 + 1) (↑n1 : Int), .eqN g1 g1, .leN ((16 * r + 15).toNat + 1) ws.length, .nn .u8 (zs.getD
 15 0), .nn .u8 (ws.getD (16 * r + 15).toNat 0)]) : OkR (R47 zs ws g0 g1 n0 n1 cp0 cp1 ow0 ow1 r) := OkR.dem (fl := bitsF 430 2073410076862345200513876913284163072311493173468100855511745186186960161342193353609824510751324596494137192843118306733925826564) (by kernel_rfl) (by kernel_rfl) (by kernel_rfl) h
theorem R47_val {zs ws : List Int} {g0 g1 n0 n1 : Nat} {cp0 cp1 : Option Nat} {ow0 ow1 : Bool} {r : Int} : (R47 zs ws g0 g1 n0 n1 cp0 cp1 ow0 ow1 r).val = .slice 1 2 15 0 16 none := by kernel_rfl
theorem R47_tab {zs ws : List Int} {g0 g1 n0 n1 : Nat} {cp0 cp1 : Option Nat} {ow0 ow1 : Bool} {r : Int} : (R47 zs ws g0 g1 n0 n1 cp0 cp1 ow0 ow1 r).tab = [some ⟨.ints .u8 zs, g0, ow0, 5⟩, some ⟨.ints .u8 ws, g1, ow1, 5⟩, some ⟨.ints .u8 [ixor (zs.getD 0 0) (ws.getD (16 * r + 0).toNat 0), ixor (zs.getD 1 0) (ws.getD (16 * r + 1).toNat 0), ixor (zs.getD 2 0) (ws.getD (16 * r + 2).toNat 0), ixor
 (zs.getD 3 0) (ws.getD (16 * r + 3).toNat 0), ixor (zs.getD 4 0) (ws.getD (16 * r + 4).toNat 0), ixor (zs.getD 5 0) (ws.getD (16 * r + 5).toNat 0), ixor (zs.getD 6 0) (ws.getD (16 * r + 6).toNat 0), ixor (zs.getD 7 0) (ws.getD (16 * r + 7).toNat 0), ixor (zs.getD 8 0) (ws.getD (16 * r + 8).toNat 0), ixor (zs.getD 9 0) (ws.getD (16 * r + 9).toNat 0), ixor (zs.getD 10 0) (ws.getD (16 * r + 10).toNat
 0), ixor (zs.getD 11 0) (ws.getD (16 * r + 11).toNat 0), ixor (zs.getD 12 0) (ws.getD (16 * r + 12).toNat 0), ixor (zs.getD 13 0) (ws.getD (16 * r + 13).toNat 0), ixor (zs.getD 14 0) (ws.getD (16 * r + 14).toNat 0), ixor (zs.getD 15 0) (ws.getD (16 * r + 15).toNat 0)], 15, true, 5⟩] := by kernel_rfl
noncomputable def R48a (s : List Int) (g0 : Nat) (cp0 : Option Nat) (ow0 : Bool) : Res := runF (eA []) f48 [] 2000 [.slice 1 0 g0 0 16 cp0, .int .i64 1] [some ⟨.ints .u8 s, g0, ow0, 5⟩] []
theorem R48a_ok {s : List Int} {g0 : Nat} {cp0 : Option Nat} {ow0 : Bool} (h : allP [.eqN g0 g0, .eqN g0 g0, .leN 1 s.length, .eqN g0 g0, .eqN g0 g0, .leN 6 s.length, .eqN g0 g0, .eqN g0 g0, .leN 11 s.length, .eqN g0 g0, .eqN g0 g0, .leN 16 s.length, .eqN g0 g0, .eqN g0 g0, .leN 5 s.length, .eqN g0 g0, .eqN g0 g0, .leN 10 s.length, .eqN g0 g0, .eqN g0 g0, .leN 15 s.length, .eqN g0 g0, .eqN g0 g0,
 .leN 4 s.length, .eqN g0 g0, .eqN g0 g0, .leN 9 s.length, .eqN g0 g0, .eqN g0 g0, .leN 14 s.length, .eqN g0 g0, .eqN g0 g0, .leN 3 s.length, .eqN g0 g0, .eqN g0 g0, .leN 8 s.length, .eqN g0 g0, .eqN g0 g0, .leN 13 s.length, .eqN g0 g0, .eqN g0 g0, .leN 2 s.length, .eqN g0 g0, .eqN g0 g0, .leN 7 s.length, .eqN g0 g0, .eqN g0 g0, .leN 12 s.length]) : OkR (R48a s g0 cp0 ow0) := OkR.dem (fl := bitsF
 328 545978310464128438480771647398582062431654151516119257532017423539034080987728280358472077757331455) (by kernel_rfl) (by kernel_rfl) (by kernel_rfl) h
theorem R48a_val {s : List Int} {g0 : Nat} {cp0 : Option Nat} {ow0 : Bool} : (R48a s g0 cp0 ow0).val = .slice 1 1 0 0 16 (some 16) := by kernel_rfl
theorem R48a_tab {s : List Int} {g0 : Nat} {cp0 : Option Nat} {ow0 : Bool} : (R48a s g0 cp0 ow0).tab = [some ⟨.ints .u8 s, g0, ow0, 5⟩, some ⟨.ints .u8 [s.getD 0 0, s.getD 5 0, s.getD 10 0, s.getD 15 0, s.getD 4 0, s.getD 9 0, s.getD 14 0, s.getD 3 0, s.getD 8 0, s.getD 13 0, s.getD 2 0, s.getD 7 0, s.getD 12 0, s.getD 1 0, s.getD 6 0, s.getD 11 0], 0, true, 5⟩] := by kernel_rfl
noncomputable def R48b (s : List Int) (g0 : Nat) (cp0 : Option Nat) (ow0 : Bool) : Res := runF (eA []) f48 [] 2000 [.slice 1 0 g0 0 16 cp0, .int .i64 3] [some ⟨.ints .u8 s, g0, ow0, 5⟩] []
theorem R48b_ok {s : List Int} {g0 : Nat} {cp0 : Option Nat} {ow0 : Bool} (h : allP [.eqN g0 g0, .eqN g0 g0, .leN 1 s.length, .eqN g0 g0, .eqN g0 g0, .leN 14 s.length, .eqN g0 g0, .eqN g0 g0, .leN 11 s.length, .eqN g0 g0, .eqN g0 g0, .leN 8 s.length, .eqN g0 g0, .eqN g0 g0, .leN 5 s.length, .eqN g0 g0, .eqN g0 g0, .leN 2 s.length, .eqN g0 g0, .eqN g0 g0, .leN 15 s.length, .eqN g0 g0, .eqN g0 g0,
 .leN 12 s.length, .eqN g0 g0, .eqN g0 g0, .leN 9 s.length, .eqN g0 g0, .eqN g0 g0, .leN 6 s.length, .eqN g0 g0, .eqN g0 g0, .leN 3 s.length, .eqN g0 g0, .eqN g0 g0, .leN 16 s.length, .eqN g0 g0, .eqN g0 g0, .leN 13 s.length, .eqN g0 g0, .eqN g0 g0, .leN 10 s.length, .eqN g0 g0, .eqN g0 g0, .leN 7 s.length, .eqN g0 g0, .eqN g0 g0, .leN 4 s.length]) : OkR (R48b s g0 cp0 ow0) := OkR.dem (fl := bitsF
 328 545978310464128438480771647398582062431654151516119257532017423539034080987728280358472077757331455) (by kernel_rfl) (by kernel_rfl) (by kernel_rfl) h
theorem R48b_val {s : List Int} {g0 : Nat} {cp0 : Option Nat} {ow0 : Bool} : (R48b s g0 cp0 ow0).val = .slice 1 1 0 0 16 (some 16) := by kernel_rfl
theorem R48b_tab {s : List Int} {g0 : Nat} {cp0 : Option Nat} {ow0 : Bool} : (R48b s g0 cp0 ow0).tab = [some ⟨.ints .u8 s, g0, ow0, 5⟩, some ⟨.ints .u8 [s.getD 0 0, s.getD 13 0, s.getD 10 0, s.getD 7 0, s.getD 4 0, s.getD 1 0, s.getD 14 0, s.getD 11 0, s.getD 8 0, s.getD 5 0, s.getD 2 0, s.getD 15 0, s.getD 12 0, s.getD 9 0, s.getD 6 0, s.getD 3 0], 0, true, 5⟩] := by kernel_rfl
noncomputable def R49 (s ts : List Int) (g0 g1 : Nat) (cp0 cp1 : Option Nat) (ow0 ow1 : Bool) : Res := resG 2 [0,1,3] (runF (eA []) f49 [] 2000 [.slice 1 0 g0 0 16 cp0, .slice 1 1 g1 0 256 cp1] [some ⟨.ints .u8 s, g0, ow0, 5⟩, some ⟨.ints .u8 ts, g1, ow1, 5⟩] [])
theorem R49_ok {s ts : List Int} {g0 g1 : Nat} {cp0 cp1 : Option Nat} {ow0 ow1 : Bool} (h : allP [.eqN g0 g0, .eqN g0 g0, .leN 1 s.length, .eqN g1 g1, .leI 0 (s.getD 0 0), .leI (s.getD 0 0 + 1) 256, .eqN g1 g1, .leN ((s.getD 0 0).toNat + 1) ts.length, .eqN g0 g0, .eqN g0 g0, .leN 2 s.length, .eqN g1 g1, .leI 0 (s.getD 1 0), .leI (s.getD 1 0 + 1) 256, .eqN g1 g1, .leN ((s.getD 1 0).toNat + 1)
 ts.length, .eqN g0 g0, .eqN g0 g0, .leN 3 s.length, .eqN g1 g1, .leI 0 (s.getD 2 0), .leI (s.getD 2 0 + 1) 256, .eqN g1 g1, .leN ((s.getD 2 0).toNat + 1) ts.length, .eqN g0 g0, .eqN g0 g0, .leN 4 s.length, .eqN g1 g1, .leI 0 (s.getD 3 0), .leI (s.getD 3 0 + 1) 256, .eqN g1 g1, .leN ((s.getD 3 0).toNat + 1) ts.length, .eqN g0 g0, .eqN g0 g0, .leN 5 s.length, .eqN g1 g1, .leI 0 (s.getD 4 0), .leI
 (s.getD 4 0 + 1) 256, .eqN g1 g1, .leN ((s.getD 4 0).toNat + 1) ts.length, .eqN g0 g0, .eqN g0 g0, .leN 6 s.length, .eqN g1 g1, .leI 0 (s.getD 5 0), .leI (s.getD 5 0 + 1) 256, .eqN g1 g1, .leN ((s.getD 5 0).toNat + 1) ts.length, .eqN g0 g0, .eqN g0 g0, .leN 7 s.length, .eqN g1 g1, .leI 0 (s.getD 6 0), .leI (s.getD 6 0 + 1) 256, .eqN g1 g1, .leN ((s.getD 6 0).toNat + 1) ts.length, .eqN g0 g0, .eqN
 g0 g0, .leN 8 s.length, .eqN g1 g1, .leI 0 (s.getD 7 0), .leI (s.getD 7 0 + 1) 256, .eqN g1 g1, .leN ((s.getD 7 0).toNat + 1) ts.length, .eqN g0 g0, .eqN g0 g0, .leN 9 s.length, .eqN g1 g1, .leI 0 (s.getD 8 0), .leI (s.getD 8 0 + 1) 256, .eqN g1 g1, .leN ((s.getD 8 0).toNat + 1) ts.length, .eqN g0 g0, .eqN g0 g0, .leN 10 s.length, .eqN g1 g1, .leI 0 (s.getD 9 0), .leI (s.getD 9 0 + 1) 256, .eqN g1
 g1, .leN ((s.getD 9 0).toNat + 1) ts.length, .eqN g0 g0, .eqN g0 g0, .leN 11 s.length, .eqN g1 g1, .leI 0 (s.getD 10 0), .leI (s.getD 10 0 + 1) 256, .eqN g1 g1, .leN ((s.getD 10 0).toNat + 1) ts.length, .eqN g0 g0, .eqN g0 g0, .leN 12 s.length, .eqN g1 g1, .leI 0 (s.getD 11 0), .leI (s.getD 11 0 + 1) 256, .eqN g1 g1, .leN ((s.getD 11 0).toNat + 1) ts.length, .eqN g0 g0, .eqN g0 g0, .leN 13
 s.length, .eqN g1 g1, .leI 0 (s.getD 12 0), .leI (s.getD 12 0 + 1) 256, .eqN g1 g1, .leN ((s.getD 12 0).toNat + 1) ts.length, .eqN g0 g0, .eqN g0 g0, .leN 14 s.length, .eqN g1 g1, .leI 0 (s.getD 13 0), .leI (s.getD 13 0 + 1) 256, .eqN g1 g1, .leN ((s.getD 13 0).toNat + 1) ts.length, .eqN g0 g0, .eqN g0 g0, .leN 15 s.length, .eqN g1 g1, .leI 0 (s.getD 14 0), .leI (s.getD 14 0 + 1) 256, .eqN g1 g1,
 .leN ((s.getD 14 0).toNat + 1) ts.length, .eqN g0 g0, .eqN g0 g0, .leN 16 s.length, .eqN g1 g1, .leI 0 (s.getD 15 0), .leI (s.getD 15 0 + 1) 256, .eqN g1 g1, .leN ((s.getD 15 0).toNat + 1) ts.length]) : OkR (R49 s ts g0 g1 cp0 cp1 ow0 ow1) := OkR.dem (fl := bitsF 318 533478842089320440620261819247923056068707518306008264163312832321729216198010693870479965158406) (by kernel_rfl) (by kernel_rfl) (by
 kernel_rfl) h
theorem R49_val {s ts : List Int} {g0 g1 : Nat} {cp0 cp1 : Option Nat} {ow0 ow1 : Bool} : (R49 s ts g0 g1 cp0 cp1 ow0 ow1).val = .slice 1 2 15 0 16 none := by kernel_rfl
theorem R49_tab {s ts : List Int} {g0 g1 : Nat} {cp0 cp1 : Option Nat} {ow0 ow1 : Bool} : (R49 s ts g0 g1 cp0 cp1 ow0 ow1).tab = [some ⟨.ints .u8 s, g0, ow0, 5⟩, some ⟨.ints .u8 ts, g1, ow1, 5⟩, some ⟨.ints .u8 [ts.getD (s.getD 0 0).toNat 0, ts.getD (s.getD 1 0).toNat 0, ts.getD (s.getD 2 0).toNat 0, ts.getD (s.getD 3 0).toNat 0, ts.getD (s.getD 4 0).toNat 0, ts.getD (s.getD 5 0).toNat 0, ts.getD
 (s.getD 6 0).toNat 0, ts.getD (s.getD 7 0).toNat 0, ts.getD (s.getD 8 0).toNat 0, ts.getD (s.getD 9 0).toNat 0, ts.getD (s.getD 10 0).toNat 0, ts.getD (s.getD 11 0).toNat 0, ts.getD (s.getD 12 0).toNat 0, ts.getD (s.getD 13 0).toNat 0, ts.getD (s.getD 14 0).toNat 0, ts.getD (s.getD 15 0).toNat 0], 15, true, 5⟩] := by kernel_rfl
theorem sub_get {ws : List Int} {a i : Nat} (hi : i < 16) : (subLaw ws a 16).getD i 0 = ws.getD (a + i) 0 := by
  unfold subLaw
  simp only [List.getD_eq_getElem?_getD, List.getElem?_take, List.getElem?_drop, if_pos hi]
theorem take_get {zs : List Int} {i : Nat} (hi : i < 16) : (zs.take 16).getD i 0 = zs.getD i 0 := by
  simp only [List.getD_eq_getElem?_getD, List.getElem?_take, if_pos hi]
def sm47 : Summary := fun args T => match args, T with
  | [.slice 1 0 g0 0 n0 cp0, .slice 1 1 g1 0 n1 cp1, .int .i64 r], [some ⟨.ints .u8 zs, g0', ow0, 5⟩, some ⟨.ints .u8 ws, g1', ow1, 5⟩] =>
    ⟨[.eqN g0 g0', .eqN g1 g1', .leN 16 n0, .leN 16 zs.length, .rng 0 r 10, .leN 176 n1, .leN 176 ws.length, .p (Bytes zs), .p (Bytes ws)], .slice 1 2 15 0 16 none,
      [some ⟨.ints .u8 zs, g0', ow0, 5⟩, some ⟨.ints .u8 ws, g1', ow1, 5⟩, some ⟨.ints .u8 (plusLaw (zs.take 16) (subLaw ws (16 * r.toNat) 16)), 15, true, 5⟩]⟩
  | _, _ => fail
theorem sm47_ok : SmOk prog (fun _ => none) 47 sm47 := by
  intro args T hc
  unfold sm47 at hc ⊢
  split at hc
  · rename_i g0 n0 cp0 g1 n1 cp1 r zs g0' ow0 ws g1' ow1
    obtain ⟨h1, h2, h3, h4, h5, h6, h7, h8, h9, _⟩ := hc
    simp only [Con.h] at h1 h2 h3 h4 h5 h6 h7 h8 h9
    subst h1 h2
    obtain ⟨m, rfl⟩ : ∃ m : Nat, r = m := ⟨r.toNat, by omega⟩
    have e : plusLaw (zs.take 16) (subLaw ws (16 * (m : Int).toNat) 16) = l16 fun i => ixor (zs.getD i 0) (ws.getD (16 * (m : Int) + i).toNat 0) :=
      l16_congr fun i hi => by rw [take_get hi, sub_get hi, show (16 * (m : Int) + i).toNat = 16 * (m : Int).toNat + i by omega]
    simp only
    rw [e]
    refine small_ofG (keep := [0,1,3]) (R := R47 zs ws g0 g1 n0 n1 cp0 cp1 ow0 ow1 m) eA0_ok hmA (f := 47) (fn := f47) (by kernel_rfl) (by kernel_rfl) FnOrc.nil rfl (R47_ok ?_) R47_val R47_tab
    have b0 := fun i => nn8.2 (h8.get i)
    have b1 := fun i => nn8.2 (h9.get i)
    simp only [allP, Con.h, eq_self, true_and, and_true, b0, b1]
    repeat' with_reducible apply And.intro
    all_goals omega
  · exact absurd hc nofail
def S47 : Summary := callR sm47 []
theorem S47_ok : SumOk prog (fun _ => none) 47 S47 := callR_ok sm47_ok []
def sm48 : Summary := fun args T => match args, T with
  | [.slice 1 0 g0 0 16 cp0, .int .i64 n], [some ⟨.ints .u8 s, g0', ow0, 5⟩] =>
    ⟨[.eqN g0 g0', .leN 16 s.length, .p (byLaw n)], .slice 1 1 0 0 16 (some 16), [some ⟨.ints .u8 s, g0', ow0, 5⟩, some ⟨.ints .u8 (turnedLaw n.toNat s), 0, true, 5⟩]⟩
  | _, _ => fail
theorem sm48_ok : SmOk prog (fun _ => none) 48 sm48 := by
  intro args T hc
  unfold sm48 at hc ⊢
  split at hc
  · rename_i g0 cp0 n s g0' ow0
    obtain ⟨h1, h2, h3, _⟩ := hc
    simp only [Con.h] at h1 h2 h3
    subst h1
    rcases h3 with rfl | rfl
    · refine small_of (R := R48a s g0 cp0 ow0) eA0_ok hmA (f := 48) (fn := f48) (by kernel_rfl) (by kernel_rfl) FnOrc.nil rfl (R48a_ok ?_) R48a_val R48a_tab
      simp only [allP, Con.h, eq_self, true_and, and_true]
      omega
    · refine small_of (R := R48b s g0 cp0 ow0) eA0_ok hmA (f := 48) (fn := f48) (by kernel_rfl) (by kernel_rfl) FnOrc.nil rfl (R48b_ok ?_) R48b_val R48b_tab
      simp only [allP, Con.h, eq_self, true_and, and_true]
      omega
  · exact absurd hc nofail
def S48 : Summary := callR sm48 []
theorem S48_ok : SumOk prog (fun _ => none) 48 S48 := callR_ok sm48_ok []
def thruLaw (ts s : List Int) : List Int := l16 fun i => ts.getD (s.getD i 0).toNat 0
def sm49 : Summary := fun args T => match args, T with
  | [.slice 1 0 g0 0 16 cp0, .slice 1 1 g1 0 256 cp1], [some ⟨.ints .u8 s, g0', ow0, 5⟩, some ⟨.ints .u8 ts, g1', ow1, 5⟩] =>
    ⟨[.eqN g0 g0', .eqN g1 g1', .leN 16 s.length, .leN 256 ts.length, .p (Bytes s)], .slice 1 2 15 0 16 none, [some ⟨.ints .u8 s, g0', ow0, 5⟩, some ⟨.ints .u8 ts, g1', ow1, 5⟩, some ⟨.ints .u8 (thruLaw ts s), 15, true, 5⟩]⟩
  | _, _ => fail
theorem sm49_ok : SmOk prog (fun _ => none) 49 sm49 := by
  intro args T hc
  unfold sm49 at hc ⊢
  split at hc
  · rename_i g0 cp0 g1 cp1 s g0' ow0 ts g1' ow1
    obtain ⟨h1, h2, h3, h4, h5, _⟩ := hc
    simp only [Con.h] at h1 h2 h3 h4 h5
    subst h1 h2
    have e : thruLaw ts s = l16 fun i => ts.getD (s.getD i 0).toNat 0 := rfl
    simp only
    rw [e]
    unfold l16
    refine small_ofG (keep := [0,1,3]) (R := R49 s ts g0 g1 cp0 cp1 ow0 ow1) eA0_ok hmA (f := 49) (fn := f49) (by kernel_rfl) (by kernel_rfl) FnOrc.nil rfl (R49_ok ?_) R49_val R49_tab
    have c0 := h5.get 0
    have c1 := h5.get 1
    have c2 := h5.get 2
    have c3 := h5.get 3
    have c4 := h5.get 4
    have c5 := h5.get 5
    have c6 := h5.get 6
    have c7 := h5.get 7
    have c8 := h5.get 8
    have c9 := h5.get 9
    have c10 := h5.get 10
    have c11 := h5.get 11
    have c12 := h5.get 12
    have c13 := h5.get 13
    have c14 := h5.get 14
    have c15 := h5.get 15
    simp only [allP, Con.h, eq_self, true_and, and_true]
    repeat' with_reducible apply And.intro
    all_goals omega
  · exact absurd hc nofail
def S49 : Summary := callR sm49 []
theorem S49_ok : SumOk prog (fun _ => none) 49 S49 := callR_ok sm49_ok []
end Go.Abs

set_option linter.unusedVariables false
set_option linter.unusedSimpArgs false
set_option maxRecDepth 8000
namespace Go.Abs
open Go.Proofs.Try
/-! ### what a block comes to -/
def encRLaw (ks s : List Int) (r : Nat) : List Int := plusLaw (if r = 10 then turnedLaw 1 (boxedLaw s) else mixLaw (turnedLaw 1 (boxedLaw s))) (subLaw ks (16 * r) 16)
def encLaw (ks s : List Int) : Nat → List Int
  | 0 => plusLaw s (subLaw ks 0 16)
  | r + 1 => encRLaw ks (encLaw ks s r) (r + 1)
def decRLaw (ks s : List Int) (r : Nat) : List Int := unboxedLaw (turnedLaw 3 (if r = 10 then plusLaw s (subLaw ks (16 * r) 16) else unmixLaw (plusLaw s (subLaw ks (16 * r) 16))))
def decLaw (ks s : List Int) : Nat → List Int
  | 0 => s
  | j + 1 => decRLaw ks (decLaw ks s j) (10 - j)
def blockLaw (ks s : List Int) : List Int := encLaw ks s 10
theorem plus_bytes {s k : List Int} (hs : Bytes s) (hk : Bytes k) : Bytes (plusLaw s k) := l16_bytes fun i _ => ixor_lt8 (hs.get i) (hk.get i)
theorem boxed_bytes {s : List Int} (hs : Bytes s) : Bytes (boxedLaw s) := l16_bytes fun i _ => boxLaw_rng (hs.get i)
theorem TAB_bytes : Bytes TABLaw := by
  have : ((List.range 512).all fun i => decide (0 ≤ TABLaw.getD i 0) && decide (TABLaw.getD i 0 < 256)) = true := by kernel_rfl
  intro i hi
  rw [TABLaw_len] at hi
  simpa using List.all_eq_true.1 this i (List.mem_range.2 hi)
theorem unboxed_bytes (s : List Int) : Bytes (unboxedLaw s) := l16_bytes fun i _ => TAB_bytes.get _
theorem mix_bytes (s : List Int) : Bytes (mixLaw s) := by
  show Bytes (mixByLaw timesLaw [2, 3, 1, 1] s); rw [← stLaw_end]; exact stLaw_bytes mOk_a 15 4
theorem sub_bytes {ks : List Int} (h : Bytes ks) (a n : Nat) : Bytes (subLaw ks a n) := (h.drop a).take n
theorem encR_bytes {ks s : List Int} (hk : Bytes ks) (hs : Bytes s) (r : Nat) : Bytes (encRLaw ks s r) := by
  unfold encRLaw
  refine plus_bytes ?_ (sub_bytes hk _ _)
  split
  · exact turned_bytes (boxed_bytes hs)
  · exact mix_bytes _
theorem enc_bytes {ks s : List Int} (hk : Bytes ks) (hs : Bytes s) : ∀ r, Bytes (encLaw ks s r)
  | 0 => plus_bytes hs (sub_bytes hk _ _)
  | r + 1 => encR_bytes hk (enc_bytes hk hs r) _
theorem enc_len (ks s : List Int) : ∀ r, (encLaw ks s r).length = 16
  | 0 => rfl
  | r + 1 => rfl
theorem decR_bytes (ks s : List Int) (r : Nat) : Bytes (decRLaw ks s r) := unboxed_bytes _
theorem dec_bytes {ks s : List Int} (hs : Bytes s) : ∀ j, Bytes (decLaw ks s j)
  | 0 => hs
  | j + 1 => decR_bytes _ _ _
theorem dec_len {ks s : List Int} (hs : s.length = 16) : ∀ j, (decLaw ks s j).length = 16
  | 0 => hs
  | j + 1 => rfl
theorem sub_eq (ks : List Int) (a n : Nat) : List.take n (dropO a ks) = subLaw ks a n := by rw [dropO_eq]; rfl
theorem take_self {s : List Int} (h : s.length = 16) : List.take 16 s = s := List.take_of_length_le (by omega)
noncomputable def eP : Env := eA [(40, S40), (41, S41), (43, S43), (44, S44), (45, S45), (46, S46)]
theorem eP_ok : EnvOk eP := envOf_ok tysA_ok (SumsOk.cons (fn := f40) S40_ok (by kernel_rfl) (by kernel_rfl) (by kernel_rfl) (SumsOk.cons (fn := f41) S41_ok (by kernel_rfl) (by kernel_rfl) (by kernel_rfl) (SumsOk.cons (fn := f43) S43_ok (by kernel_rfl) (by kernel_rfl) (by kernel_rfl) (SumsOk.cons (fn := f44) S44_ok (by kernel_rfl) (by kernel_rfl) (by kernel_rfl) (SumsOk.cons (fn := f45) S45_ok (by kernel_rfl) (by kernel_rfl) (by kernel_rfl) (SumsOk.cons (fn := f46) S46_ok (by kernel_rfl) (by kernel_rfl) (by kernel_rfl) trivial))))))
noncomputable def A23 (r : Int) (s ks : List Int) (zs bs : List Int) (g0 g1 e1 : Nat) (ow0 ow1 : Bool) : Out := trim 5 5 [6,7,8,9] (run eP 57 ⟨5, []⟩ 400 (roundOf 0 f23) [(6, .var 2 0), (7, .var 3 0), (8, .var 4 0), (9, .int .i64 r)] [some ⟨.ints .u8 zs, g0, ow0, 5⟩, some ⟨.ints .u8 bs, g1, ow1, e1⟩, some ⟨.ints .u8 TABLaw, 0, true, 72⟩, some ⟨.ints .u8 ks, 0, true, 49⟩, some ⟨.ints .u8 s, 0, true, 48⟩] [some true, some false])
theorem A23_ok {r : Int} {s ks : List Int} {zs bs : List Int} {g0 g1 e1 : Nat} {ow0 ow1 : Bool} (h : allP [.p (decide (r < 11) = true), .p ((r == 10) = false), .eqN s.length 16, .eqN s.length 16, .p (Bytes s), .p (TABLaw = TABLaw), .eqN s.length 16, .p (Bytes (turnedLaw 1 (boxedLaw s))), .leI 0 r, .leI (r + 1) 11, .leN (r.toNat * 16 + 16) ks.length, .eqN (List.take 16 (dropO (r.toNat * 16)
 ks)).length 16, .p (Bytes (mixLaw (turnedLaw 1 (boxedLaw s)))), .p (Bytes (List.take 16 (dropO (r.toNat * 16) ks))), .rng (-9223372036854775808) (r + 1) 9223372036854775807]) : Ok (A23 r s ks zs bs g0 g1 e1 ow0 ow1) := Ok.dem (fl := bitsF 77 35521218822961155735294) (by kernel_rfl) (by kernel_rfl) (by kernel_rfl) h
theorem A23_ex {r : Int} {s ks : List Int} {zs bs : List Int} {g0 g1 e1 : Nat} {ow0 ow1 : Bool} : (A23 r s ks zs bs g0 g1 e1 ow0 ow1).ex = .normal := by kernel_rfl
theorem A23_fm {r : Int} {s ks : List Int} {zs bs : List Int} {g0 g1 e1 : Nat} {ow0 ow1 : Bool} : (A23 r s ks zs bs g0 g1 e1 ow0 ow1).fm = [(6, .var 2 0), (7, .var 3 0), (8, .var 4 0), (9, .int .i64 (r + 1))] := by kernel_rfl
theorem A23_tab {r : Int} {s ks : List Int} {zs bs : List Int} {g0 g1 e1 : Nat} {ow0 ow1 : Bool} : (A23 r s ks zs bs g0 g1 e1 ow0 ow1).tab = [some ⟨.ints .u8 zs, g0, ow0, 5⟩, some ⟨.ints .u8 bs, g1, ow1, e1⟩, some ⟨.ints .u8 TABLaw, 0, true, 72⟩, some ⟨.ints .u8 ks, 0, true, 49⟩, some ⟨.ints .u8 (plusLaw (mixLaw (turnedLaw 1 (boxedLaw s))) (List.take 16 (dropO (r.toNat * 16) ks))), 0, true, 48⟩] :=
 by kernel_rfl
noncomputable def C23 (r : Int) (s ks : List Int) (zs bs : List Int) (g0 g1 e1 : Nat) (ow0 ow1 : Bool) : Out := trim 5 5 [6,7,8,9] (run eP 57 ⟨5, []⟩ 400 (roundOf 0 f23) [(6, .var 2 0), (7, .var 3 0), (8, .var 4 0), (9, .int .i64 r)] [some ⟨.ints .u8 zs, g0, ow0, 5⟩, some ⟨.ints .u8 bs, g1, ow1, e1⟩, some ⟨.ints .u8 TABLaw, 0, true, 72⟩, some ⟨.ints .u8 ks, 0, true, 49⟩, some ⟨.ints .u8 s, 0, true, 48⟩] [some true, some true])
theorem C23_ok {r : Int} {s ks : List Int} {zs bs : List Int} {g0 g1 e1 : Nat} {ow0 ow1 : Bool} (h : allP [.p (decide (r < 11) = true), .p ((r == 10) = true), .eqN s.length 16, .eqN s.length 16, .p (Bytes s), .p (TABLaw = TABLaw), .eqN s.length 16, .leI 0 r, .leI (r + 1) 11, .leN (r.toNat * 16 + 16) ks.length, .eqN (List.take 16 (dropO (r.toNat * 16) ks)).length 16, .p (Bytes (turnedLaw 1 (boxedLaw
 s))), .p (Bytes (List.take 16 (dropO (r.toNat * 16) ks))), .rng (-9223372036854775808) (r + 1) 9223372036854775807]) : Ok (C23 r s ks zs bs g0 g1 e1 ow0 ow1) := Ok.dem (fl := bitsF 65 8672173663382929150) (by kernel_rfl) (by kernel_rfl) (by kernel_rfl) h
theorem C23_ex {r : Int} {s ks : List Int} {zs bs : List Int} {g0 g1 e1 : Nat} {ow0 ow1 : Bool} : (C23 r s ks zs bs g0 g1 e1 ow0 ow1).ex = .normal := by kernel_rfl
theorem C23_fm {r : Int} {s ks : List Int} {zs bs : List Int} {g0 g1 e1 : Nat} {ow0 ow1 : Bool} : (C23 r s ks zs bs g0 g1 e1 ow0 ow1).fm = [(6, .var 2 0), (7, .var 3 0), (8, .var 4 0), (9, .int .i64 (r + 1))] := by kernel_rfl
theorem C23_tab {r : Int} {s ks : List Int} {zs bs : List Int} {g0 g1 e1 : Nat} {ow0 ow1 : Bool} : (C23 r s ks zs bs g0 g1 e1 ow0 ow1).tab = [some ⟨.ints .u8 zs, g0, ow0, 5⟩, some ⟨.ints .u8 bs, g1, ow1, e1⟩, some ⟨.ints .u8 TABLaw, 0, true, 72⟩, some ⟨.ints .u8 ks, 0, true, 49⟩, some ⟨.ints .u8 (plusLaw (turnedLaw 1 (boxedLaw s)) (List.take 16 (dropO (r.toNat * 16) ks))), 0, true, 48⟩] := by
 kernel_rfl
noncomputable def D23 (r : Int) (s ks : List Int) (zs bs : List Int) (g0 g1 e1 : Nat) (ow0 ow1 : Bool) : Out := trim 5 5 [8] (run eP 57 ⟨5, []⟩ 400 (roundOf 0 f23) [(6, .var 2 0), (7, .var 3 0), (8, .var 4 0), (9, .int .i64 r)] [some ⟨.ints .u8 zs, g0, ow0, 5⟩, some ⟨.ints .u8 bs, g1, ow1, e1⟩, some ⟨.ints .u8 TABLaw, 0, true, 72⟩, some ⟨.ints .u8 ks, 0, true, 49⟩, some ⟨.ints .u8 s, 0, true, 48⟩] [some false])
theorem D23_ok {r : Int} {s ks : List Int} {zs bs : List Int} {g0 g1 e1 : Nat} {ow0 ow1 : Bool} (h : allP [.p (decide (r < 11) = false)]) : Ok (D23 r s ks zs bs g0 g1 e1 ow0 ow1) := Ok.dem (fl := [false]) (by kernel_rfl) (by kernel_rfl) (by kernel_rfl) h
theorem D23_ex {r : Int} {s ks : List Int} {zs bs : List Int} {g0 g1 e1 : Nat} {ow0 ow1 : Bool} : (D23 r s ks zs bs g0 g1 e1 ow0 ow1).ex = .exit 0 := by kernel_rfl
theorem D23_fm {r : Int} {s ks : List Int} {zs bs : List Int} {g0 g1 e1 : Nat} {ow0 ow1 : Bool} : (D23 r s ks zs bs g0 g1 e1 ow0 ow1).fm = [(8, .var 4 0)] := by kernel_rfl
theorem D23_tab {r : Int} {s ks : List Int} {zs bs : List Int} {g0 g1 e1 : Nat} {ow0 ow1 : Bool} : (D23 r s ks zs bs g0 g1 e1 ow0 ow1).tab = [some ⟨.ints .u8 zs, g0, ow0, 5⟩, some ⟨.ints .u8 bs, g1, ow1, e1⟩, some ⟨.ints .u8 TABLaw, 0, true, 72⟩, some ⟨.ints .u8 ks, 0, true, 49⟩, some ⟨.ints .u8 s, 0, true, 48⟩] := by kernel_rfl
def T23 (ks zs bs : List Int) (g0 g1 e1 : Nat) (ow0 ow1 : Bool) (s : List Int) : Tab := [some ⟨.ints .u8 zs, g0, ow0, 5⟩, some ⟨.ints .u8 bs, g1, ow1, e1⟩, some ⟨.ints .u8 TABLaw, 0, true, 72⟩, some ⟨.ints .u8 ks, 0, true, 49⟩, some ⟨.ints .u8 s, 0, true, 48⟩]
def F23 (r : Int) : Fm := [(6, .var 2 0), (7, .var 3 0), (8, .var 4 0), (9, .int .i64 r)]
theorem loop23 {ks s : List Int} (hk : ks.length = 176) (hkb : Bytes ks) (hs : Bytes s) {zs bs : List Int} {g0 g1 e1 : Nat} {ow0 ow1 : Bool} :
    To eP 57 5 (.block 0 (.loop (roundOf 0 f23))) (F23 1) (T23 ks zs bs g0 g1 e1 ow0 ow1 (encLaw ks s 0)) .normal [(8, .var 4 0)] (T23 ks zs bs g0 g1 e1 ow0 ow1 (encLaw ks s 10)) := by
  refine To.rounds (fun i : Nat => F23 (i + 1 : Nat)) (fun i => T23 ks zs bs g0 g1 e1 ow0 ow1 (encLaw ks s i)) 10 (fun i hi => ?_)
    (To.of (o := D23 (11 : Nat) (encLaw ks s 10) ks zs bs g0 g1 e1 ow0 ow1) eP_ok hmA (Nat.le_refl 5) OrcOk.nil rfl (D23_ok (by simp [allP, Con.h])) D23_ex D23_fm D23_tab)
  have hl := enc_len ks s i
  have hb := enc_bytes hkb hs i
  have hb1 := turned_bytes (n := 1) (boxed_bytes hb)
  have hm := mix_bytes (turnedLaw 1 (boxedLaw (encLaw ks s i)))
  have hsl : (subLaw ks (16 * (i + 1)) 16).length = 16 := subLaw_len (by omega)
  have hsb := sub_bytes hkb (16 * (i + 1)) 16
  have q1 : List.take 16 (dropO (((i + 1 : Nat) : Int).toNat * 16) ks) = subLaw ks (16 * (i + 1)) 16 := by rw [sub_eq, Int.toNat_natCast, Nat.mul_comm]
  by_cases h : i = 9
  · subst h
    refine To.of (o := C23 (10 : Nat) (encLaw ks s 9) ks zs bs g0 g1 e1 ow0 ow1) eP_ok hmA (Nat.le_refl 5) OrcOk.nil rfl (C23_ok ?_) C23_ex C23_fm (by rw [C23_tab, q1]; rfl)
    rw [q1]
    simp only [allP, Con.h, hl, hb, hb1, hsl, hsb, hk, TABLaw_len, decide_eq_true_eq, eq_self, and_true, true_and]
    first | omega | exact ⟨by decide, by decide, by decide, by decide⟩ | simp
  · have hne : ((((i + 1 : Nat) : Int) == 10) = false) := by simp only [beq_eq_false_iff_ne, ne_eq]; omega
    refine To.of (o := A23 (i + 1 : Nat) (encLaw ks s i) ks zs bs g0 g1 e1 ow0 ow1) eP_ok hmA (Nat.le_refl 5) OrcOk.nil rfl (A23_ok ?_) A23_ex A23_fm ?_
    · rw [q1]
      simp only [allP, Con.h, hl, hb, hb1, hm, hsl, hsb, hk, hne, TABLaw_len, decide_eq_true_eq, eq_self, and_true, true_and, Int.toNat_natCast]
      omega
    · rw [A23_tab, q1]
      show _ = T23 ks zs bs g0 g1 e1 ow0 ow1 (encRLaw ks (encLaw ks s i) (i + 1))
      unfold encRLaw
      rw [if_neg (by omega)]
      rfl
def g23 : List AVal → Tab → Out := fun vs T => match vs, T with
  | [.var 2 0, .var 3 0, .var 4 0, .int .i64 r], [some ⟨.ints .u8 zs, g0, ow0, 5⟩, some ⟨.ints .u8 bs, g1, ow1, e1⟩, some ⟨.ints .u8 tb, 0, true, 72⟩, some ⟨.ints .u8 ks, 0, true, 49⟩, some ⟨.ints .u8 s, 0, true, 48⟩] =>
    ⟨[.rng 1 r 1, .p (tb = TABLaw), .eqN ks.length 176, .p (Bytes ks), .p (Bytes (subLaw bs 0 16)), .p (s = encLaw ks (subLaw bs 0 16) 0)], .normal, [(8, .var 4 0)],
      [some ⟨.ints .u8 zs, g0, ow0, 5⟩, some ⟨.ints .u8 bs, g1, ow1, e1⟩, some ⟨.ints .u8 tb, 0, true, 72⟩, some ⟨.ints .u8 ks, 0, true, 49⟩, some ⟨.ints .u8 (blockLaw ks (subLaw bs 0 16)), 0, true, 48⟩], []⟩
  | _, _ => failO
theorem g23_ok : BlkOk eP f23 0 (.loop (roundOf 0 f23)) (blkS 5 [6,7,8,9] g23) := by
  refine blkS_ok fun vs T h => ?_
  unfold g23 at h ⊢
  split at h
  · rename_i r zs g0 ow0 bs g1 ow1 e1 tb ks s
    obtain ⟨h1, h2, h3, h4, h5, h6, _⟩ := h.h
    simp only [Con.h] at h1 h2 h3 h4 h5 h6
    obtain rfl : r = 1 := by omega
    subst h2 h6
    exact loop23 h3 h4 h5
  · exact absurd h nofailO
end Go.Abs

set_option linter.unusedVariables false
set_option linter.unusedSimpArgs false
namespace Go.Abs
/-! ### bytes, words, numbers -/
def nB : List Int → Nat
  | [] => 0
  | z :: r => z.toNat * 256 ^ r.length + nB r
theorem Bytes.tl {z : Int} {r : List Int} (h : Bytes (z :: r)) : Bytes r := fun i hi => by
  have := h (i + 1) (by simpa using hi)
  simpa using this
theorem Bytes.hd {z : Int} {r : List Int} (h : Bytes (z :: r)) : 0 ≤ z ∧ z < 256 := by simpa using h 0 (by simp)
theorem p256 (n : Nat) : 256 ^ n = 2 ^ (8 * n) := by rw [Nat.pow_mul]
theorem nB_lt : ∀ {l : List Int}, Bytes l → nB l < 2 ^ (8 * l.length)
  | [], _ => by simp [nB]
  | z :: r, h => by
    have h1 := nB_lt h.tl
    have h2 := h.hd
    simp only [nB, List.length_cons]
    rw [p256, show 8 * (r.length + 1) = 8 * r.length + 8 by omega, Nat.pow_add]
    have : z.toNat + 1 ≤ 256 := by omega
    have h3 := Nat.mul_le_mul_right (2 ^ (8 * r.length)) this
    rw [Nat.add_mul, Nat.one_mul] at h3
    rw [Nat.mul_comm (2 ^ (8 * r.length))]
    omega
theorem nB_app (a b : List Int) : nB (a ++ b) = nB a * 256 ^ b.length + nB b := by
  induction a with
  | nil => simp [nB]
  | cons z r ih =>
    rw [List.cons_append]
    simp only [nB, ih, List.length_append, Nat.pow_add, Nat.add_mul, Nat.mul_assoc, Nat.add_assoc]
theorem nB_bit : ∀ {l : List Int}, Bytes l → ∀ k, k < l.length → ∀ j, j < 8 → (nB l).testBit (8 * (l.length - 1 - k) + j) = (l.getD k 0).toNat.testBit j
  | z :: r, h, k, hk, j, hj => by
    have h1 := nB_lt h.tl
    simp only [nB, List.length_cons]
    rw [p256, Nat.mul_comm z.toNat, Nat.testBit_two_pow_mul_add _ h1]
    cases k with
    | zero =>
      rw [if_neg (by omega), show 8 * (r.length + 1 - 1 - 0) + j - 8 * r.length = j by omega]
      rfl
    | succ k =>
      simp only [List.length_cons] at hk
      rw [if_pos (by omega), show 8 * (r.length + 1 - 1 - (k + 1)) + j = 8 * (r.length - 1 - k) + j by omega, nB_bit h.tl k (by omega) j hj]
      rfl
theorem bit_big {x n j : Nat} (h : x < 2 ^ n) (hj : n ≤ j) : x.testBit j = false := Nat.testBit_lt_two_pow (Nat.lt_of_lt_of_le h (Nat.pow_le_pow_right (by decide) hj))
theorem nB_ext {l : List Int} (h : Bytes l) (hl : l.length = 16) {x : Nat} (hx : x < 2 ^ 128) (hb : ∀ k, k < 16 → ∀ j, j < 8 → (l.getD k 0).toNat.testBit j = x.testBit (8 * (15 - k) + j)) : nB l = x := by
  apply Nat.eq_of_testBit_eq
  intro i
  by_cases hi : i < 128
  · have e := nB_bit h (15 - i / 8) (by omega) (i % 8) (Nat.mod_lt _ (by decide))
    rw [hl, show 8 * (16 - 1 - (15 - i / 8)) + i % 8 = i by omega] at e
    rw [e, hb (15 - i / 8) (by omega) (i % 8) (Nat.mod_lt _ (by decide)), show 8 * (15 - (15 - i / 8)) + i % 8 = i by omega]
  · rw [bit_big (n := 8 * l.length) (nB_lt h) (by omega), bit_big hx (by omega)]
theorem nB_lt16 {l : List Int} (h : Bytes l) (hl : l.length = 16) : nB l < 2 ^ 128 := by
  have := nB_lt h
  rwa [hl] at this
theorem nB_bit16 {l : List Int} (h : Bytes l) (hl : l.length = 16) {k j : Nat} (hk : k < 16) (hj : j < 8) : (nB l).testBit (8 * (15 - k) + j) = (l.getD k 0).toNat.testBit j := by
  have := nB_bit h k (by omega) j hj
  rwa [hl, show 16 - 1 - k = 15 - k by omega] at this
def bN (x : Nat) : List Int := l16 fun i => ((x >>> (8 * (15 - i)) % 256 : Nat) : Int)
theorem bN_len (x : Nat) : (bN x).length = 16 := rfl
theorem bN_get (x : Nat) {k : Nat} (hk : k < 16) : (bN x).getD k 0 = ((x >>> (8 * (15 - k)) % 256 : Nat) : Int) := l16_get _ k hk
theorem bN_bytes (x : Nat) : Bytes (bN x) := l16_bytes fun i _ => by omega
theorem nB_bN {x : Nat} (hx : x < 2 ^ 128) : nB (bN x) = x := nB_ext (bN_bytes x) (bN_len x) hx fun k hk j hj => by
  rw [bN_get x hk, Int.toNat_natCast, show 256 = 2 ^ 8 by rfl, Nat.testBit_mod_two_pow, Nat.testBit_shiftRight]
  simp [hj]
theorem bN_nB {l : List Int} (h : Bytes l) (hl : l.length = 16) : bN (nB l) = l := by
  refine Eq.trans (l16_congr fun k hk => ?_) (l16_of hl)
  have hk2 := h.get k
  have : nB l >>> (8 * (15 - k)) % 256 = (l.getD k 0).toNat := by
    apply Nat.eq_of_testBit_eq
    intro j
    rw [show 256 = 2 ^ 8 by rfl, Nat.testBit_mod_two_pow, Nat.testBit_shiftRight]
    by_cases hj : j < 8
    · rw [nB_bit16 h hl hk hj]; simp [hj]
    · rw [bit_big (x := (l.getD k 0).toNat) (n := 8) (by omega) (by omega)]; simp [hj]
  rw [this]; omega
theorem nB_plus {s k : List Int} (hs : Bytes s) (hk : Bytes k) (ls : s.length = 16) (lk : k.length = 16) : nB (plusLaw s k) = nB s ^^^ nB k := by
  refine nB_ext (plus_bytes hs hk) rfl (Nat.xor_lt_two_pow (nB_lt16 hs ls) (nB_lt16 hk lk)) fun i hi j hj => ?_
  rw [Nat.testBit_xor, nB_bit16 hs ls hi hj, nB_bit16 hk lk hi hj, show (plusLaw s k).getD i 0 = ixor (s.getD i 0) (k.getD i 0) from l16_get _ i hi]
  simp only [ixor, Int.toNat_natCast, Nat.testBit_xor]
theorem bN_xor (x y : Nat) : bN (x ^^^ y) = plusLaw (bN x) (bN y) := by
  refine l16_congr fun k hk => ?_
  rw [bN_get x hk, bN_get y hk]
  simp only [ixor, Int.toNat_natCast]
  congr 1
  rw [Nat.shiftRight_xor_distrib, show 256 = 2 ^ 8 by rfl, Nat.xor_mod_two_pow]
/-! a pair of words -/
def nW (w : List Int) : Nat := (w.getD 0 0).toNat * 2 ^ 64 + (w.getD 1 0).toNat
def wN (x : Nat) : List Int := [((x >>> 64 : Nat) : Int), ((x % 2 ^ 64 : Nat) : Int)]
theorem wN_hi {x : Nat} (h : x < 2 ^ 128) : x >>> 64 < 2 ^ 64 := by rw [Nat.shiftRight_eq_div_pow]; omega
theorem nW_wN (x : Nat) : nW (wN x) = x := by
  show (((x >>> 64 : Nat) : Int)).toNat * 2 ^ 64 + (((x % 2 ^ 64 : Nat) : Int)).toNat = x
  rw [Int.toNat_natCast, Int.toNat_natCast, Nat.shiftRight_eq_div_pow]
  omega
theorem wN_xor (x y : Nat) : wN (x ^^^ y) = [ixor ((wN x).getD 0 0) ((wN y).getD 0 0), ixor ((wN x).getD 1 0) ((wN y).getD 1 0)] := by
  show [_, _] = [(_ : Int), _]
  simp only [wN, ixor, List.getD_cons_zero, List.getD_cons_succ, Int.toNat_natCast, Nat.shiftRight_xor_distrib, Nat.xor_mod_two_pow]
/-- a step of a product, of words -/
theorem dN_hi {x : Nat} : dN x >>> 64 = (x >>> 64) >>> 1 ^^^ (if x.testBit 0 then 225 * 2 ^ 56 else 0) := by
  unfold dN
  rw [Nat.shiftRight_xor_distrib, ← Nat.shiftRight_add, ← Nat.shiftRight_add, Nat.add_comm 1 64]
  congr 1
  split
  · rw [Nat.shiftLeft_eq, Nat.shiftRight_eq_div_pow, show 225 * 2 ^ 120 = 225 * 2 ^ 56 * 2 ^ 64 by rfl]
  · rw [Nat.zero_shiftRight]
theorem dN_lo {x : Nat} : dN x % 2 ^ 64 = (x % 2 ^ 64) >>> 1 ||| (x >>> 64) * 2 ^ 63 % 2 ^ 64 := by
  unfold dN
  rw [Nat.xor_mod_two_pow]
  have e : (if x.testBit 0 = true then 225 <<< 120 else 0) % 2 ^ 64 = 0 := by
    split
    · rw [Nat.shiftLeft_eq, show 225 * 2 ^ 120 = 225 * 2 ^ 56 * 2 ^ 64 by rfl]
    · rfl
  rw [e, Nat.xor_zero]
  apply Nat.eq_of_testBit_eq
  intro j
  rw [Nat.testBit_mod_two_pow, Nat.testBit_shiftRight, Nat.testBit_or, Nat.testBit_shiftRight, Nat.testBit_mod_two_pow, Nat.testBit_mod_two_pow, Nat.mul_comm (x >>> 64), Nat.testBit_two_pow_mul, Nat.testBit_shiftRight]
  by_cases hj : j < 63
  · have h1 : j < 64 := by omega
    have h2 : 1 + j < 64 := by omega
    have h3 : ¬ 63 ≤ j := by omega
    simp [h1, h2, h3]
  · by_cases hj' : j = 63
    · subst hj'; simp
    · have h1 : ¬ j < 64 := by omega
      have h2 : ¬ 1 + j < 64 := by omega
      simp [h1, h2]
theorem wN_d {x : Nat} (h : x < 2 ^ 128) : wN (dN x) = [ixor ((wN x).getD 0 0 / 2) (iand ((wN x).getD 1 0) 1 * 16212958658533785600 % 18446744073709551616), ior ((wN x).getD 1 0 / 2) ((wN x).getD 0 0 * 9223372036854775808 % 18446744073709551616)] := by
  have e1 : (((x >>> 64 : Nat) : Int) / 2).toNat = (x >>> 64) >>> 1 := by rw [Nat.shiftRight_eq_div_pow (x >>> 64)]; omega
  have e2 : (((x % 2 ^ 64 : Nat) : Int) / 2).toNat = (x % 2 ^ 64) >>> 1 := by rw [Nat.shiftRight_eq_div_pow (x % 2 ^ 64)]; omega
  have e3 : (((x >>> 64 : Nat) : Int) * 9223372036854775808 % 18446744073709551616).toNat = (x >>> 64) * 2 ^ 63 % 2 ^ 64 := by omega
  have e4 : (iand ((x % 2 ^ 64 : Nat) : Int) 1 * 16212958658533785600 % 18446744073709551616).toNat = if x.testBit 0 then 225 * 2 ^ 56 else 0 := by
    simp only [iand, Int.toNat_natCast, show (1 : Int).toNat = 1 by rfl, Nat.and_one_is_mod, Nat.testBit_zero]
    by_cases h1 : x % 2 = 1
    · have : x % 2 ^ 64 % 2 = 1 := by omega
      rw [if_pos (by simp [h1]), this]; rfl
    · have : x % 2 ^ 64 % 2 = 0 := by omega
      rw [if_neg (by simp [h1]), this]; rfl
  show [((dN x >>> 64 : Nat) : Int), ((dN x % 2 ^ 64 : Nat) : Int)] = [ixor (((x >>> 64 : Nat) : Int) / 2) (iand ((x % 2 ^ 64 : Nat) : Int) 1 * 16212958658533785600 % 18446744073709551616), ior (((x % 2 ^ 64 : Nat) : Int) / 2) (((x >>> 64 : Nat) : Int) * 9223372036854775808 % 18446744073709551616)]
  unfold ixor ior
  rw [e1, e2, e3, e4, dN_hi, dN_lo]
/-- a bit of a pair of words -/
theorem wN_bit {x i : Nat} (hi : i < 128) : (iand ((wN x).getD (((i : Int)).tdiv 64).toNat 0 / 2 ^ (63 - ((i : Int)).tmod 64).toNat) 1 == 1) = x.testBit (127 - i) := by
  rw [Int.tdiv_eq_ediv_of_nonneg (by omega), Int.tmod_eq_emod_of_nonneg (by omega), show ((i : Int) / 64).toNat = i / 64 by omega, show (63 - (i : Int) % 64).toNat = 63 - i % 64 by omega]
  have key : ∀ y s : Nat, (iand ((y : Int) / 2 ^ s) 1 == 1) = y.testBit s := fun y s => by
    have : (y : Int) / 2 ^ s = ((y >>> s : Nat) : Int) := by rw [Nat.shiftRight_eq_div_pow]; simp
    rw [this]
    simp only [iand, Int.toNat_natCast, show (1 : Int).toNat = 1 by rfl, Nat.and_one_is_mod]
    rw [← Nat.zero_add s, ← Nat.add_comm s, ← Nat.testBit_shiftRight, Nat.testBit_zero, Nat.add_zero]
    have : y >>> s % 2 < 2 := Nat.mod_lt _ (by decide)
    by_cases h : y >>> s % 2 = 1
    · simp [h]
    · have : y >>> s % 2 = 0 := by omega
      simp [this]
  by_cases h : i < 64
  · rw [show i / 64 = 0 by omega]
    show (iand (((x >>> 64 : Nat) : Int) / 2 ^ (63 - i % 64)) 1 == 1) = _
    rw [key, Nat.testBit_shiftRight]
    congr 1; omega
  · rw [show i / 64 = 1 by omega]
    show (iand (((x % 2 ^ 64 : Nat) : Int) / 2 ^ (63 - i % 64)) 1 == 1) = _
    rw [key, Nat.testBit_mod_two_pow, show 63 - i % 64 = 127 - i by omega]
    simp [show 127 - i < 64 by omega]
/-- a bit of bytes -/
theorem nB_tbit {b : List Int} (h : Bytes b) (hl : b.length = 16) {i : Nat} (hi : i < 128) : (nB b).testBit (127 - i) = ((b.getD (i / 8) 0).toNat >>> (7 - i % 8)).testBit 0 := by
  rw [Nat.testBit_shiftRight, ← nB_bit16 h hl (k := i / 8) (by omega) (by omega)]
  congr 1; omega
/-- a number out of bytes, one by one -/
def gLaw (a : Int) : List Int → Int
  | [] => a
  | z :: r => gLaw (ior (a * 256 % 18446744073709551616) z) r
theorem or_add {a c : Nat} (h : c < 256) : a * 256 ||| c = a * 256 + c := by
  have := Nat.two_pow_add_eq_or_of_lt (i := 8) (b := c) (by omega) a
  rw [Nat.mul_comm a 256]
  exact this.symm
theorem gLaw_eq : ∀ {l : List Int} {a : Nat}, Bytes l → l.length ≤ 8 → a < 256 ^ (8 - l.length) → gLaw (a : Int) l = ((a * 256 ^ l.length + nB l : Nat) : Int)
  | [], a, _, _, _ => by simp [gLaw, nB]
  | z :: r, a, h, hl, ha => by
    have hz := h.hd
    obtain ⟨c, rfl⟩ : ∃ c : Nat, z = c := ⟨z.toNat, by omega⟩
    simp only [List.length_cons] at ha hl
    have hp : 256 ^ (8 - r.length) = 256 ^ (8 - (r.length + 1)) * 256 := by rw [show 8 - r.length = 8 - (r.length + 1) + 1 by omega, Nat.pow_succ]
    have hq : 256 ^ (8 - r.length) ≤ 256 ^ 8 := Nat.pow_le_pow_right (by decide) (by omega)
    have e1 : ior ((a : Int) * 256 % 18446744073709551616) (c : Int) = ((a * 256 + c : Nat) : Int) := by
      have : ((a : Int) * 256 % 18446744073709551616) = ((a * 256 : Nat) : Int) := by omega
      rw [this]
      simp only [ior, Int.toNat_natCast]
      rw [or_add (by omega)]
    show gLaw (ior ((a : Int) * 256 % 18446744073709551616) (c : Int)) r = _
    rw [e1, gLaw_eq h.tl (by omega) (by omega)]
    congr 1
    simp only [nB, List.length_cons, Int.toNat_natCast, Nat.pow_succ]
    rw [Nat.add_mul, Nat.mul_comm (256 ^ r.length) 256, Nat.mul_assoc, Nat.add_assoc]
/-- the words of sixteen bytes -/
theorem wN_nB {b : List Int} (h : Bytes b) (hl : b.length = 16) : wN (nB b) = [gLaw 0 (b.take 8), gLaw 0 (b.drop 8)] := by
  have h1 : (b.take 8).length = 8 := by rw [List.length_take]; omega
  have h2 : (b.drop 8).length = 8 := by rw [List.length_drop]; omega
  have e1 := gLaw_eq (a := 0) (h.take 8) (by omega) (by rw [h1]; decide)
  have e2 := gLaw_eq (a := 0) (h.drop 8) (by omega) (by rw [h2]; decide)
  have b1 := nB_lt (h.take 8)
  have b2 := nB_lt (h.drop 8)
  rw [h1] at b1
  rw [h2] at b2
  have e : nB b = nB (b.take 8) * 256 ^ 8 + nB (b.drop 8) := by
    have := nB_app (b.take 8) (b.drop 8)
    rwa [List.take_append_drop, h2] at this
  rw [show (0 : Int) = ((0 : Nat) : Int) by rfl, e1, e2, Nat.zero_mul, Nat.zero_mul, Nat.zero_add, Nat.zero_add]
  unfold wN
  rw [e, Nat.shiftRight_eq_div_pow, show 256 ^ 8 = 2 ^ 64 by rfl]
  congr 1
  · congr 1; omega
  · congr 2; omega
/-- sixteen bytes of two words -/
theorem bN_w {x : Nat} (h : x < 2 ^ 128) : bN x = l16 fun i => ((((wN x).getD (i / 8) 0).toNat >>> (56 - 8 * (i % 8)) % 256 : Nat) : Int) := by
  refine l16_congr fun i hi => ?_
  congr 1
  by_cases hk : i < 8
  · rw [show i / 8 = 0 by omega]
    simp only [wN, List.getD_cons_zero, Int.toNat_natCast]
    rw [← Nat.shiftRight_add]
    congr 2; omega
  · rw [show i / 8 = 1 by omega]
    simp only [wN, List.getD_cons_succ, List.getD_cons_zero, Int.toNat_natCast]
    apply Nat.eq_of_testBit_eq
    intro j
    rw [show 256 = 2 ^ 8 by rfl, Nat.testBit_mod_two_pow, Nat.testBit_mod_two_pow, Nat.testBit_shiftRight, Nat.testBit_shiftRight, Nat.testBit_mod_two_pow]
    by_cases hj : j < 8
    · have : 56 - 8 * (i % 8) + j < 64 := by omega
      rw [show 8 * (15 - i) + j = 56 - 8 * (i % 8) + j by omega]
      simp [hj, this]
    · simp [hj]
/-- a step of a product, of bytes -/
def hLaw (x : List Int) : List Int := l16 fun i => if i = 0 then (((x.getD 0 0).toNat / 2 : Nat) : Int) else ior (((x.getD i 0).toNat / 2 : Nat) : Int) (((x.getD (i - 1) 0).toNat * 128 % 256 : Nat) : Int)
theorem hLaw_bytes {x : List Int} (h : Bytes x) : Bytes (hLaw x) := l16_bytes fun i hi => by
  have h1 := h.get i
  have h0 := h.get 0
  split
  · omega
  · have := Nat.or_lt_two_pow (n := 8) (x := (x.getD i 0).toNat / 2) (y := (x.getD (i - 1) 0).toNat * 128 % 256) (by omega) (by omega)
    simp only [ior, Int.toNat_natCast]
    omega
theorem nB_half {x : List Int} (h : Bytes x) (hl : x.length = 16) : nB (hLaw x) = nB x >>> 1 := by
  have hlt := nB_lt16 h hl
  refine nB_ext (hLaw_bytes h) rfl (by rw [Nat.shiftRight_eq_div_pow]; omega) fun k hk j hj => ?_
  rw [Nat.testBit_shiftRight, show (hLaw x).getD k 0 = _ from l16_get _ k hk]
  have e8 : ∀ y : Nat, y / 2 = y >>> 1 := fun y => by rw [Nat.shiftRight_eq_div_pow]
  by_cases hk0 : k = 0
  · subst hk0
    rw [if_pos rfl, Int.toNat_natCast, e8, Nat.testBit_shiftRight]
    by_cases hj7 : j < 7
    · rw [show 1 + (8 * (15 - 0) + j) = 8 * (15 - 0) + (1 + j) by omega, nB_bit16 h hl (by omega) (by omega)]
    · have h0 := h.get 0
      rw [bit_big hlt (by omega), bit_big (n := 8) (x := (x.getD 0 0).toNat) (by omega) (by omega)]
  · rw [if_neg hk0]
    simp only [ior, Int.toNat_natCast]
    rw [Nat.testBit_or, e8, Nat.testBit_shiftRight, show 256 = 2 ^ 8 by rfl, Nat.testBit_mod_two_pow, show 128 = 2 ^ 7 by rfl, Nat.mul_comm, Nat.testBit_two_pow_mul]
    by_cases hj7 : j < 7
    · rw [show 1 + (8 * (15 - k) + j) = 8 * (15 - k) + (1 + j) by omega, nB_bit16 h hl (by omega) (by omega)]
      simp [show ¬ 7 ≤ j by omega]
    · obtain rfl : j = 7 := by omega
      have hkk := h.get k
      rw [show 1 + (8 * (15 - k) + 7) = 8 * (15 - (k - 1)) + 0 by omega, nB_bit16 h hl (by omega) (by omega), bit_big (n := 8) (x := (x.getD k 0).toNat) (by omega) (by omega)]
      simp
/-- the same, with the polynomial -/
def dLaw (x : List Int) : List Int := if (x.getD 15 0).toNat.testBit 0 then (hLaw x).set 0 (ixor ((hLaw x).getD 0 0) 225) else hLaw x
theorem set0 (x : List Int) (v : Int) : (hLaw x).set 0 v = l16 fun i => if i = 0 then v else (hLaw x).getD i 0 := rfl
theorem dLaw_len (x : List Int) : (dLaw x).length = 16 := by unfold dLaw; split <;> rfl
theorem dLaw_bytes {x : List Int} (h : Bytes x) : Bytes (dLaw x) := by
  have hh := hLaw_bytes h
  unfold dLaw
  split
  · rw [set0]
    refine l16_bytes fun i hi => ?_
    split
    · exact ixor_lt8 (hh.get 0) (by decide)
    · exact hh.get i
  · exact hh
theorem nB_d {x : List Int} (h : Bytes x) (hl : x.length = 16) : nB (dLaw x) = dN (nB x) := by
  have hlt := nB_lt16 h hl
  have e0 : (x.getD 15 0).toNat.testBit 0 = (nB x).testBit 0 := by
    have := nB_bit16 h hl (k := 15) (j := 0) (by decide) (by decide)
    rw [← this]
  have hh := hLaw_bytes h
  have eh := nB_half h hl
  unfold dLaw dN
  rw [← e0]
  split
  · have : (hLaw x).set 0 (ixor ((hLaw x).getD 0 0) 225) = plusLaw (hLaw x) (bN (225 <<< 120)) := by
      have hz : bN (225 <<< 120) = [225, 0, 0, 0, 0, 0, 0, 0, 0, 0, 0, 0, 0, 0, 0, 0] := by decide
      rw [set0, hz]
      refine l16_congr fun i hi => ?_
      by_cases hi0 : i = 0
      · subst hi0; rfl
      · rw [if_neg hi0]
        have hz2 : ([225, 0, 0, 0, 0, 0, 0, 0, 0, 0, 0, 0, 0, 0, 0, 0] : List Int).getD i 0 = 0 := by
          match i, hi, hi0 with
          | 1, _, _ => rfl | 2, _, _ => rfl | 3, _, _ => rfl | 4, _, _ => rfl | 5, _, _ => rfl | 6, _, _ => rfl | 7, _, _ => rfl | 8, _, _ => rfl
          | 9, _, _ => rfl | 10, _, _ => rfl | 11, _, _ => rfl | 12, _, _ => rfl | 13, _, _ => rfl | 14, _, _ => rfl | 15, _, _ => rfl
          | n + 16, h, _ => exact absurd h (by omega)
        rw [hz2]
        have := hh.get i
        simp only [ixor, show (0 : Int).toNat = 0 by rfl, Nat.xor_zero]
        omega
    rw [this, nB_plus hh (bN_bytes _) rfl rfl, nB_bN (by decide), eh]
  · rw [eh, Nat.xor_zero]
end Go.Abs

set_option linter.unusedVariables false
set_option linter.unusedSimpArgs false
set_option maxRecDepth 8000
namespace Go.Abs
open Go.Proofs.Try
/-! ### blocks as two words -/
def WpLaw (p : List Int) : Prop := ∃ x, x < 2 ^ 128 ∧ p = wN x
theorem WpLaw.of {x : Nat} (h : x < 2 ^ 128) : WpLaw (wN x) := ⟨x, h, rfl⟩
theorem WpLaw.nb {b : List Int} (h : Bytes b) (hl : b.length = 16) : WpLaw (wN (nB b)) := ⟨_, nB_lt16 h hl, rfl⟩
theorem wN_len (x : Nat) : (wN x).length = 2 := rfl
theorem wN_nn {x : Nat} (h : x < 2 ^ 128) (i : Nat) : nonneg .u64 ((wN x).getD i 0) := by
  have := wN_hi h
  match i with
  | 0 => exact ⟨Int.natCast_nonneg (x >>> 64), show ((x >>> 64 : Nat) : Int) < 18446744073709551616 by omega⟩
  | 1 => exact ⟨Int.natCast_nonneg (x % 2 ^ 64), show ((x % 2 ^ 64 : Nat) : Int) < 18446744073709551616 by omega⟩
  | i + 2 => exact ⟨Int.le_refl 0, show (0 : Int) < 18446744073709551616 by decide⟩
def gwLaw (b : List Int) : List Int := wN (nB b)
def ptLaw (p : List Int) : List Int := bN (nW p)
def xwLaw (p q : List Int) : List Int := wN (nW p ^^^ nW q)
def mwLaw (p q : List Int) : List Int := wN (mulN (nW p) (nW q))
def p128Law (p : List Int) : List Int := wN (apN (nW p) 128)
theorem pt_wN (x : Nat) : ptLaw (wN x) = bN x := by unfold ptLaw; rw [nW_wN]
theorem xw_wN (x y : Nat) : xwLaw (wN x) (wN y) = wN (x ^^^ y) := by unfold xwLaw; rw [nW_wN, nW_wN]
theorem mw_wN (x y : Nat) : mwLaw (wN x) (wN y) = wN (mulN x y) := by unfold mwLaw; rw [nW_wN, nW_wN]
theorem p128_wN (x : Nat) : p128Law (wN x) = wN (apN x 128) := by unfold p128Law; rw [nW_wN]
theorem WpLaw.gw {b : List Int} (h : Bytes b) (hl : b.length = 16) : WpLaw (gwLaw b) := .nb h hl
theorem WpLaw.lt {p : List Int} (h : WpLaw p) : nW p < 2 ^ 128 := by obtain ⟨x, hx, rfl⟩ := h; rwa [nW_wN]
theorem WpLaw.xw {p q : List Int} (hp : WpLaw p) (hq : WpLaw q) : WpLaw (xwLaw p q) := .of (Nat.xor_lt_two_pow hp.lt hq.lt)
theorem WpLaw.mw {p q : List Int} (hp : WpLaw p) : WpLaw (mwLaw p q) := .of (mulN_lt _ hp.lt)
theorem WpLaw.len {p : List Int} (h : WpLaw p) : p.length = 2 := by obtain ⟨x, _, rfl⟩ := h; rfl
theorem pt_bytes (p : List Int) : Bytes (ptLaw p) := bN_bytes _
theorem pt_len (p : List Int) : (ptLaw p).length = 16 := rfl
/-! get -/
def gsLaw (xs : List Int) : Nat → List Int
  | 0 => [0, 0]
  | i + 1 => (gsLaw xs i).set (i / 8) (ior ((gsLaw xs i).getD (i / 8) 0 * 256 % 18446744073709551616) (xs.getD i 0))
theorem gs_len (xs : List Int) : ∀ i, (gsLaw xs i).length = 2
  | 0 => rfl
  | i + 1 => by simp only [gsLaw, List.length_set, gs_len xs i]
theorem gLaw_snoc : ∀ (l : List Int) (a z : Int), gLaw a (l ++ [z]) = ior (gLaw a l * 256 % 18446744073709551616) z
  | [], a, z => rfl
  | x :: l, a, z => gLaw_snoc l _ z
theorem take_snoc {xs : List Int} {i : Nat} (h : i < xs.length) : xs.take (i + 1) = xs.take i ++ [xs.getD i 0] := by
  rw [List.take_add_one, List.getD_eq_getElem?_getD, List.getElem?_eq_getElem h]; rfl
theorem gs_lo {xs : List Int} (hl : xs.length = 16) : ∀ i, i ≤ 8 → gsLaw xs i = [gLaw 0 (xs.take i), 0]
  | 0, _ => rfl
  | i + 1, h => by
    simp only [gsLaw, gs_lo hl i (by omega), show i / 8 = 0 by omega, List.set_cons_zero, List.getD_cons_zero]
    rw [take_snoc (by omega), gLaw_snoc]
theorem gs_hi {xs : List Int} (hl : xs.length = 16) : ∀ i, i ≤ 8 → gsLaw xs (8 + i) = [gLaw 0 (xs.take 8), gLaw 0 ((xs.drop 8).take i)]
  | 0, _ => gs_lo hl 8 (Nat.le_refl 8)
  | i + 1, h => by
    rw [← Nat.add_assoc]
    simp only [gsLaw, gs_hi hl i (by omega), show (8 + i) / 8 = 1 by omega, List.set_cons_succ, List.set_cons_zero, List.getD_cons_succ, List.getD_cons_zero]
    rw [take_snoc (xs := xs.drop 8) (by rw [List.length_drop]; omega), gLaw_snoc, getD_drop]
theorem gs_eq {xs : List Int} (h : Bytes xs) (hl : xs.length = 16) : gsLaw xs 16 = wN (nB xs) := by
  rw [wN_nB h hl, show 16 = 8 + 8 by rfl, gs_hi hl 8 (Nat.le_refl 8), List.take_of_length_le (l := xs.drop 8) (by rw [List.length_drop]; omega)]
noncomputable def A59n (zs : List Int) (g e off : Nat) (ow : Bool) (ps : List Int) (i : Int) : Out := trim 3 3 [2,3,7,8,9] (run (eA []) 27 ⟨3, []⟩ 400 (roundOf 0 f59) [(2, .var 1 0), (3, .var 2 0), (7, .slice 1 0 g off 16 none), (8, .int .i64 16), (9, .int .i64 i)] [some ⟨.ints .u8 zs, g, ow, e⟩, some ⟨.ints .u64 [0, 0], 0, true, 65⟩, some ⟨.ints .u64 ps, 0, true, 65⟩] [some true])
theorem A59n_ok {zs : List Int} {g e off : Nat} {ow : Bool} {ps : List Int} {i : Int} (h : allP [.p (decide (i < 16) = true), .eqN g g, .leI 0 i, .leI (i + 1) 16, .eqN g g, .leN (addO off i.toNat + 1) zs.length, .rng (-9223372036854775808) (i.tdiv 8) 9223372036854775807, .rng (-9223372036854775808) (i.tdiv 8) 9223372036854775807, .leI 0 (i.tdiv 8), .leI (i.tdiv 8 + 1) 2, .leN ((i.tdiv 8).toNat + 1)
 ps.length, .rng 0 (zs.getD (addO off i.toNat) 0) 18446744073709551615, .nn .u64 (ps.getD (i.tdiv 8).toNat 0 * 256 % 18446744073709551616), .nn .u64 (zs.getD (addO off i.toNat) 0), .leI 0 (i.tdiv 8), .leI (i.tdiv 8 + 1) 2, .leN ((i.tdiv 8).toNat + 1) ps.length, .rng (-9223372036854775808) (i + 1) 9223372036854775807]) : Ok (A59n zs g e off ow ps i) := Ok.dem (fl := bitsF 27 48279872) (by kernel_rfl)
 (by kernel_rfl) (by kernel_rfl) h
theorem A59n_ex {zs : List Int} {g e off : Nat} {ow : Bool} {ps : List Int} {i : Int} : (A59n zs g e off ow ps i).ex = .normal := by kernel_rfl
theorem A59n_fm {zs : List Int} {g e off : Nat} {ow : Bool} {ps : List Int} {i : Int} : (A59n zs g e off ow ps i).fm = [(2, .var 1 0), (3, .var 2 0), (7, .slice 1 0 g off 16 none), (8, .int .i64 16), (9, .int .i64 (i + 1))] := by kernel_rfl
theorem A59n_tab {zs : List Int} {g e off : Nat} {ow : Bool} {ps : List Int} {i : Int} : (A59n zs g e off ow ps i).tab = [some ⟨.ints .u8 zs, g, ow, e⟩, some ⟨.ints .u64 [0, 0], 0, true, 65⟩, some ⟨.ints .u64 (ps.set (i.tdiv 8).toNat (ior (ps.getD (i.tdiv 8).toNat 0 * 256 % 18446744073709551616) (zs.getD (addO off i.toNat) 0))), 0, true, 65⟩] := by kernel_rfl
noncomputable def D59n (zs : List Int) (g e off : Nat) (ow : Bool) (ps : List Int) : Out := trim 3 3 [2,3] (run (eA []) 27 ⟨3, []⟩ 400 (roundOf 0 f59) [(2, .var 1 0), (3, .var 2 0), (7, .slice 1 0 g off 16 none), (8, .int .i64 16), (9, .int .i64 16)] [some ⟨.ints .u8 zs, g, ow, e⟩, some ⟨.ints .u64 [0, 0], 0, true, 65⟩, some ⟨.ints .u64 ps, 0, true, 65⟩] [])
theorem D59n_ok {zs : List Int} {g e off : Nat} {ow : Bool} {ps : List Int} (h : allP []) : Ok (D59n zs g e off ow ps) := Ok.dem (fl := []) (by kernel_rfl) (by kernel_rfl) (by kernel_rfl) h
theorem D59n_ex {zs : List Int} {g e off : Nat} {ow : Bool} {ps : List Int} : (D59n zs g e off ow ps).ex = .exit 0 := by kernel_rfl
theorem D59n_fm {zs : List Int} {g e off : Nat} {ow : Bool} {ps : List Int} : (D59n zs g e off ow ps).fm = [(2, .var 1 0), (3, .var 2 0)] := by kernel_rfl
theorem D59n_tab {zs : List Int} {g e off : Nat} {ow : Bool} {ps : List Int} : (D59n zs g e off ow ps).tab = [some ⟨.ints .u8 zs, g, ow, e⟩, some ⟨.ints .u64 [0, 0], 0, true, 65⟩, some ⟨.ints .u64 ps, 0, true, 65⟩] := by kernel_rfl
theorem loop59n {zs : List Int} {g e off : Nat} {ow : Bool} (h : off + 16 ≤ zs.length) (hb : Bytes zs) : To (eA []) 27 3 (.block 0 (.loop (roundOf 0 f59))) [(2, .var 1 0), (3, .var 2 0), (7, .slice 1 0 g off 16 none), (8, .int .i64 16), (9, .int .i64 0)] [some ⟨.ints .u8 zs, g, ow, e⟩, some ⟨.ints .u64 [0, 0], 0, true, 65⟩, some ⟨.ints .u64 [0, 0], 0, true, 65⟩] .normal [(2, .var 1 0), (3, .var 2 0)] [some ⟨.ints .u8 zs, g, ow, e⟩, some ⟨.ints .u64 [0, 0], 0, true, 65⟩, some ⟨.ints .u64 (gsLaw (subLaw zs off 16) 16), 0, true, 65⟩] := by
  refine To.rounds (fun i : Nat => [(2, .var 1 0), (3, .var 2 0), (7, .slice 1 0 g off 16 none), (8, .int .i64 16), (9, .int .i64 (i : Nat))]) (fun i => [some ⟨.ints .u8 zs, g, ow, e⟩, some ⟨.ints .u64 [0, 0], 0, true, 65⟩, some ⟨.ints .u64 (gsLaw (subLaw zs off 16) i), 0, true, 65⟩]) 16 (fun i hi => ?_) (To.of (o := D59n zs g e off ow (gsLaw (subLaw zs off 16) 16)) eA0_ok hmA (Nat.le_refl 3) OrcOk.nil rfl (D59n_ok trivial) D59n_ex D59n_fm D59n_tab)
  have e1 : ((i : Int).tdiv 8).toNat = i / 8 := by rw [Int.tdiv_eq_ediv_of_nonneg (by omega)]; omega
  have e2 : (subLaw zs off 16).getD i 0 = zs.getD (off + i) 0 := by
    unfold subLaw
    rw [List.getD_eq_getElem?_getD, List.getElem?_take_of_lt hi, ← List.getD_eq_getElem?_getD, getD_drop]
  have hz := hb.get (off + i)
  have hl := gs_len (subLaw zs off 16) i
  have e3 : (i : Int).tdiv 8 = ((i / 8 : Nat) : Int) := by rw [Int.tdiv_eq_ediv_of_nonneg (by omega)]; omega
  refine To.of (o := A59n zs g e off ow (gsLaw (subLaw zs off 16) i) (i : Nat)) eA0_ok hmA (Nat.le_refl 3) OrcOk.nil rfl (A59n_ok ?_) A59n_ex A59n_fm ?_
  · rw [e3]
    simp only [allP, Con.h, addO_eq, Int.toNat_natCast, decide_eq_true_eq, hl, and_true, true_and]
    generalize (gsLaw (subLaw zs off 16) i).getD (i / 8) 0 * 256 = y
    simp only [nonneg]
    omega
  · rw [A59n_tab, e1]
    simp only [addO_eq, Int.toNat_natCast, gsLaw, e2]
noncomputable def g59nc (vs : List AVal) (T : Tab) (zs : List Int) (g : Nat) (e : Nat) (off : Nat) (ow : Bool) : Out := ⟨[.tab T [some ⟨.ints .u8 zs, g, ow, e⟩, some ⟨.ints .u64 [0, 0], 0, true, 65⟩, some ⟨.ints .u64 [0, 0], 0, true, 65⟩], .val (.tuple vs) (.tuple [.var 1 0, .var 2 0, .slice 1 0 g off 16 none, .int .i64 16, .int .i64 0]), .leN (off + 16) zs.length, .p (Bytes zs)], .normal, [(2, .var 1 0), (3, .var 2 0)], [some ⟨.ints .u8 zs, g, ow, e⟩, some ⟨.ints .u64 [0, 0], 0, true, 65⟩, some ⟨.ints .u64 (gsLaw (subLaw zs off 16) 16), 0, true, 65⟩], []⟩
theorem g59nc_ok {vs : List AVal} {T : Tab} {zs : List Int} {g : Nat} {e : Nat} {off : Nat} {ow : Bool} (h : Ok (g59nc vs T zs g e off ow)) : To (eA []) 27 3 (.block 0 (.loop (roundOf 0 f59))) (zipF [2,3,7,8,9] vs) T (g59nc vs T zs g e off ow).ex (g59nc vs T zs g e off ow).fm (g59nc vs T zs g e off ow).tab := by
  obtain ⟨hT, hv, h1, h2, _⟩ := h.h
  simp only [Con.h] at hT hv h1 h2
  injection hv with hv
  subst hT hv
  exact loop59n h1 h2
noncomputable def g59n : List AVal → Tab → Out := fun vs T => g59nc vs T (xsAt T 0) (gAt T 0) (etAt T 0) (offOf (vAt vs 2)) (owAt T 0)
theorem g59n_ok : BlkOk (eA []) f59 0 (.loop (roundOf 0 f59)) (blkS 3 [2,3,7,8,9] g59n) := blkS_ok fun vs T h => g59nc_ok h
noncomputable def orc59n : OrcL := [(0, blkS 3 [2,3,7,8,9] g59n)]
theorem orc59n_ok : FnOrc (eA []) f59 orc59n := FnOrc.cons g59n_ok (by kernel_rfl) FnOrc.nil
noncomputable def R59n (zs : List Int) (g e off : Nat) (ow : Bool) : Res := resG 1 [0] (runF (eA []) f59 orc59n 400 [.slice 1 0 g off 16 none] [some ⟨.ints .u8 zs, g, ow, e⟩] [])
theorem R59n_ok {zs : List Int} {g e off : Nat} {ow : Bool} (h : allP [.eqN g g, .orN 16 16 (off + 16) zs.length, .eqN g g, .leN (addO off 0 + 16) zs.length, .p (Bytes zs)]) : OkR (R59n zs g e off ow) := OkR.dem (fl := bitsF 17 130565) (by kernel_rfl) (by kernel_rfl) (by kernel_rfl) h
theorem R59n_val {zs : List Int} {g e off : Nat} {ow : Bool} : (R59n zs g e off ow).val = .ints .u64 (gsLaw (subLaw zs (addO off 0) 16) 16) := by kernel_rfl
theorem R59n_tab {zs : List Int} {g e off : Nat} {ow : Bool} : (R59n zs g e off ow).tab = [some ⟨.ints .u8 zs, g, ow, e⟩] := by kernel_rfl
noncomputable def sm59nc (args : List AVal) (T : Tab) (zs : List Int) (g : Nat) (e : Nat) (off : Nat) (ow : Bool) (n : Nat) : Res := ⟨[.tab T [some ⟨.ints .u8 zs, g, ow, e⟩], .val (.tuple args) (.tuple [.slice 1 0 g off n none]), .leN (off + 16) zs.length, .p (Bytes zs), .eqN n 16], .ints .u64 (gwLaw (subLaw zs off 16)), [some ⟨.ints .u8 zs, g, ow, e⟩]⟩
theorem sm59nc_ok {args : List AVal} {T : Tab} {zs : List Int} {g : Nat} {e : Nat} {off : Nat} {ow : Bool} {n : Nat} (h : allP (sm59nc args T zs g e off ow n).cs) : Small prog (fun _ => none) 59 args T (sm59nc args T zs g e off ow n).val (sm59nc args T zs g e off ow n).tab := by
  obtain ⟨hT, hv, h1, h2, h3, _⟩ := h
  simp only [Con.h] at hT hv h1 h2 h3
  injection hv with hv
  subst hT hv
  subst h3
  have hs : Bytes (subLaw zs off 16) := (h2.drop off).take 16
  have hl : (subLaw zs off 16).length = 16 := subLaw_len (by omega)
  refine small_ofG (R := R59n zs g e off ow) (keep := [0]) eA0_ok hmA (f := 59) (fn := f59) (by kernel_rfl) (by kernel_rfl) orc59n_ok rfl (R59n_ok ?_) (by rw [R59n_val]; simp only [addO_eq, Nat.add_zero]; rw [gs_eq hs hl]; rfl) R59n_tab
  have hg := gs_len (subLaw zs off 16) 16
  simp only [allP, Con.h, addO_eq, Nat.add_zero, hg, h1, h2, eq_self, true_and, and_true]
  try omega
noncomputable def sm59n : Summary := fun args T => sm59nc args T (xsAt T 0) (gAt T 0) (etAt T 0) (offOf (vAt args 0)) (owAt T 0) (lenOf (vAt args 0))
theorem sm59n_ok : SmOk prog (fun _ => none) 59 sm59n := fun args T h => sm59nc_ok h
noncomputable def A59s (zs : List Int) (g e off : Nat) (ow : Bool) (ps : List Int) (i : Int) : Out := trim 3 3 [2,3,7,8,9] (run (eA []) 27 ⟨3, []⟩ 400 (roundOf 0 f59) [(2, .var 1 0), (3, .var 2 0), (7, .slice 1 0 g off 16 (some 16)), (8, .int .i64 16), (9, .int .i64 i)] [some ⟨.ints .u8 zs, g, ow, e⟩, some ⟨.ints .u64 [0, 0], 0, true, 65⟩, some ⟨.ints .u64 ps, 0, true, 65⟩] [some true])
theorem A59s_ok {zs : List Int} {g e off : Nat} {ow : Bool} {ps : List Int} {i : Int} (h : allP [.p (decide (i < 16) = true), .eqN g g, .leI 0 i, .leI (i + 1) 16, .eqN g g, .leN (addO off i.toNat + 1) zs.length, .rng (-9223372036854775808) (i.tdiv 8) 9223372036854775807, .rng (-9223372036854775808) (i.tdiv 8) 9223372036854775807, .leI 0 (i.tdiv 8), .leI (i.tdiv 8 + 1) 2, .leN ((i.tdiv 8).toNat + 1)
 ps.length, .rng 0 (zs.getD (addO off i.toNat) 0) 18446744073709551615, .nn .u64 (ps.getD (i.tdiv 8).toNat 0 * 256 % 18446744073709551616), .nn .u64 (zs.getD (addO off i.toNat) 0), .leI 0 (i.tdiv 8), .leI (i.tdiv 8 + 1) 2, .leN ((i.tdiv 8).toNat + 1) ps.length, .rng (-9223372036854775808) (i + 1) 9223372036854775807]) : Ok (A59s zs g e off ow ps i) := Ok.dem (fl := bitsF 27 48279872) (by kernel_rfl)
 (by kernel_rfl) (by kernel_rfl) h
theorem A59s_ex {zs : List Int} {g e off : Nat} {ow : Bool} {ps : List Int} {i : Int} : (A59s zs g e off ow ps i).ex = .normal := by kernel_rfl
theorem A59s_fm {zs : List Int} {g e off : Nat} {ow : Bool} {ps : List Int} {i : Int} : (A59s zs g e off ow ps i).fm = [(2, .var 1 0), (3, .var 2 0), (7, .slice 1 0 g off 16 (some 16)), (8, .int .i64 16), (9, .int .i64 (i + 1))] := by kernel_rfl
theorem A59s_tab {zs : List Int} {g e off : Nat} {ow : Bool} {ps : List Int} {i : Int} : (A59s zs g e off ow ps i).tab = [some ⟨.ints .u8 zs, g, ow, e⟩, some ⟨.ints .u64 [0, 0], 0, true, 65⟩, some ⟨.ints .u64 (ps.set (i.tdiv 8).toNat (ior (ps.getD (i.tdiv 8).toNat 0 * 256 % 18446744073709551616) (zs.getD (addO off i.toNat) 0))), 0, true, 65⟩] := by kernel_rfl
noncomputable def D59s (zs : List Int) (g e off : Nat) (ow : Bool) (ps : List Int) : Out := trim 3 3 [2,3] (run (eA []) 27 ⟨3, []⟩ 400 (roundOf 0 f59) [(2, .var 1 0), (3, .var 2 0), (7, .slice 1 0 g off 16 (some 16)), (8, .int .i64 16), (9, .int .i64 16)] [some ⟨.ints .u8 zs, g, ow, e⟩, some ⟨.ints .u64 [0, 0], 0, true, 65⟩, some ⟨.ints .u64 ps, 0, true, 65⟩] [])
theorem D59s_ok {zs : List Int} {g e off : Nat} {ow : Bool} {ps : List Int} (h : allP []) : Ok (D59s zs g e off ow ps) := Ok.dem (fl := []) (by kernel_rfl) (by kernel_rfl) (by kernel_rfl) h
theorem D59s_ex {zs : List Int} {g e off : Nat} {ow : Bool} {ps : List Int} : (D59s zs g e off ow ps).ex = .exit 0 := by kernel_rfl
theorem D59s_fm {zs : List Int} {g e off : Nat} {ow : Bool} {ps : List Int} : (D59s zs g e off ow ps).fm = [(2, .var 1 0), (3, .var 2 0)] := by kernel_rfl
theorem D59s_tab {zs : List Int} {g e off : Nat} {ow : Bool} {ps : List Int} : (D59s zs g e off ow ps).tab = [some ⟨.ints .u8 zs, g, ow, e⟩, some ⟨.ints .u64 [0, 0], 0, true, 65⟩, some ⟨.ints .u64 ps, 0, true, 65⟩] := by kernel_rfl
theorem loop59s {zs : List Int} {g e off : Nat} {ow : Bool} (h : off + 16 ≤ zs.length) (hb : Bytes zs) : To (eA []) 27 3 (.block 0 (.loop (roundOf 0 f59))) [(2, .var 1 0), (3, .var 2 0), (7, .slice 1 0 g off 16 (some 16)), (8, .int .i64 16), (9, .int .i64 0)] [some ⟨.ints .u8 zs, g, ow, e⟩, some ⟨.ints .u64 [0, 0], 0, true, 65⟩, some ⟨.ints .u64 [0, 0], 0, true, 65⟩] .normal [(2, .var 1 0), (3, .var 2 0)] [some ⟨.ints .u8 zs, g, ow, e⟩, some ⟨.ints .u64 [0, 0], 0, true, 65⟩, some ⟨.ints .u64 (gsLaw (subLaw zs off 16) 16), 0, true, 65⟩] := by
  refine To.rounds (fun i : Nat => [(2, .var 1 0), (3, .var 2 0), (7, .slice 1 0 g off 16 (some 16)), (8, .int .i64 16), (9, .int .i64 (i : Nat))]) (fun i => [some ⟨.ints .u8 zs, g, ow, e⟩, some ⟨.ints .u64 [0, 0], 0, true, 65⟩, some ⟨.ints .u64 (gsLaw (subLaw zs off 16) i), 0, true, 65⟩]) 16 (fun i hi => ?_) (To.of (o := D59s zs g e off ow (gsLaw (subLaw zs off 16) 16)) eA0_ok hmA (Nat.le_refl 3) OrcOk.nil rfl (D59s_ok trivial) D59s_ex D59s_fm D59s_tab)
  have e1 : ((i : Int).tdiv 8).toNat = i / 8 := by rw [Int.tdiv_eq_ediv_of_nonneg (by omega)]; omega
  have e2 : (subLaw zs off 16).getD i 0 = zs.getD (off + i) 0 := by
    unfold subLaw
    rw [List.getD_eq_getElem?_getD, List.getElem?_take_of_lt hi, ← List.getD_eq_getElem?_getD, getD_drop]
  have hz := hb.get (off + i)
  have hl := gs_len (subLaw zs off 16) i
  have e3 : (i : Int).tdiv 8 = ((i / 8 : Nat) : Int) := by rw [Int.tdiv_eq_ediv_of_nonneg (by omega)]; omega
  refine To.of (o := A59s zs g e off ow (gsLaw (subLaw zs off 16) i) (i : Nat)) eA0_ok hmA (Nat.le_refl 3) OrcOk.nil rfl (A59s_ok ?_) A59s_ex A59s_fm ?_
  · rw [e3]
    simp only [allP, Con.h, addO_eq, Int.toNat_natCast, decide_eq_true_eq, hl, and_true, true_and]
    generalize (gsLaw (subLaw zs off 16) i).getD (i / 8) 0 * 256 = y
    simp only [nonneg]
    omega
  · rw [A59s_tab, e1]
    simp only [addO_eq, Int.toNat_natCast, gsLaw, e2]
noncomputable def g59sc (vs : List AVal) (T : Tab) (zs : List Int) (g : Nat) (e : Nat) (off : Nat) (ow : Bool) : Out := ⟨[.tab T [some ⟨.ints .u8 zs, g, ow, e⟩, some ⟨.ints .u64 [0, 0], 0, true, 65⟩, some ⟨.ints .u64 [0, 0], 0, true, 65⟩], .val (.tuple vs) (.tuple [.var 1 0, .var 2 0, .slice 1 0 g off 16 (some 16), .int .i64 16, .int .i64 0]), .leN (off + 16) zs.length, .p (Bytes zs)], .normal, [(2, .var 1 0), (3, .var 2 0)], [some ⟨.ints .u8 zs, g, ow, e⟩, some ⟨.ints .u64 [0, 0], 0, true, 65⟩, some ⟨.ints .u64 (gsLaw (subLaw zs off 16) 16), 0, true, 65⟩], []⟩
theorem g59sc_ok {vs : List AVal} {T : Tab} {zs : List Int} {g : Nat} {e : Nat} {off : Nat} {ow : Bool} (h : Ok (g59sc vs T zs g e off ow)) : To (eA []) 27 3 (.block 0 (.loop (roundOf 0 f59))) (zipF [2,3,7,8,9] vs) T (g59sc vs T zs g e off ow).ex (g59sc vs T zs g e off ow).fm (g59sc vs T zs g e off ow).tab := by
  obtain ⟨hT, hv, h1, h2, _⟩ := h.h
  simp only [Con.h] at hT hv h1 h2
  injection hv with hv
  subst hT hv
  exact loop59s h1 h2
noncomputable def g59s : List AVal → Tab → Out := fun vs T => g59sc vs T (xsAt T 0) (gAt T 0) (etAt T 0) (offOf (vAt vs 2)) (owAt T 0)
theorem g59s_ok : BlkOk (eA []) f59 0 (.loop (roundOf 0 f59)) (blkS 3 [2,3,7,8,9] g59s) := blkS_ok fun vs T h => g59sc_ok h
noncomputable def orc59s : OrcL := [(0, blkS 3 [2,3,7,8,9] g59s)]
theorem orc59s_ok : FnOrc (eA []) f59 orc59s := FnOrc.cons g59s_ok (by kernel_rfl) FnOrc.nil
noncomputable def R59s (zs : List Int) (g e off : Nat) (ow : Bool) : Res := resG 1 [0] (runF (eA []) f59 orc59s 400 [.slice 1 0 g off 16 (some 16)] [some ⟨.ints .u8 zs, g, ow, e⟩] [])
theorem R59s_ok {zs : List Int} {g e off : Nat} {ow : Bool} (h : allP [.eqN g g, .eqN g g, .leN (addO off 0 + 16) zs.length, .p (Bytes zs)]) : OkR (R59s zs g e off ow) := OkR.dem (fl := bitsF 17 130573) (by kernel_rfl) (by kernel_rfl) (by kernel_rfl) h
theorem R59s_val {zs : List Int} {g e off : Nat} {ow : Bool} : (R59s zs g e off ow).val = .ints .u64 (gsLaw (subLaw zs (addO off 0) 16) 16) := by kernel_rfl
theorem R59s_tab {zs : List Int} {g e off : Nat} {ow : Bool} : (R59s zs g e off ow).tab = [some ⟨.ints .u8 zs, g, ow, e⟩] := by kernel_rfl
noncomputable def sm59sc (args : List AVal) (T : Tab) (zs : List Int) (g : Nat) (e : Nat) (off : Nat) (ow : Bool) (n : Nat) : Res := ⟨[.tab T [some ⟨.ints .u8 zs, g, ow, e⟩], .val (.tuple args) (.tuple [.slice 1 0 g off n (some 16)]), .leN (off + 16) zs.length, .p (Bytes zs), .eqN n 16], .ints .u64 (gwLaw (subLaw zs off 16)), [some ⟨.ints .u8 zs, g, ow, e⟩]⟩
theorem sm59sc_ok {args : List AVal} {T : Tab} {zs : List Int} {g : Nat} {e : Nat} {off : Nat} {ow : Bool} {n : Nat} (h : allP (sm59sc args T zs g e off ow n).cs) : Small prog (fun _ => none) 59 args T (sm59sc args T zs g e off ow n).val (sm59sc args T zs g e off ow n).tab := by
  obtain ⟨hT, hv, h1, h2, h3, _⟩ := h
  simp only [Con.h] at hT hv h1 h2 h3
  injection hv with hv
  subst hT hv
  subst h3
  have hs : Bytes (subLaw zs off 16) := (h2.drop off).take 16
  have hl : (subLaw zs off 16).length = 16 := subLaw_len (by omega)
  refine small_ofG (R := R59s zs g e off ow) (keep := [0]) eA0_ok hmA (f := 59) (fn := f59) (by kernel_rfl) (by kernel_rfl) orc59s_ok rfl (R59s_ok ?_) (by rw [R59s_val]; simp only [addO_eq, Nat.add_zero]; rw [gs_eq hs hl]; rfl) R59s_tab
  have hg := gs_len (subLaw zs off 16) 16
  simp only [allP, Con.h, addO_eq, Nat.add_zero, hg, h1, h2, eq_self, true_and, and_true]
  try omega
noncomputable def sm59s : Summary := fun args T => sm59sc args T (xsAt T 0) (gAt T 0) (etAt T 0) (offOf (vAt args 0)) (owAt T 0) (lenOf (vAt args 0))
theorem sm59s_ok : SmOk prog (fun _ => none) 59 sm59s := fun args T h => sm59sc_ok h
noncomputable def sm59 : Summary := fun args T => match capOf (vAt args 0) with
  | none => sm59n args T
  | some _ => sm59s args T
theorem sm59_ok : SmOk prog (fun _ => none) 59 sm59 := fun args T h => by
  unfold sm59 at h ⊢
  split at h
  · exact sm59n_ok args T h
  · exact sm59s_ok args T h
noncomputable def S59 : Summary := callR sm59 []
theorem S59_ok : SumOk prog (fun _ => none) 59 S59 := callR_ok sm59_ok []
/-! plus, put, times -/
noncomputable def R73 (p q : List Int) : Res := resG 0 [] (runF (eA []) f73 [] 400 [.ints .u64 p, .ints .u64 q] [] [])
theorem R73_ok {p q : List Int} (h : allP [.leN 1 p.length, .leN 1 q.length, .nn .u64 (p.getD 0 0), .nn .u64 (q.getD 0 0), .leN 2 p.length, .leN 2 q.length, .nn .u64 (p.getD 1 0), .nn .u64 (q.getD 1 0)]) : OkR (R73 p q) := OkR.dem (fl := bitsF 34 17165119983) (by kernel_rfl) (by kernel_rfl) (by kernel_rfl) h
theorem R73_val {p q : List Int} : (R73 p q).val = .ints .u64 [ixor (p.getD 0 0) (q.getD 0 0), ixor (p.getD 1 0) (q.getD 1 0)] := by kernel_rfl
theorem R73_tab {p q : List Int} : (R73 p q).tab = [] := by kernel_rfl
noncomputable def sm73c (args : List AVal) (T : Tab) (p : List Int) (q : List Int) : Res := ⟨[.tab T [], .val (.tuple args) (.tuple [.ints .u64 p, .ints .u64 q]), .p (WpLaw p), .p (WpLaw q)], .ints .u64 (xwLaw p q), []⟩
theorem sm73c_ok {args : List AVal} {T : Tab} {p : List Int} {q : List Int} (h : allP (sm73c args T p q).cs) : Small prog (fun _ => none) 73 args T (sm73c args T p q).val (sm73c args T p q).tab := by
  obtain ⟨hT, hv, h1, h2, _⟩ := h
  simp only [Con.h] at hT hv h1 h2
  injection hv with hv
  subst hT hv
  obtain ⟨x, hx, rfl⟩ := h1
  obtain ⟨y, hy, rfl⟩ := h2
  refine small_ofG (R := R73 (wN x) (wN y)) (keep := []) eA0_ok hmA (f := 73) (fn := f73) (by kernel_rfl) (by kernel_rfl) FnOrc.nil rfl (R73_ok ?_) (R73_val.trans (congrArg (AVal.ints .u64) ((wN_xor x y).symm.trans (xw_wN x y).symm))) R73_tab
  simp only [allP, Con.h, wN_len, wN_nn hx, wN_nn hy, and_true]
  decide
noncomputable def sm73 : Summary := fun args T => sm73c args T (xsOf (vAt args 0)) (xsOf (vAt args 1))
theorem sm73_ok : SmOk prog (fun _ => none) 73 sm73 := fun args T h => sm73c_ok h
noncomputable def S73 : Summary := callR sm73 []
theorem S73_ok : SumOk prog (fun _ => none) 73 S73 := callR_ok sm73_ok []
noncomputable def R61 (p0 p1 : Int) : Res := resG 0 [2] (runF (eA []) f61 [] 2000 [.ints .u64 [p0, p1]] [] [])
theorem R61_ok {p0 p1 : Int} (h : allP []) : OkR (R61 p0 p1) := OkR.dem (fl := bitsF 184 24519928653854221733733552434404946937899825954937634815) (by kernel_rfl) (by kernel_rfl) (by kernel_rfl) h
theorem R61_val {p0 p1 : Int} : (R61 p0 p1).val = .slice 1 0 15 0 16 none := by kernel_rfl
theorem R61_tab {p0 p1 : Int} : (R61 p0 p1).tab = [some ⟨.ints .u8 [p0 / 72057594037927936 % 256, p0 / 281474976710656 % 256, p0 / 1099511627776 % 256, p0 / 4294967296 % 256, p0 / 16777216 % 256, p0 / 65536 % 256, p0 / 256 % 256, p0 / 1 % 256, p1 / 72057594037927936 % 256, p1 / 281474976710656 % 256, p1 / 1099511627776 % 256, p1 / 4294967296 % 256, p1 / 16777216 % 256, p1 / 65536 % 256, p1 / 256 %
 256, p1 / 1 % 256], 15, true, 5⟩] := by kernel_rfl
theorem put_eq {x : Nat} (h : x < 2 ^ 128) : [(wN x).getD 0 0 / 72057594037927936 % 256, (wN x).getD 0 0 / 281474976710656 % 256, (wN x).getD 0 0 / 1099511627776 % 256, (wN x).getD 0 0 / 4294967296 % 256,
              (wN x).getD 0 0 / 16777216 % 256, (wN x).getD 0 0 / 65536 % 256, (wN x).getD 0 0 / 256 % 256, (wN x).getD 0 0 / 1 % 256, (wN x).getD 1 0 / 72057594037927936 % 256,
              (wN x).getD 1 0 / 281474976710656 % 256, (wN x).getD 1 0 / 1099511627776 % 256, (wN x).getD 1 0 / 4294967296 % 256, (wN x).getD 1 0 / 16777216 % 256,
              (wN x).getD 1 0 / 65536 % 256, (wN x).getD 1 0 / 256 % 256, (wN x).getD 1 0 / 1 % 256] = bN x := by
  have hx := wN_hi h
  rw [bN_w h]
  simp only [l16, Nat.shiftRight_eq_div_pow]
  simp only [wN, Nat.shiftRight_eq_div_pow, List.getD_cons_zero, List.getD_cons_succ, Int.toNat_natCast, show ∀ n, n / 8 * 1 = n / 8 by omega, Nat.reduceDiv, Nat.reduceMod, Nat.reduceMul, Nat.reduceSub, Nat.reducePow, List.cons.injEq, and_true]
  omega
noncomputable def sm61c (args : List AVal) (T : Tab) (p : List Int) : Res := ⟨[.tab T [], .val (.tuple args) (.tuple [.ints .u64 p]), .p (WpLaw p)], .slice 1 0 15 0 16 none, [some ⟨.ints .u8 (ptLaw p), 15, true, 5⟩]⟩
theorem sm61c_ok {args : List AVal} {T : Tab} {p : List Int} (h : allP (sm61c args T p).cs) : Small prog (fun _ => none) 61 args T (sm61c args T p).val (sm61c args T p).tab := by
  obtain ⟨hT, hv, h1, _⟩ := h
  simp only [Con.h] at hT hv h1
  injection hv with hv
  subst hT hv
  obtain ⟨x, hx, rfl⟩ := h1
  refine small_ofG (R := R61 ((wN x).getD 0 0) ((wN x).getD 1 0)) (keep := [2]) eA0_ok hmA (f := 61) (fn := f61) (by kernel_rfl) (by kernel_rfl) FnOrc.nil rfl (R61_ok trivial) R61_val (by rw [R61_tab, put_eq hx, ← pt_wN]; rfl)
noncomputable def sm61 : Summary := fun args T => sm61c args T (xsOf (vAt args 0))
theorem sm61_ok : SmOk prog (fun _ => none) 61 sm61 := fun args T h => sm61c_ok h
noncomputable def S61 : Summary := callR sm61 []
theorem S61_ok : SumOk prog (fun _ => none) 61 S61 := callR_ok sm61_ok []
noncomputable def eG1 : Env := eA [(73, S73)]
theorem eG1_ok : EnvOk eG1 := envOf_ok tysA_ok (SumsOk.cons (fn := f73) S73_ok (by kernel_rfl) (by kernel_rfl) (by kernel_rfl) trivial)
noncomputable def A60 (ps qs os : List Int) (i : Int) : Out := trim 4 4 [2,3,4,5,8] (run eG1 43 ⟨4, []⟩ 400 (roundOf 0 f60) [(2, .var 0 0), (3, .var 1 0), (4, .var 2 0), (5, .var 3 0), (8, .int .i64 i)] [some ⟨.ints .u64 ps, 0, true, 65⟩, some ⟨.ints .u64 qs, 0, true, 65⟩, some ⟨.ints .u64 [0, 0], 0, true, 65⟩, some ⟨.ints .u64 os, 0, true, 65⟩] [some true, some true])
theorem A60_ok {ps qs os : List Int} {i : Int} (h : allP [.p (decide (i < 128) = true), .rng (-9223372036854775808) (i.tdiv 64) 9223372036854775807, .leI 0 (i.tdiv 64), .leI (i.tdiv 64 + 1) 2, .leN ((i.tdiv 64).toNat + 1) qs.length, .rng (-9223372036854775808) (63 - i.tmod 64) 9223372036854775807, .rng 0 (63 - i.tmod 64) 64, .nn .u64 (qs.getD (i.tdiv 64).toNat 0 / 2 ^ (63 - i.tmod 64).toNat), .p
 ((iand (qs.getD (i.tdiv 64).toNat 0 / 2 ^ (63 - i.tmod 64).toNat) 1 == 1) = true), .eqN os.length 2, .eqN ps.length 2, .p (WpLaw os), .p (WpLaw ps), .eqN os.length 2, .leN 2 ps.length, .nn .u64 (ps.getD 1 0), .leN 1 ps.length, .nn .u64 (ps.getD 0 0 / 2), .nn .u64 (iand (ps.getD 1 0) 1 * 16212958658533785600 % 18446744073709551616), .leN 2 ps.length, .leN 1 ps.length, .nn .u64 (ps.getD 1 0 / 2), .nn
 .u64 (ps.getD 0 0 * 9223372036854775808 % 18446744073709551616), .eqN ps.length 2, .rng (-9223372036854775808) (i + 1) 9223372036854775807]) : Ok (A60 ps qs os i) := Ok.dem (fl := bitsF 64 6888218655742579042) (by kernel_rfl) (by kernel_rfl) (by kernel_rfl) h
theorem A60_ex {ps qs os : List Int} {i : Int} : (A60 ps qs os i).ex = .normal := by kernel_rfl
theorem A60_fm {ps qs os : List Int} {i : Int} : (A60 ps qs os i).fm = [(2, .var 0 0), (3, .var 1 0), (4, .var 2 0), (5, .var 3 0), (8, .int .i64 (i + 1))] := by kernel_rfl
theorem A60_tab {ps qs os : List Int} {i : Int} : (A60 ps qs os i).tab = [some ⟨.ints .u64 [ixor (ps.getD 0 0 / 2) (iand (ps.getD 1 0) 1 * 16212958658533785600 % 18446744073709551616), ior (ps.getD 1 0 / 2) (ps.getD 0 0 * 9223372036854775808 % 18446744073709551616)], 0, true, 65⟩, some ⟨.ints .u64 qs, 0, true, 65⟩, some ⟨.ints .u64 [0, 0], 0, true, 65⟩, some ⟨.ints .u64 (xwLaw os ps), 0, true, 65⟩]
 := by kernel_rfl
noncomputable def B60 (ps qs os : List Int) (i : Int) : Out := trim 4 4 [2,3,4,5,8] (run eG1 43 ⟨4, []⟩ 400 (roundOf 0 f60) [(2, .var 0 0), (3, .var 1 0), (4, .var 2 0), (5, .var 3 0), (8, .int .i64 i)] [some ⟨.ints .u64 ps, 0, true, 65⟩, some ⟨.ints .u64 qs, 0, true, 65⟩, some ⟨.ints .u64 [0, 0], 0, true, 65⟩, some ⟨.ints .u64 os, 0, true, 65⟩] [some true, some false])
theorem B60_ok {ps qs os : List Int} {i : Int} (h : allP [.p (decide (i < 128) = true), .rng (-9223372036854775808) (i.tdiv 64) 9223372036854775807, .leI 0 (i.tdiv 64), .leI (i.tdiv 64 + 1) 2, .leN ((i.tdiv 64).toNat + 1) qs.length, .rng (-9223372036854775808) (63 - i.tmod 64) 9223372036854775807, .rng 0 (63 - i.tmod 64) 64, .nn .u64 (qs.getD (i.tdiv 64).toNat 0 / 2 ^ (63 - i.tmod 64).toNat), .p
 ((iand (qs.getD (i.tdiv 64).toNat 0 / 2 ^ (63 - i.tmod 64).toNat) 1 == 1) = false), .leN 2 ps.length, .nn .u64 (ps.getD 1 0), .leN 1 ps.length, .nn .u64 (ps.getD 0 0 / 2), .nn .u64 (iand (ps.getD 1 0) 1 * 16212958658533785600 % 18446744073709551616), .leN 2 ps.length, .leN 1 ps.length, .nn .u64 (ps.getD 1 0 / 2), .nn .u64 (ps.getD 0 0 * 9223372036854775808 % 18446744073709551616), .eqN ps.length 2,
 .rng (-9223372036854775808) (i + 1) 9223372036854775807]) : Ok (B60 ps qs os i) := Ok.dem (fl := bitsF 52 1681694007742818) (by kernel_rfl) (by kernel_rfl) (by kernel_rfl) h
theorem B60_ex {ps qs os : List Int} {i : Int} : (B60 ps qs os i).ex = .normal := by kernel_rfl
theorem B60_fm {ps qs os : List Int} {i : Int} : (B60 ps qs os i).fm = [(2, .var 0 0), (3, .var 1 0), (4, .var 2 0), (5, .var 3 0), (8, .int .i64 (i + 1))] := by kernel_rfl
theorem B60_tab {ps qs os : List Int} {i : Int} : (B60 ps qs os i).tab = [some ⟨.ints .u64 [ixor (ps.getD 0 0 / 2) (iand (ps.getD 1 0) 1 * 16212958658533785600 % 18446744073709551616), ior (ps.getD 1 0 / 2) (ps.getD 0 0 * 9223372036854775808 % 18446744073709551616)], 0, true, 65⟩, some ⟨.ints .u64 qs, 0, true, 65⟩, some ⟨.ints .u64 [0, 0], 0, true, 65⟩, some ⟨.ints .u64 os, 0, true, 65⟩] := by
 kernel_rfl
noncomputable def D60 (ps qs os : List Int) : Out := trim 4 4 [4,5] (run eG1 43 ⟨4, []⟩ 400 (roundOf 0 f60) [(2, .var 0 0), (3, .var 1 0), (4, .var 2 0), (5, .var 3 0), (8, .int .i64 128)] [some ⟨.ints .u64 ps, 0, true, 65⟩, some ⟨.ints .u64 qs, 0, true, 65⟩, some ⟨.ints .u64 [0, 0], 0, true, 65⟩, some ⟨.ints .u64 os, 0, true, 65⟩] [])
theorem D60_ok {ps qs os : List Int} (h : allP []) : Ok (D60 ps qs os) := Ok.dem (fl := []) (by kernel_rfl) (by kernel_rfl) (by kernel_rfl) h
theorem D60_ex {ps qs os : List Int} : (D60 ps qs os).ex = .exit 0 := by kernel_rfl
theorem D60_fm {ps qs os : List Int} : (D60 ps qs os).fm = [(4, .var 2 0), (5, .var 3 0)] := by kernel_rfl
theorem D60_tab {ps qs os : List Int} : (D60 ps qs os).tab = [some ⟨.ints .u64 ps, 0, true, 65⟩, some ⟨.ints .u64 qs, 0, true, 65⟩, some ⟨.ints .u64 [0, 0], 0, true, 65⟩, some ⟨.ints .u64 os, 0, true, 65⟩] := by kernel_rfl
def T60 (a b i : Nat) : Tab := [some ⟨.ints .u64 (wN (apN a i)), 0, true, 65⟩, some ⟨.ints .u64 (wN b), 0, true, 65⟩, some ⟨.ints .u64 [0, 0], 0, true, 65⟩, some ⟨.ints .u64 (wN (accN a b i)), 0, true, 65⟩]
theorem loop60 {a b : Nat} (ha : a < 2 ^ 128) (hb : b < 2 ^ 128) : To eG1 43 4 (.block 0 (.loop (roundOf 0 f60))) [(2, .var 0 0), (3, .var 1 0), (4, .var 2 0), (5, .var 3 0), (8, .int .i64 0)] (T60 a b 0) .normal [(4, .var 2 0), (5, .var 3 0)] (T60 a b 128) := by
  refine To.rounds (fun i : Nat => [(2, .var 0 0), (3, .var 1 0), (4, .var 2 0), (5, .var 3 0), (8, .int .i64 (i : Nat))]) (T60 a b) 128 (fun i hi => ?_) (To.of (o := D60 (wN (apN a 128)) (wN b) (wN (accN a b 128))) eG1_ok hmA (Nat.le_refl 4) OrcOk.nil rfl (D60_ok trivial) D60_ex D60_fm D60_tab)
  have h1 := apN_lt ha i
  have h2 := accN_lt b ha i
  have hbit := wN_bit (x := b) hi
  have hd := wN_d h1
  have e0 : (i : Int).tdiv 64 = ((i / 64 : Nat) : Int) := by rw [Int.tdiv_eq_ediv_of_nonneg (by omega)]; omega
  have e1 : (i : Int).tmod 64 = ((i % 64 : Nat) : Int) := by rw [Int.tmod_eq_emod_of_nonneg (by omega)]; omega
  have ei : ((i / 64 : Nat) : Int).toNat = i / 64 := Int.toNat_natCast _
  have hq := wN_nn hb (i / 64)
  have hq2 : nonneg .u64 ((wN b).getD (i / 64) 0 / 2 ^ (63 - ((i % 64 : Nat) : Int)).toNat) := by
    have hp : (0 : Int) < 2 ^ (63 - ((i % 64 : Nat) : Int)).toNat := by
      have := Nat.two_pow_pos (63 - ((i % 64 : Nat) : Int)).toNat
      have e : (2 : Int) ^ (63 - ((i % 64 : Nat) : Int)).toNat = ((2 ^ (63 - ((i % 64 : Nat) : Int)).toNat : Nat) : Int) := by simp
      rw [e]; omega
    exact ⟨Int.ediv_nonneg hq.1 (by omega), Int.lt_of_le_of_lt (Int.ediv_le_self _ hq.1) hq.2⟩
  have n1 : nonneg .u64 ((wN (apN a i)).getD 0 0 / 2) := by have := wN_nn h1 0; simp only [nonneg] at this ⊢; omega
  have n2 : nonneg .u64 ((wN (apN a i)).getD 1 0 / 2) := by have := wN_nn h1 1; simp only [nonneg] at this ⊢; omega
  have n3 : ∀ z : Int, nonneg .u64 (z % 18446744073709551616) := fun z => by simp only [nonneg]; omega
  have hrange : (i / 64) + 1 ≤ 2 := by omega
  by_cases hc : b.testBit (127 - i) = true
  · refine To.of (o := A60 (wN (apN a i)) (wN b) (wN (accN a b i)) (i : Nat)) eG1_ok hmA (Nat.le_refl 4) OrcOk.nil rfl (A60_ok ?_) A60_ex A60_fm ?_
    · rw [hc] at hbit
      simp only [allP, Con.h, hbit, wN_len, WpLaw.of h1, WpLaw.of h2, wN_nn h1, wN_nn h2, n1, n2, n3, decide_eq_true_eq, and_true, true_and]
      rw [e0, e1, ei]
      simp only [hq2, and_true, true_and]
      omega
    · rw [A60_tab, xw_wN]
      show _ = ([some ⟨.ints .u64 (wN (dN (apN a i))), 0, true, 65⟩, some ⟨.ints .u64 (wN b), 0, true, 65⟩, some ⟨.ints .u64 [0, 0], 0, true, 65⟩, some ⟨.ints .u64 (wN (accN a b i ^^^ (if b.testBit (127 - i) then apN a i else 0))), 0, true, 65⟩] : Tab)
      rw [if_pos hc, hd]
  · rw [Bool.not_eq_true] at hc
    refine To.of (o := B60 (wN (apN a i)) (wN b) (wN (accN a b i)) (i : Nat)) eG1_ok hmA (Nat.le_refl 4) OrcOk.nil rfl (B60_ok ?_) B60_ex B60_fm ?_
    · rw [hc] at hbit
      simp only [allP, Con.h, hbit, wN_len, WpLaw.of h1, WpLaw.of h2, wN_nn h1, wN_nn h2, n1, n2, n3, decide_eq_true_eq, and_true, true_and]
      rw [e0, e1, ei]
      simp only [hq2, and_true, true_and]
      omega
    · rw [B60_tab]
      show _ = ([some ⟨.ints .u64 (wN (dN (apN a i))), 0, true, 65⟩, some ⟨.ints .u64 (wN b), 0, true, 65⟩, some ⟨.ints .u64 [0, 0], 0, true, 65⟩, some ⟨.ints .u64 (wN (accN a b i ^^^ (if b.testBit (127 - i) then apN a i else 0))), 0, true, 65⟩] : Tab)
      rw [if_neg (by rw [hc]; decide), hd, Nat.xor_zero]
noncomputable def g60c (vs : List AVal) (T : Tab) (p : List Int) (q : List Int) : Out := ⟨[.tab T [some ⟨.ints .u64 p, 0, true, 65⟩, some ⟨.ints .u64 q, 0, true, 65⟩, some ⟨.ints .u64 [0, 0], 0, true, 65⟩, some ⟨.ints .u64 [0, 0], 0, true, 65⟩], .val (.tuple vs) (.tuple [.var 0 0, .var 1 0, .var 2 0, .var 3 0, .int .i64 0]), .p (WpLaw p), .p (WpLaw q)], .normal, [(4, .var 2 0), (5, .var 3 0)], [some ⟨.ints .u64 (p128Law p), 0, true, 65⟩, some ⟨.ints .u64 q, 0, true, 65⟩, some ⟨.ints .u64 [0, 0], 0, true, 65⟩, some ⟨.ints .u64 (mwLaw p q), 0, true, 65⟩], []⟩
theorem g60c_ok {vs : List AVal} {T : Tab} {p : List Int} {q : List Int} (h : Ok (g60c vs T p q)) : To eG1 43 4 (.block 0 (.loop (roundOf 0 f60))) (zipF [2,3,4,5,8] vs) T (g60c vs T p q).ex (g60c vs T p q).fm (g60c vs T p q).tab := by
  obtain ⟨hT, hv, h1, h2, _⟩ := h.h
  simp only [Con.h] at hT hv h1 h2
  injection hv with hv
  subst hT hv
  obtain ⟨x, hx, rfl⟩ := h1
  obtain ⟨y, hy, rfl⟩ := h2
  have := loop60 hx hy
  rw [show T60 x y 0 = ([some ⟨.ints .u64 (wN x), 0, true, 65⟩, some ⟨.ints .u64 (wN y), 0, true, 65⟩, some ⟨.ints .u64 [0, 0], 0, true, 65⟩, some ⟨.ints .u64 [0, 0], 0, true, 65⟩] : Tab) by kernel_rfl, show T60 x y 128 = ([some ⟨.ints .u64 (wN (apN x 128)), 0, true, 65⟩, some ⟨.ints .u64 (wN y), 0, true, 65⟩, some ⟨.ints .u64 [0, 0], 0, true, 65⟩, some ⟨.ints .u64 (wN (mulN x y)), 0, true, 65⟩] : Tab) by rfl, ← p128_wN, ← mw_wN] at this
  exact this
noncomputable def g60 : List AVal → Tab → Out := fun vs T => g60c vs T (xsAt T 0) (xsAt T 1)
theorem g60_ok : BlkOk eG1 f60 0 (.loop (roundOf 0 f60)) (blkS 4 [2,3,4,5,8] g60) := blkS_ok fun vs T h => g60c_ok h
noncomputable def orc60 : OrcL := [(0, blkS 4 [2,3,4,5,8] g60)]
theorem orc60_ok : FnOrc eG1 f60 orc60 := FnOrc.cons g60_ok (by kernel_rfl) FnOrc.nil
noncomputable def R60 (p q : List Int) : Res := resG 0 [] (runF eG1 f60 orc60 400 [.ints .u64 p, .ints .u64 q] [] [])
theorem R60_ok {p q : List Int} (h : allP [.p (WpLaw p), .p (WpLaw q)]) : OkR (R60 p q) := OkR.dem (fl := bitsF 12 4080) (by kernel_rfl) (by kernel_rfl) (by kernel_rfl) h
theorem R60_val {p q : List Int} : (R60 p q).val = .ints .u64 (mwLaw p q) := by kernel_rfl
theorem R60_tab {p q : List Int} : (R60 p q).tab = [] := by kernel_rfl
noncomputable def sm60c (args : List AVal) (T : Tab) (p : List Int) (q : List Int) : Res := ⟨[.tab T [], .val (.tuple args) (.tuple [.ints .u64 p, .ints .u64 q]), .p (WpLaw p), .p (WpLaw q)], .ints .u64 (mwLaw p q), []⟩
theorem sm60c_ok {args : List AVal} {T : Tab} {p : List Int} {q : List Int} (h : allP (sm60c args T p q).cs) : Small prog (fun _ => none) 60 args T (sm60c args T p q).val (sm60c args T p q).tab := by
  obtain ⟨hT, hv, h1, h2, _⟩ := h
  simp only [Con.h] at hT hv h1 h2
  injection hv with hv
  subst hT hv
  refine small_ofG (R := R60 p q) (keep := []) eG1_ok hmA (f := 60) (fn := f60) (by kernel_rfl) (by kernel_rfl) orc60_ok rfl (R60_ok ?_) R60_val R60_tab
  have l1 := h1.len
  have l2 := h2.len
  have l3 := (h1.mw (q := q)).len
  simp only [allP, Con.h, l1, l2, l3, h1, h2, and_true, true_and]
noncomputable def sm60 : Summary := fun args T => sm60c args T (xsOf (vAt args 0)) (xsOf (vAt args 1))
theorem sm60_ok : SmOk prog (fun _ => none) 60 sm60 := fun args T h => sm60c_ok h
noncomputable def S60 : Summary := callR sm60 []
theorem S60_ok : SumOk prog (fun _ => none) 60 S60 := callR_ok sm60_ok []
end Go.Abs

set_option linter.unusedVariables false
set_option linter.unusedSimpArgs false
set_option maxRecDepth 8000
namespace Go.Abs
open Go.Proofs.Try
noncomputable def orc23 : OrcL := [(0, blkS 5 [6,7,8,9] g23)]
theorem orc23_ok : FnOrc eP f23 orc23 := FnOrc.cons g23_ok (by kernel_rfl) FnOrc.nil
noncomputable def R23 (zs bs : List Int) (g0 g1 e1 : Nat) (cp0 cp1 : Option Nat) (ow0 ow1 : Bool) : Res := resG 2 [0,1,4] (runF eP f23 orc23 400 [.slice 1 0 g0 0 16 cp0, .slice 1 1 g1 0 16 cp1] [some ⟨.ints .u8 zs, g0, ow0, 5⟩, some ⟨.ints .u8 bs, g1, ow1, e1⟩] [])
theorem R23_ok {zs bs : List Int} {g0 g1 e1 : Nat} {cp0 cp1 : Option Nat} {ow0 ow1 : Bool} (h : allP [.eqN g0 g0, .eqN g1 g1, .eqN g0 g0, .eqN g0 g0, .leN 16 zs.length, .p (TABLaw = TABLaw), .p (Bytes (subLaw zs 0 16)), .eqN (ksLaw (subLaw zs 0 16) 176).length 176, .eqN g1 g1, .eqN g1 g1, .leN 16 bs.length, .leN 16 (ksLaw (subLaw zs 0 16) 176).length, .eqN (List.take 16 bs).length 16, .eqN
 (List.take 16 (ksLaw (subLaw zs 0 16) 176)).length 16, .p (Bytes (List.take 16 bs)), .p (Bytes (List.take 16 (ksLaw (subLaw zs 0 16) 176))), .p (TABLaw = TABLaw), .eqN (ksLaw (subLaw zs 0 16) 176).length 176, .p (Bytes (ksLaw (subLaw zs 0 16) 176)), .p (Bytes (subLaw bs 0 16)), .p (plusLaw (List.take 16 bs) (List.take 16 (ksLaw (subLaw zs 0 16) 176)) = encLaw (ksLaw (subLaw zs 0 16) 176) (subLaw bs
 0 16) 0)]) : OkR (R23 zs bs g0 g1 e1 cp0 cp1 ow0 ow1) := OkR.dem (fl := bitsF 47 132143266765332) (by kernel_rfl) (by kernel_rfl) (by kernel_rfl) h
theorem R23_val {zs bs : List Int} {g0 g1 e1 : Nat} {cp0 cp1 : Option Nat} {ow0 ow1 : Bool} : (R23 zs bs g0 g1 e1 cp0 cp1 ow0 ow1).val = .tuple [.slice 1 2 0 0 16 (some 16), .int .i64 0] := by kernel_rfl
theorem R23_tab {zs bs : List Int} {g0 g1 e1 : Nat} {cp0 cp1 : Option Nat} {ow0 ow1 : Bool} : (R23 zs bs g0 g1 e1 cp0 cp1 ow0 ow1).tab = [some ⟨.ints .u8 zs, g0, ow0, 5⟩, some ⟨.ints .u8 bs, g1, ow1, e1⟩, some ⟨.ints .u8 (blockLaw (ksLaw (subLaw zs 0 16) 176) (subLaw bs 0 16)), 0, true, 48⟩] := by kernel_rfl
def sm23 : Summary := fun args T => match args, T with
  | [.slice 1 0 g0 0 16 cp0, .slice 1 1 g1 0 16 cp1], [some ⟨.ints .u8 zs, g0', ow0, 5⟩, some ⟨.ints .u8 bs, g1', ow1, e1⟩] =>
    ⟨[.eqN g0 g0', .eqN g1 g1', .leN 16 zs.length, .leN 16 bs.length, .p (Bytes (subLaw zs 0 16)), .p (Bytes (subLaw bs 0 16))], .tuple [.slice 1 2 0 0 16 (some 16), .int .i64 0],
      [some ⟨.ints .u8 zs, g0', ow0, 5⟩, some ⟨.ints .u8 bs, g1', ow1, e1⟩, some ⟨.ints .u8 (blockLaw (ksLaw (subLaw zs 0 16) 176) (subLaw bs 0 16)), 0, true, 48⟩]⟩
  | _, _ => fail
theorem sm23_ok : SmOk prog (fun _ => none) 23 sm23 := by
  intro args T hc
  unfold sm23 at hc ⊢
  split at hc
  · rename_i g0 cp0 g1 cp1 zs g0' ow0 bs g1' ow1 e1
    obtain ⟨h1, h2, h3, h4, h5, h6, _⟩ := hc
    simp only [Con.h] at h1 h2 h3 h4 h5 h6
    subst h1 h2
    have hl := ksLaw_len (subLaw_len (zs := zs) (off := 0) (n := 16) (by omega)) (n := 176) (by decide)
    have hb := ksLaw_bytes h5 176
    have hs : (subLaw bs 0 16).length = 16 := subLaw_len (by omega)
    have e0 : ∀ l : List Int, List.take 16 l = subLaw l 0 16 := fun l => rfl
    refine small_ofG (keep := [0,1,4]) (R := R23 zs bs g0 g1 e1 cp0 cp1 ow0 ow1) eP_ok hmA (f := 23) (fn := f23) (by kernel_rfl) (by kernel_rfl) orc23_ok rfl (R23_ok ?_) R23_val R23_tab
    generalize ksLaw (subLaw zs 0 16) 176 = ks at hl hb ⊢
    have hsk : (subLaw ks 0 16).length = 16 := subLaw_len (by omega)
    have hbk := sub_bytes hb 0 16
    have hd := dec_bytes h6 (ks := ks) 10
    simp only [allP, Con.h, e0, hl, hb, hs, hsk, hbk, hd, h3, h4, h5, h6, eq_self, and_true, true_and]
    first | omega | exact ⟨by omega, rfl⟩ | rfl | trivial
  · exact absurd hc nofail
def S23 : Summary := callR sm23 []
theorem S23_ok : SumOk prog (fun _ => none) 23 S23 := callR_ok sm23_ok []
end Go.Abs

set_option linter.unusedVariables false
set_option linter.unusedSimpArgs false
set_option maxRecDepth 8000
namespace Go.Abs
open Go.Proofs.Try
/-! ### nothing, told as a slice of an empty object -/
def subA : Fm → Fm → Prop
  | [], _ => True
  | (t, v) :: r, fm => look fm t = some v ∧ subA r fm
theorem subA_ok {fm : Fm} : ∀ {f : Fm}, subA f fm → ∀ t v, look f t = some v → look fm t = some v
  | [], _, t, v, h => by cases h
  | (s, u) :: r, h, t, v, hl => by
    simp only [look] at hl
    split at hl
    · rename_i e
      have := Nat.eq_of_beq_eq_true e
      subst this
      injection hl with hl; subst hl
      exact h.1
    · exact subA_ok h.2 t v hl
theorem AWp.fmSub {E : Env} {n k : Nat} {c : Code} {fm f : Fm} {T : Tab} {post : AExit → Fm → Tab → Prop} (hs : subA f fm) (h : AWp E n k c f T post) : AWp E n k c fm T post :=
  fun rr D ν a w hr hrd => h rr D ν a w ⟨hr.hr, fun t v hv => hr.fm t v (subA_ok hs t v hv), hr.size, hr.defers⟩ hrd
def fillNil (p : Nat) : AVal → AVal
  | .nilSlice => .slice 1 p 0 0 0 none
  | v => v
theorem small_fill {P : Program} {gl : Nat → Option AVal} {f : FuncId} {args args2 : List AVal} {T T2 : Tab} {v : AVal} {T1 : Tab} (e1 : args2 = args.map (fillNil T.length)) (e2 : T2 = T ++ [some ⟨.ints .u8 [], 0, true, 5⟩]) (h : Small P gl f args2 T2 v T1) : Small P gl f args T v T1 := by
  subst e1 e2
  intro ν w vs hr hvs
  obtain ⟨l0, g1, g2, g3, g4, g5⟩ := hr.pushEmpty .u8 5
  refine (h _ w vs g3 ⟨by simpa using hvs.1, fun i hi => ?_⟩).mono ?_
  · have hi' : i < args.length := by simpa using hi
    have h0 := hvs.2 i hi'
    have e : (args.map (fillNil T.length)).getD i un = fillNil T.length (args.getD i un) := by
      simp [List.getD, List.getElem?_eq_getElem hi']
    rw [e]
    generalize args.getD i un = v at h0 ⊢
    generalize vs.toList.getD i undef = x at h0 ⊢
    cases v with
    | nilSlice => exact VR.nil_slice (upd_same _ _ _) g1 g2 (.inr rfl) (h0.mono g4)
    | _ => exact h0.mono g4
  · rintro e w' ⟨x, ν', rfl, h1, h2, h3, h4⟩
    refine ⟨x, ν', rfl, h1, h2, (g4.b T.length).trans (fun p hp => h3 p (by simp; omega)), ?_⟩
    exact ⟨h4.os, h4.tape, h4.output, h4.size, fun b hb hO => h4.block b hb (fun h => hO (g5 b h)), fun b hb => (h4.own b hb).imp (g5 b) id⟩
theorem HR.pushEmptyG {gl : Nat → Option AVal} {ν : Nu} {T : Tab} {w : World} (hr : HR gl ν T w) (kk : IntKind) (et : TypeId) (gg : Nat) :
    ∃ l0 : Loc, l0.g = gg ∧ l0.room = 0 ∧ HR gl (upd ν T.length l0) (T ++ [some ⟨.ints kk [], gg, true, et⟩]) w ∧ NuLe ν (upd ν T.length l0) ∧ (∀ b, Own (upd ν T.length l0) (T ++ [some ⟨.ints kk [], gg, true, et⟩]) b → Own ν T b) := by
  have hn : ν T.length = none := by
    cases hν : ν T.length with
    | none => rfl
    | some l => have := hr.lt _ l hν; omega
  obtain ⟨l0, hl0⟩ : ∃ l0 : Loc, l0 = ⟨⟨0, 0, none⟩, gg, 0⟩ := ⟨_, rfl⟩
  have hm : NuLe ν (upd ν T.length l0) := NuLe.upd_new (ν := ν) l0 hn
  have same : ∀ p, p ≠ T.length → upd ν T.length l0 p = ν p := fun p hp => upd_other ν l0 hp
  have self : upd ν T.length l0 T.length = some l0 := upd_same ν _ l0
  have getT : ∀ p o, (T ++ [some (⟨.ints kk [], gg, true, et⟩ : AObj)])[p]? = some o → (p < T.length ∧ T[p]? = some o) ∨ (p = T.length ∧ o = some ⟨.ints kk [], gg, true, et⟩) := by
    intro p o ho
    rcases Nat.lt_or_ge p T.length with hp | hp
    · rw [List.getElem?_append_left hp] at ho; exact .inl ⟨hp, ho⟩
    · rw [List.getElem?_append_right hp] at ho
      have hlt := (List.getElem?_eq_some_iff.1 ho).1
      have hp0 : p = T.length := by simp at hlt; omega
      subst hp0
      simp at ho
      exact .inr ⟨rfl, ho.symm⟩
  have hown : ∀ b, Own (upd ν T.length l0) (T ++ [some ⟨.ints kk [], gg, true, et⟩]) b → Own ν T b := by
    rintro b ⟨p, o, l, h1, h2, h3, h4, h5⟩
    rcases getT p _ h1 with ⟨hp, h1⟩ | ⟨hp, h1⟩
    · rw [same p (by omega)] at h3; exact ⟨p, o, l, h1, h2, h3, h4, h5⟩
    · subst hp; rw [self] at h3; injection h3 with h3; subst h3; subst hl0; simp at h4
  refine ⟨l0, by rw [hl0], by rw [hl0], ⟨fun p o l ho hl => ?_, fun p l hl => ?_, fun p hp => ?_, fun p l hl h0 => ?_, fun p q o o' l l' ho ho' hw hne hl hl' h0 h0' => ?_, fun b d hb => ?_⟩, hm, hown⟩
  · rcases getT p _ ho with ⟨hp, h1⟩ | ⟨hp, h1⟩
    · rw [same p (by omega)] at hl
      obtain ⟨g1, g2⟩ := hr.obj p o l h1 hl
      exact ⟨g1, g2.kept hm fun _ => rfl⟩
    · subst hp; rw [self] at hl; injection hl with hl; subst hl; subst hl0
      injection h1 with h1; subst h1
      exact ⟨rfl, .ints _ _, .inr (.inr ⟨rfl, rfl⟩)⟩
  · by_cases e : p = T.length
    · subst e; simp
    · rw [same p e] at hl; have := hr.lt p l hl; simp; omega
  · rcases getT p _ hp with ⟨hp', h1⟩ | ⟨hp', h1⟩
    · rw [same p (by omega)]; exact hr.hole p h1
    · cases h1
  · by_cases e : p = T.length
    · subst e; rw [self] at hl; injection hl with hl; subst hl; subst hl0; simp at h0
    · rw [same p e] at hl; exact hr.blk p l hl h0
  · rcases getT p _ ho with ⟨hp, h1⟩ | ⟨hp, h1⟩
    · rcases getT q _ ho' with ⟨hq, h2⟩ | ⟨hq, h2⟩
      · rw [same p (by omega)] at hl; rw [same q (by omega)] at hl'
        exact hr.sep p q o o' l l' h1 h2 hw hne hl hl' h0 h0'
      · subst hq; rw [self] at hl'; injection hl' with hl'; subst hl'; subst hl0; simp at h0'
    · subst hp; rw [self] at hl; injection hl with hl; subst hl; subst hl0; simp at h0
  · obtain ⟨h1, h2⟩ := hr.glob b d hb
    exact ⟨fun h3 => h1 (hown b h3), h2⟩

theorem To.outNil {E : Env} {n k : Nat} {c : Code} {fm fm1 fm2 : Fm} {T T1 : Tab} {ex : AExit} (kk : IntKind) (et : TypeId) (gg : Nat) (h : To E n k c fm T ex fm1 T1)
    (hf : ∀ t v, look fm2 t = some v → look fm1 t = some v ∨ (look fm1 t = some .nilSlice ∧ v = .slice 1 T1.length gg 0 0 none)) : To E n k c fm T ex fm2 (T1 ++ [some ⟨.ints kk [], gg, true, et⟩]) := by
  intro rr D ν a w hs hrd
  refine wpIn_mono (h rr D ν a w hs hrd) fun e a' w' ⟨ex', fm', T', ν', e1, ⟨e2, e3, e4⟩, ⟨ms, s', mk⟩, n', f'⟩ => ?_
  subst e2 e3 e4
  obtain ⟨l0, g1, g2, g3, g4, g5⟩ := s'.hr.pushEmptyG kk et gg
  refine ⟨ex', fm2, _, _, e1, ⟨rfl, rfl, rfl⟩, ⟨ms, ⟨g3, fun t v hv => ?_, s'.size, s'.defers⟩, mk⟩, n'.trans (g4.b k), f'.sub g5⟩
  rcases hf t v hv with h1 | ⟨h1, rfl⟩
  · exact (s'.fm t v h1).mono g4
  · have := s'.fm t _ h1
    generalize a'.tmps.getD t undef = x at this ⊢
    cases this
    exact .sliceZ none (upd_same _ _ _) g1.symm (.inr ⟨rfl, by rw [g2]; exact Nat.le_refl _⟩)
/-! Clone -/
noncomputable def R70 (zs : List Int) (g off n : Nat) (cp : Option Nat) (ow : Bool) : Res := resG 1 [0,1] (runF (eA []) f70 [] 400 [.slice 1 0 g off n cp] [some ⟨.ints .u8 zs, g, ow, 5⟩] [some false])
theorem R70_ok {zs : List Int} {g off n : Nat} {cp : Option Nat} {ow : Bool} (h : allP [.eqN g g, .leN 1 n, .p (false = false), .leN n 140737488355328, .eqN g g, .leN (off + n) zs.length]) : OkR (R70 zs g off n cp ow) := OkR.dem (fl := [false, false, false, true, true, true, false, false, false, true]) (by kernel_rfl) (by kernel_rfl) (by kernel_rfl) h
theorem R70_val {zs : List Int} {g off n : Nat} {cp : Option Nat} {ow : Bool} : (R70 zs g off n cp ow).val = .slice 1 1 1 0 n none := by kernel_rfl
theorem R70_tab {zs : List Int} {g off n : Nat} {cp : Option Nat} {ow : Bool} : (R70 zs g off n cp ow).tab = [some ⟨.ints .u8 zs, g, ow, 5⟩, some ⟨.ints .u8 ([] ++ List.take n (dropO off zs)), 1, true, 5⟩] := by kernel_rfl
noncomputable def c70a : Code := match bodyOf f70 with | .seq _ (.seq (.seq r _) _) => r | c => c
noncomputable def r70ops : Array Oper := match c70a with | .region _ o _ => o | _ => #[]
noncomputable def r70a : Code := match bodyOf f70 with | .seq r _ => r | c => c
noncomputable def r70b : Code := match bodyOf f70 with | .seq _ (.seq (.seq _ c) _) => c | c => c
noncomputable def r70c : Code := match bodyOf f70 with | .seq _ (.seq (.seq _ _) c) => c | c => c
theorem split70 : bodyOf f70 = .seq r70a (.seq (.seq (.region 1 r70ops false) r70b) r70c) := by kernel_rfl
noncomputable def P70 (zs : List Int) (g off n : Nat) (cp : Option Nat) (ow : Bool) : Out := trim 1 1 [0] (run (eA []) 8 ⟨1, []⟩ 400 r70a [(0, .slice 1 0 g off n cp)] [some ⟨.ints .u8 zs, g, ow, 5⟩] [])
theorem P70_ok {zs : List Int} {g off n : Nat} {cp : Option Nat} {ow : Bool} (h : allP []) : Ok (P70 zs g off n cp ow) := Ok.dem (fl := []) (by kernel_rfl) (by kernel_rfl) (by kernel_rfl) h
theorem P70_ex {zs : List Int} {g off n : Nat} {cp : Option Nat} {ow : Bool} : (P70 zs g off n cp ow).ex = .normal := by kernel_rfl
theorem P70_fm {zs : List Int} {g off n : Nat} {cp : Option Nat} {ow : Bool} : (P70 zs g off n cp ow).fm = [(0, .slice 1 0 g off n cp)] := by kernel_rfl
theorem P70_tab {zs : List Int} {g off n : Nat} {cp : Option Nat} {ow : Bool} : (P70 zs g off n cp ow).tab = [some ⟨.ints .u8 zs, g, ow, 5⟩] := by kernel_rfl
noncomputable def Q70 (zs : List Int) (g off n : Nat) (cp : Option Nat) (ow : Bool) : Out := runOps (eA []) r70ops.toList 8 (r70ops.toList.take 1) [(0, .slice 1 0 g off n cp)] (([some ⟨.ints .u8 zs, g, ow, 5⟩] : Tab) ++ holes (cntA (eA []) (r70ops.toList.take 1))) ([some ⟨.ints .u8 zs, g, ow, 5⟩] : Tab).length []
theorem Q70_ok {zs : List Int} {g off n : Nat} {cp : Option Nat} {ow : Bool} (h : allP []) : Ok (Q70 zs g off n cp ow) := Ok.dem (fl := []) (by kernel_rfl) (by kernel_rfl) (by kernel_rfl) h
theorem Q70_fm {zs : List Int} {g off n : Nat} {cp : Option Nat} {ow : Bool} : (Q70 zs g off n cp ow).fm = [(3, .slice 1 0 g off n cp), (0, .slice 1 0 g off n cp)] := by kernel_rfl
theorem Q70_tab {zs : List Int} {g off n : Nat} {cp : Option Nat} {ow : Bool} : (Q70 zs g off n cp ow).tab = [some ⟨.ints .u8 zs, g, ow, 5⟩] := by kernel_rfl
noncomputable def U70 (zs : List Int) (g off n : Nat) (cp : Option Nat) (ow : Bool) : Out := trim 1 1 [2] (run (eA []) 8 ⟨1, []⟩ 400 r70b [(0, .slice 1 0 g off n cp), (4, .bool true)] [some ⟨.ints .u8 zs, g, ow, 5⟩] [])
theorem U70_ok {zs : List Int} {g off n : Nat} {cp : Option Nat} {ow : Bool} (h : allP []) : Ok (U70 zs g off n cp ow) := Ok.dem (fl := []) (by kernel_rfl) (by kernel_rfl) (by kernel_rfl) h
theorem U70_ex {zs : List Int} {g off n : Nat} {cp : Option Nat} {ow : Bool} : (U70 zs g off n cp ow).ex = .ret := by kernel_rfl
theorem U70_fm {zs : List Int} {g off n : Nat} {cp : Option Nat} {ow : Bool} : (U70 zs g off n cp ow).fm = [(2, .nilSlice)] := by kernel_rfl
theorem U70_tab {zs : List Int} {g off n : Nat} {cp : Option Nat} {ow : Bool} : (U70 zs g off n cp ow).tab = [some ⟨.ints .u8 zs, g, ow, 5⟩] := by kernel_rfl
noncomputable def W70 (zs : List Int) (g off n : Nat) (cp : Option Nat) (ow : Bool) : Out := trim 1 1 [0] (run (eA []) 8 ⟨1, []⟩ 400 r70b [(0, .slice 1 0 g off n cp), (4, .bool false)] [some ⟨.ints .u8 zs, g, ow, 5⟩] [])
theorem W70_ok {zs : List Int} {g off n : Nat} {cp : Option Nat} {ow : Bool} (h : allP []) : Ok (W70 zs g off n cp ow) := Ok.dem (fl := []) (by kernel_rfl) (by kernel_rfl) (by kernel_rfl) h
theorem W70_ex {zs : List Int} {g off n : Nat} {cp : Option Nat} {ow : Bool} : (W70 zs g off n cp ow).ex = .normal := by kernel_rfl
theorem W70_fm {zs : List Int} {g off n : Nat} {cp : Option Nat} {ow : Bool} : (W70 zs g off n cp ow).fm = [(0, .slice 1 0 g off n cp)] := by kernel_rfl
theorem W70_tab {zs : List Int} {g off n : Nat} {cp : Option Nat} {ow : Bool} : (W70 zs g off n cp ow).tab = [some ⟨.ints .u8 zs, g, ow, 5⟩] := by kernel_rfl
noncomputable def Y70 (zs : List Int) (g off n : Nat) (cp : Option Nat) (ow : Bool) : Out := trimG 1 [0,1] [2] (run (eA []) 8 ⟨1, []⟩ 400 r70c [(0, .slice 1 0 g off n cp)] [some ⟨.ints .u8 zs, g, ow, 5⟩] [])
theorem Y70_ok {zs : List Int} {g off n : Nat} {cp : Option Nat} {ow : Bool} (h : allP [.leN n 140737488355328, .eqN g g, .leN (off + n) zs.length]) : Ok (Y70 zs g off n cp ow) := Ok.dem (fl := [true, true, true, false, false, false, true]) (by kernel_rfl) (by kernel_rfl) (by kernel_rfl) h
theorem Y70_ex {zs : List Int} {g off n : Nat} {cp : Option Nat} {ow : Bool} : (Y70 zs g off n cp ow).ex = .ret := by kernel_rfl
theorem Y70_fm {zs : List Int} {g off n : Nat} {cp : Option Nat} {ow : Bool} : (Y70 zs g off n cp ow).fm = [(2, .slice 1 1 1 0 n none)] := by kernel_rfl
theorem Y70_tab {zs : List Int} {g off n : Nat} {cp : Option Nat} {ow : Bool} : (Y70 zs g off n cp ow).tab = [some ⟨.ints .u8 zs, g, ow, 5⟩, some ⟨.ints .u8 ([] ++ List.take n (dropO off zs)), 1, true, 5⟩] := by kernel_rfl
theorem eq70 : ∃ oy : Oper, r70ops.toList = r70ops.toList.take 1 ++ [oy] ∧ oy.op = .binOp .eql 25 (.tmp 3) (.const (.slice none 0 0)) 25 ∧ oy.guard = none ∧ oy.dst = some 4 := ⟨r70ops.toList.getD 1 default, by kernel_rfl, by kernel_rfl, by kernel_rfl, by kernel_rfl⟩
noncomputable def sm70c (args : List AVal) (T : Tab) (zs : List Int) (g : Nat) (off : Nat) (n : Nat) (cp : Option Nat) (ow : Bool) : Res := ⟨[.tab T [some ⟨.ints .u8 zs, g, ow, 5⟩], .val (.tuple args) (.tuple [.slice 1 0 g off n cp]), .leN (off + n) zs.length, .leN n 140737488355000], .slice 1 1 1 0 n none, [some ⟨.ints .u8 zs, g, ow, 5⟩, some ⟨.ints .u8 (subLaw zs off n), 1, true, 5⟩]⟩
theorem sm70c_ok {args : List AVal} {T : Tab} {zs : List Int} {g : Nat} {off : Nat} {n : Nat} {cp : Option Nat} {ow : Bool} (h : allP (sm70c args T zs g off n cp ow).cs) : Small prog (fun _ => none) 70 args T (sm70c args T zs g off n cp ow).val (sm70c args T zs g off n cp ow).tab := by
  obtain ⟨hT, hv, h1, h2, _⟩ := h
  simp only [Con.h] at hT hv h1 h2
  injection hv with hv
  subst hT hv
  by_cases hn : 1 ≤ n
  · refine small_ofG (R := R70 zs g off n cp ow) (keep := [0,1]) eA0_ok hmA (f := 70) (fn := f70) (by kernel_rfl) (by kernel_rfl) FnOrc.nil rfl (R70_ok ?_) R70_val (by rw [R70_tab]; simp only [dropO_eq, List.nil_append]; rfl)
    simp only [allP, Con.h, hn, h1, eq_self, true_and, and_true]
    omega
  · obtain rfl : n = 0 := by omega
    have hs0 : subLaw zs off 0 = [] := by unfold subLaw; exact List.take_zero
    obtain ⟨oy, q1, q2, q3, q4⟩ := eq70
    refine small_of_awp eA0_ok (f := 70) (fn := f70) (c := bodyOf f70) (by kernel_rfl) (by kernel_rfl) (by kernel_rfl) ?_
    rw [split70]
    show AWp (eA []) 8 1 _ [(0, .slice 1 0 g off 0 cp)] _ _
    refine AWp.seq (AWp.mono (To.of (o := P70 zs g off 0 cp ow) eA0_ok hmA (Nat.le_refl 1) OrcOk.nil rfl (P70_ok trivial) P70_ex P70_fm P70_tab) fun ex fm T hP => ?_)
    obtain ⟨rfl, rfl, rfl⟩ := hP
    refine AWp.seq (AWp.seq (AWp.eqNil eA0_ok q1 (ds1 := []) (o1 := Q70 zs g off 0 cp ow) rfl (Q70_ok trivial) q2 q3 q4 (by decide) (e := 5) (by kernel_rfl) (sz := 1) (p := 0) (g := g) (off := off) (len := 0) (cap := cp) (o := ⟨.ints .u8 zs, g, ow, 5⟩) (by rw [Q70_fm]; rfl) (by kernel_rfl) (by rw [Q70_tab]; rfl) rfl (fun b => ?_)))
    rw [Q70_fm, Q70_tab]
    cases b with
    | true =>
      refine AWp.mono (To.outNil (fm2 := [(2, .slice 1 1 1 0 0 none)]) .u8 5 1 (AWp.fmSub (f := [(0, .slice 1 0 g off 0 cp), (4, .bool true)]) ⟨rfl, rfl, trivial⟩ (To.of (o := U70 zs g off 0 cp ow) eA0_ok hmA (Nat.le_refl 1) OrcOk.nil rfl (U70_ok trivial) U70_ex U70_fm U70_tab)) (fun t v hv => ?_)) fun ex fm T hP => ?_
      · simp only [look] at hv
        split at hv
        · rename_i e
          have := Nat.eq_of_beq_eq_true e
          subst this
          injection hv with hv; subst hv
          exact .inr ⟨rfl, rfl⟩
        · cases hv
      · obtain ⟨rfl, rfl, rfl⟩ := hP
        refine ⟨.inr rfl, ?_, _, _, rfl, trivial, rfl⟩
        show _ = [_, some (⟨.ints .u8 (subLaw zs off 0), 1, true, 5⟩ : AObj)]
        rw [hs0]; rfl
    | false =>
      refine AWp.mono (AWp.fmSub (f := [(0, .slice 1 0 g off 0 cp), (4, .bool false)]) ⟨rfl, rfl, trivial⟩ (To.of (o := W70 zs g off 0 cp ow) eA0_ok hmA (Nat.le_refl 1) OrcOk.nil rfl (W70_ok trivial) W70_ex W70_fm W70_tab)) fun ex fm T hP => ?_
      obtain ⟨rfl, rfl, rfl⟩ := hP
      refine AWp.mono (To.ofG (o := Y70 zs g off 0 cp ow) eA0_ok hmA (Nat.le_refl 1) OrcOk.nil rfl (Y70_ok (by simp only [allP, Con.h, h1, eq_self, true_and, and_true]; omega)) Y70_ex Y70_fm Y70_tab) fun ex fm T hP => ?_
      obtain ⟨rfl, rfl, rfl⟩ := hP
      refine ⟨.inr rfl, ?_, _, _, rfl, trivial, rfl⟩
      show [_, some (⟨.ints .u8 ([] ++ List.take 0 (dropO off zs)), 1, true, 5⟩ : AObj)] = [_, some (⟨.ints .u8 (subLaw zs off 0), 1, true, 5⟩ : AObj)]
      rw [hs0, List.take_zero]; rfl
noncomputable def sm70 : Summary := fun args T => sm70c args T (xsAt T 0) (gAt T 0) (offOf (vAt args 0)) (lenOf (vAt args 0)) (capOf (vAt args 0)) (owAt T 0)
theorem sm70_ok : SmOk prog (fun _ => none) 70 sm70 := fun args T h => sm70c_ok h
noncomputable def S70 : Summary := callR sm70 []
theorem S70_ok : SumOk prog (fun _ => none) 70 S70 := callR_ok sm70_ok []
end Go.Abs

set_option linter.unusedVariables false
set_option linter.unusedSimpArgs false
set_option maxRecDepth 8000
namespace Go.Abs
open Go.Proofs.Try
/-! ### counters -/
noncomputable def eGc : Env := eA [(23, S23), (70, S70)]
theorem eGc_ok : EnvOk eGc := envOf_ok tysA_ok (SumsOk.cons (fn := f23) S23_ok (by kernel_rfl) (by kernel_rfl) (by kernel_rfl) (SumsOk.cons (fn := f70) S70_ok (by kernel_rfl) (by kernel_rfl) (by kernel_rfl) trivial))
noncomputable def R71 (zs ns : List Int) (gk gn : Nat) (cpk cpn : Option Nat) (m : Int) : Res := resG 2 [0,1,5] (runF eGc f71 [] 400 [.agg [.slice 1 0 gk 0 16 cpk, .slice 1 1 gn 0 12 cpn], .int .i64 m] [some ⟨.ints .u8 zs, gk, false, 5⟩, some ⟨.ints .u8 ns, gn, false, 5⟩] [])
theorem R71_ok {zs ns : List Int} {gk gn : Nat} {cpk cpn : Option Nat} {m : Int} (h : allP [.eqN gn gn, .leN 12 ns.length, .leN 12 (subLaw ns 0 12).length, .eqN gk gk, .eqN gk gk, .leN 16 zs.length, .leN 16 (List.take 12 (subLaw ns 0 12) ++ [m / 16777216 % 256, m / 65536 % 256, m / 256 % 256, m % 256]).length, .p (Bytes (subLaw zs 0 16)), .p (Bytes (subLaw (List.take 12 (subLaw ns 0 12) ++ [m /
 16777216 % 256, m / 65536 % 256, m / 256 % 256, m % 256]) 0 16))]) : OkR (R71 zs ns gk gn cpk cpn m) := OkR.dem (fl := bitsF 77 3092711372111604734934) (by kernel_rfl) (by kernel_rfl) (by kernel_rfl) h
theorem R71_val {zs ns : List Int} {gk gn : Nat} {cpk cpn : Option Nat} {m : Int} : (R71 zs ns gk gn cpk cpn m).val = .slice 1 2 0 0 16 (some 16) := by kernel_rfl
theorem R71_tab {zs ns : List Int} {gk gn : Nat} {cpk cpn : Option Nat} {m : Int} : (R71 zs ns gk gn cpk cpn m).tab = [some ⟨.ints .u8 zs, gk, false, 5⟩, some ⟨.ints .u8 ns, gn, false, 5⟩, some ⟨.ints .u8 (blockLaw (ksLaw (subLaw zs 0 16) 176) (subLaw (List.take 12 (subLaw ns 0 12) ++ [m / 16777216 % 256, m / 65536 % 256, m / 256 % 256, m % 256]) 0 16)), 0, true, 48⟩] := by kernel_rfl
def fourLaw (m : Int) : List Int := [m / 16777216 % 256, m / 65536 % 256, m / 256 % 256, m % 256]
theorem four_bytes (m : Int) : Bytes (fourLaw m) := fun i hi => by
  match i, hi with
  | 0, _ => exact ⟨Int.emod_nonneg _ (by decide), Int.emod_lt_of_pos _ (by decide)⟩
  | 1, _ => exact ⟨Int.emod_nonneg _ (by decide), Int.emod_lt_of_pos _ (by decide)⟩
  | 2, _ => exact ⟨Int.emod_nonneg _ (by decide), Int.emod_lt_of_pos _ (by decide)⟩
  | 3, _ => exact ⟨Int.emod_nonneg _ (by decide), Int.emod_lt_of_pos _ (by decide)⟩
  | i + 4, hi => simp [fourLaw] at hi; omega
def ctLaw (K N : List Int) (m : Int) : List Int := blockLaw (ksLaw K 176) (N ++ fourLaw m)
theorem ct_len (K N : List Int) (m : Int) : (ctLaw K N m).length = 16 := rfl
theorem ct_bytes {K N : List Int} (hk : Bytes K) (hn : Bytes N) (m : Int) : Bytes (ctLaw K N m) := enc_bytes (ksLaw_bytes hk 176) (hn.append (four_bytes m)) 10
theorem sub_n {l : List Int} {n : Nat} (h : l.length = n) : subLaw l 0 n = l := by unfold subLaw; rw [List.drop_zero, List.take_of_length_le (by omega)]
theorem take_n {l : List Int} {n : Nat} (h : l.length = n) : List.take n l = l := List.take_of_length_le (by omega)
noncomputable def sm71c (args : List AVal) (T : Tab) (zs : List Int) (ns : List Int) (gk : Nat) (gn : Nat) (cpk : Option Nat) (cpn : Option Nat) (m : Int) : Res := ⟨[.tab T [some ⟨.ints .u8 zs, gk, false, 5⟩, some ⟨.ints .u8 ns, gn, false, 5⟩], .val (.tuple args) (.tuple [.agg [.slice 1 0 gk 0 16 cpk, .slice 1 1 gn 0 12 cpn], .int .i64 m]), .leN 16 zs.length, .leN 12 ns.length, .p (Bytes zs), .p (Bytes ns), .leI 0 m], .slice 1 2 0 0 16 (some 16), [some ⟨.ints .u8 zs, gk, false, 5⟩, some ⟨.ints .u8 ns, gn, false, 5⟩, some ⟨.ints .u8 (ctLaw (subLaw zs 0 16) (subLaw ns 0 12) m), 0, true, 48⟩]⟩
theorem sm71c_ok {args : List AVal} {T : Tab} {zs : List Int} {ns : List Int} {gk : Nat} {gn : Nat} {cpk : Option Nat} {cpn : Option Nat} {m : Int} (h : allP (sm71c args T zs ns gk gn cpk cpn m).cs) : Small prog (fun _ => none) 71 args T (sm71c args T zs ns gk gn cpk cpn m).val (sm71c args T zs ns gk gn cpk cpn m).tab := by
  obtain ⟨hT, hv, h1, h2, h3, h4, h5, _⟩ := h
  simp only [Con.h] at hT hv h1 h2 h3 h4 h5
  injection hv with hv
  subst hT hv
  have l1 : (subLaw ns 0 12).length = 12 := subLaw_len (by omega)
  have b1 := sub_bytes h3 0 16
  have b2 := sub_bytes h4 0 12
  have l2 : ((subLaw ns 0 12) ++ fourLaw m).length = 16 := by rw [List.length_append, l1]; rfl
  have b3 := b2.append (four_bytes m)
  have et : List.take 12 (subLaw ns 0 12) ++ [m / 16777216 % 256, m / 65536 % 256, m / 256 % 256, m % 256] = (subLaw ns 0 12) ++ fourLaw m := by rw [take_n l1]; rfl
  refine small_ofG (R := R71 zs ns gk gn cpk cpn m) (keep := [0,1,5]) eGc_ok hmA (f := 71) (fn := f71) (by kernel_rfl) (by kernel_rfl) FnOrc.nil rfl (R71_ok ?_) R71_val (by rw [R71_tab, et, sub_n l2]; rfl)
  rw [et, sub_n l2]
  simp only [allP, Con.h, l1, l2, b1, b2, b3, h1, h2, eq_self, true_and, and_true]
  first | omega | decide
noncomputable def sm71 : Summary := fun args T => sm71c args T (xsAt T 0) (xsAt T 1) (gAt T 0) (gAt T 1) (capOf (vAt (vsOf (vAt args 0)) 0)) (capOf (vAt (vsOf (vAt args 0)) 1)) (iOf (vAt args 1))
theorem sm71_ok : SmOk prog (fun _ => none) 71 sm71 := fun args T h => sm71c_ok h
noncomputable def S71 : Summary := callR sm71 []
theorem S71_ok : SumOk prog (fun _ => none) 71 S71 := callR_ok sm71_ok []
/-! ### turn -/
noncomputable def eGt : Env := eA [(70, S70), (71, S71)]
theorem eGt_ok : EnvOk eGt := envOf_ok tysA_ok (SumsOk.cons (fn := f70) S70_ok (by kernel_rfl) (by kernel_rfl) (by kernel_rfl) (SumsOk.cons (fn := f71) S71_ok (by kernel_rfl) (by kernel_rfl) (by kernel_rfl) trivial))
noncomputable def A54 (zs ns : List Int) (gk gn : Nat) (cpk cpn : Option Nat) (ts : List Int) (gt : Nat) (owt : Bool) (n : Nat) (xs c : List Int) (i k : Int) : Out := trim 6 6 [2,5,6,21,22,23] (run eGt 45 ⟨6, []⟩ 400 (roundOf 2 f54) [(2, .var 3 0), (5, .slice 1 4 1 0 n none), (6, .int .i64 i), (21, .slice 1 5 0 0 16 (some 16)), (22, .int .i64 16), (23, .int .i64 k)] [some ⟨.ints .u8 zs, gk, false, 5⟩, some ⟨.ints .u8 ns, gn, false, 5⟩, some ⟨.ints .u8 ts, gt, owt, 5⟩, some ⟨.agg [.slice 1 0 gk 0 16 cpk, .slice 1 1 gn 0 12 cpn], 0, true, 60⟩, some ⟨.ints .u8 xs, 1, true, 5⟩, some ⟨.ints .u8 c, 0, true, 48⟩] [some true, some true])
theorem A54_ok {zs ns : List Int} {gk gn : Nat} {cpk cpn : Option Nat} {ts : List Int} {gt : Nat} {owt : Bool} {n : Nat} {xs c : List Int} {i k : Int} (h : allP [.p (decide (k < 16) = true), .leI 0 k, .leI (k + 1) 16, .leN (k.toNat + 1) c.length, .rng (-9223372036854775808) (i + k) 9223372036854775807, .p (decide (i + k < (↑n : Int)) = true), .rng (-9223372036854775808) (i + k) 9223372036854775807,
 .leI 0 (i + k), .leI (i + k + 1) (↑n : Int), .leN ((i + k).toNat + 1) xs.length, .nn .u8 (xs.getD (i + k).toNat 0), .nn .u8 (c.getD k.toNat 0), .leI 0 (i + k), .leI (i + k + 1) (↑n : Int), .leN ((i + k).toNat + 1) xs.length, .rng (-9223372036854775808) (k + 1) 9223372036854775807]) : Ok (A54 zs ns gk gn cpk cpn ts gt owt n xs c i k) := Ok.dem (fl := bitsF 25 11674770) (by kernel_rfl) (by
 kernel_rfl) (by kernel_rfl) h
theorem A54_ex {zs ns : List Int} {gk gn : Nat} {cpk cpn : Option Nat} {ts : List Int} {gt : Nat} {owt : Bool} {n : Nat} {xs c : List Int} {i k : Int} : (A54 zs ns gk gn cpk cpn ts gt owt n xs c i k).ex = .normal := by kernel_rfl
theorem A54_fm {zs ns : List Int} {gk gn : Nat} {cpk cpn : Option Nat} {ts : List Int} {gt : Nat} {owt : Bool} {n : Nat} {xs c : List Int} {i k : Int} : (A54 zs ns gk gn cpk cpn ts gt owt n xs c i k).fm = [(2, .var 3 0), (5, .slice 1 4 1 0 n none), (6, .int .i64 i), (21, .slice 1 5 0 0 16 (some 16)), (22, .int .i64 16), (23, .int .i64 (k + 1))] := by kernel_rfl
theorem A54_tab {zs ns : List Int} {gk gn : Nat} {cpk cpn : Option Nat} {ts : List Int} {gt : Nat} {owt : Bool} {n : Nat} {xs c : List Int} {i k : Int} : (A54 zs ns gk gn cpk cpn ts gt owt n xs c i k).tab = [some ⟨.ints .u8 zs, gk, false, 5⟩, some ⟨.ints .u8 ns, gn, false, 5⟩, some ⟨.ints .u8 ts, gt, owt, 5⟩, some ⟨.agg [.slice 1 0 gk 0 16 cpk, .slice 1 1 gn 0 12 cpn], 0, true, 60⟩, some ⟨.ints .u8
 (xs.set (i + k).toNat (ixor (xs.getD (i + k).toNat 0) (c.getD k.toNat 0))), 1, true, 5⟩, some ⟨.ints .u8 c, 0, true, 48⟩] := by kernel_rfl
noncomputable def B54 (zs ns : List Int) (gk gn : Nat) (cpk cpn : Option Nat) (ts : List Int) (gt : Nat) (owt : Bool) (n : Nat) (xs c : List Int) (i k : Int) : Out := trim 6 6 [2,5,6,21,22,23] (run eGt 45 ⟨6, []⟩ 400 (roundOf 2 f54) [(2, .var 3 0), (5, .slice 1 4 1 0 n none), (6, .int .i64 i), (21, .slice 1 5 0 0 16 (some 16)), (22, .int .i64 16), (23, .int .i64 k)] [some ⟨.ints .u8 zs, gk, false, 5⟩, some ⟨.ints .u8 ns, gn, false, 5⟩, some ⟨.ints .u8 ts, gt, owt, 5⟩, some ⟨.agg [.slice 1 0 gk 0 16 cpk, .slice 1 1 gn 0 12 cpn], 0, true, 60⟩, some ⟨.ints .u8 xs, 1, true, 5⟩, some ⟨.ints .u8 c, 0, true, 48⟩] [some true, some false])
theorem B54_ok {zs ns : List Int} {gk gn : Nat} {cpk cpn : Option Nat} {ts : List Int} {gt : Nat} {owt : Bool} {n : Nat} {xs c : List Int} {i k : Int} (h : allP [.p (decide (k < 16) = true), .leI 0 k, .leI (k + 1) 16, .leN (k.toNat + 1) c.length, .rng (-9223372036854775808) (i + k) 9223372036854775807, .p (decide (i + k < (↑n : Int)) = false), .rng (-9223372036854775808) (k + 1)
 9223372036854775807]) : Ok (B54 zs ns gk gn cpk cpn ts gt owt n xs c i k) := Ok.dem (fl := [false, true, false, false, true, false, false, true, false, false]) (by kernel_rfl) (by kernel_rfl) (by kernel_rfl) h
theorem B54_ex {zs ns : List Int} {gk gn : Nat} {cpk cpn : Option Nat} {ts : List Int} {gt : Nat} {owt : Bool} {n : Nat} {xs c : List Int} {i k : Int} : (B54 zs ns gk gn cpk cpn ts gt owt n xs c i k).ex = .normal := by kernel_rfl
theorem B54_fm {zs ns : List Int} {gk gn : Nat} {cpk cpn : Option Nat} {ts : List Int} {gt : Nat} {owt : Bool} {n : Nat} {xs c : List Int} {i k : Int} : (B54 zs ns gk gn cpk cpn ts gt owt n xs c i k).fm = [(2, .var 3 0), (5, .slice 1 4 1 0 n none), (6, .int .i64 i), (21, .slice 1 5 0 0 16 (some 16)), (22, .int .i64 16), (23, .int .i64 (k + 1))] := by kernel_rfl
theorem B54_tab {zs ns : List Int} {gk gn : Nat} {cpk cpn : Option Nat} {ts : List Int} {gt : Nat} {owt : Bool} {n : Nat} {xs c : List Int} {i k : Int} : (B54 zs ns gk gn cpk cpn ts gt owt n xs c i k).tab = [some ⟨.ints .u8 zs, gk, false, 5⟩, some ⟨.ints .u8 ns, gn, false, 5⟩, some ⟨.ints .u8 ts, gt, owt, 5⟩, some ⟨.agg [.slice 1 0 gk 0 16 cpk, .slice 1 1 gn 0 12 cpn], 0, true, 60⟩, some ⟨.ints .u8
 xs, 1, true, 5⟩, some ⟨.ints .u8 c, 0, true, 48⟩] := by kernel_rfl
noncomputable def D54 (zs ns : List Int) (gk gn : Nat) (cpk cpn : Option Nat) (ts : List Int) (gt : Nat) (owt : Bool) (n : Nat) (xs c : List Int) (i : Int) : Out := trim 6 6 [2,5,6] (run eGt 45 ⟨6, []⟩ 400 (roundOf 2 f54) [(2, .var 3 0), (5, .slice 1 4 1 0 n none), (6, .int .i64 i), (21, .slice 1 5 0 0 16 (some 16)), (22, .int .i64 16), (23, .int .i64 16)] [some ⟨.ints .u8 zs, gk, false, 5⟩, some ⟨.ints .u8 ns, gn, false, 5⟩, some ⟨.ints .u8 ts, gt, owt, 5⟩, some ⟨.agg [.slice 1 0 gk 0 16 cpk, .slice 1 1 gn 0 12 cpn], 0, true, 60⟩, some ⟨.ints .u8 xs, 1, true, 5⟩, some ⟨.ints .u8 c, 0, true, 48⟩] [])
theorem D54_ok {zs ns : List Int} {gk gn : Nat} {cpk cpn : Option Nat} {ts : List Int} {gt : Nat} {owt : Bool} {n : Nat} {xs c : List Int} {i : Int} (h : allP []) : Ok (D54 zs ns gk gn cpk cpn ts gt owt n xs c i) := Ok.dem (fl := []) (by kernel_rfl) (by kernel_rfl) (by kernel_rfl) h
theorem D54_ex {zs ns : List Int} {gk gn : Nat} {cpk cpn : Option Nat} {ts : List Int} {gt : Nat} {owt : Bool} {n : Nat} {xs c : List Int} {i : Int} : (D54 zs ns gk gn cpk cpn ts gt owt n xs c i).ex = .exit 2 := by kernel_rfl
theorem D54_fm {zs ns : List Int} {gk gn : Nat} {cpk cpn : Option Nat} {ts : List Int} {gt : Nat} {owt : Bool} {n : Nat} {xs c : List Int} {i : Int} : (D54 zs ns gk gn cpk cpn ts gt owt n xs c i).fm = [(2, .var 3 0), (5, .slice 1 4 1 0 n none), (6, .int .i64 i)] := by kernel_rfl
theorem D54_tab {zs ns : List Int} {gk gn : Nat} {cpk cpn : Option Nat} {ts : List Int} {gt : Nat} {owt : Bool} {n : Nat} {xs c : List Int} {i : Int} : (D54 zs ns gk gn cpk cpn ts gt owt n xs c i).tab = [some ⟨.ints .u8 zs, gk, false, 5⟩, some ⟨.ints .u8 ns, gn, false, 5⟩, some ⟨.ints .u8 ts, gt, owt, 5⟩, some ⟨.agg [.slice 1 0 gk 0 16 cpk, .slice 1 1 gn 0 12 cpn], 0, true, 60⟩, some ⟨.ints .u8 xs,
 1, true, 5⟩, some ⟨.ints .u8 c, 0, true, 48⟩] := by kernel_rfl
def xk2Law (c xs : List Int) (i : Nat) : Nat → List Int
  | 0 => xs
  | k + 1 => if i + k < xs.length then (xk2Law c xs i k).set (i + k) (ixor ((xk2Law c xs i k).getD (i + k) 0) (c.getD k 0)) else xk2Law c xs i k
theorem bx_len (c xs : List Int) (i : Nat) : ∀ k, (xk2Law c xs i k).length = xs.length
  | 0 => rfl
  | k + 1 => by unfold xk2Law; split <;> simp only [List.length_set, bx_len c xs i k]
theorem Bytes.set {l : List Int} (h : Bytes l) (i : Nat) {v : Int} (hv : 0 ≤ v ∧ v < 256) : Bytes (l.set i v) := fun j hj => by
  rw [List.getD_eq_getElem?_getD, List.getElem?_set]
  have := h.get j
  rw [List.getD_eq_getElem?_getD] at this
  split
  · split
    · exact hv
    · exact ⟨Int.le_refl 0, by decide⟩
  · exact this
theorem bx_bytes {c xs : List Int} (hc : Bytes c) (hx : Bytes xs) (i : Nat) : ∀ k, Bytes (xk2Law c xs i k)
  | 0 => hx
  | k + 1 => by
    unfold xk2Law
    split
    · exact (bx_bytes hc hx i k).set _ (ixor_lt8 ((bx_bytes hc hx i k).get _) (hc.get _))
    · exact bx_bytes hc hx i k
def xkLaw (c xs : List Int) (i : Nat) : List Int := xk2Law c xs i 16
theorem loop54 {zs ns : List Int} {gk gn : Nat} {cpk cpn : Option Nat} {ts : List Int} {gt : Nat} {owt : Bool} {n : Nat} {xs c : List Int} (hn : n = xs.length) (hb : n ≤ 140737488352000) (hx : Bytes xs) (hc : Bytes c) (hl : c.length = 16) {i : Nat} (hi : i ≤ n) : To eGt 45 6 (.block 2 (.loop (roundOf 2 f54))) [(2, .var 3 0), (5, .slice 1 4 1 0 n none), (6, .int .i64 (i : Nat)), (21, .slice 1 5 0 0 16 (some 16)), (22, .int .i64 16), (23, .int .i64 0)] [some ⟨.ints .u8 zs, gk, false, 5⟩, some ⟨.ints .u8 ns, gn, false, 5⟩, some ⟨.ints .u8 ts, gt, owt, 5⟩, some ⟨.agg [.slice 1 0 gk 0 16 cpk, .slice 1 1 gn 0 12 cpn], 0, true, 60⟩, some ⟨.ints .u8 xs, 1, true, 5⟩, some ⟨.ints .u8 c, 0, true, 48⟩] .normal [(2, .var 3 0), (5, .slice 1 4 1 0 n none), (6, .int .i64 (i : Nat))] [some ⟨.ints .u8 zs, gk, false, 5⟩, some ⟨.ints .u8 ns, gn, false, 5⟩, some ⟨.ints .u8 ts, gt, owt, 5⟩, some ⟨.agg [.slice 1 0 gk 0 16 cpk, .slice 1 1 gn 0 12 cpn], 0, true, 60⟩, some ⟨.ints .u8 (xkLaw c xs i), 1, true, 5⟩, some ⟨.ints .u8 c, 0, true, 48⟩] := by
  refine To.rounds (fun k : Nat => [(2, .var 3 0), (5, .slice 1 4 1 0 n none), (6, .int .i64 (i : Nat)), (21, .slice 1 5 0 0 16 (some 16)), (22, .int .i64 16), (23, .int .i64 (k : Nat))]) (fun k => [some ⟨.ints .u8 zs, gk, false, 5⟩, some ⟨.ints .u8 ns, gn, false, 5⟩, some ⟨.ints .u8 ts, gt, owt, 5⟩, some ⟨.agg [.slice 1 0 gk 0 16 cpk, .slice 1 1 gn 0 12 cpn], 0, true, 60⟩, some ⟨.ints .u8 (xk2Law c xs i k), 1, true, 5⟩, some ⟨.ints .u8 c, 0, true, 48⟩]) 16 (fun k hk => ?_) (To.of (o := D54 zs ns gk gn cpk cpn ts gt owt n (xk2Law c xs i 16) c (i : Nat)) eGt_ok hmA (Nat.le_refl 6) OrcOk.nil rfl (D54_ok trivial) D54_ex D54_fm D54_tab)
  have h1 := bx_len c xs i k
  have h2 := (bx_bytes hc hx i k).get (i + k)
  have h3 := hc.get k
  have e : ((i : Int) + k).toNat = i + k := by omega
  by_cases h : i + k < n
  · refine To.of (o := A54 zs ns gk gn cpk cpn ts gt owt n (xk2Law c xs i k) c (i : Nat) (k : Nat)) eGt_ok hmA (Nat.le_refl 6) OrcOk.nil rfl (A54_ok ?_) A54_ex A54_fm ?_
    · rw [e]
      simp only [allP, Con.h, nonneg, addO_eq, Nat.zero_add, Nat.add_zero, Int.toNat_natCast, h1, hl, decide_eq_true_eq, eq_self, true_and, and_true]
      omega
    · rw [A54_tab, e]
      simp only [addO_eq, Nat.zero_add, Nat.add_zero, Int.toNat_natCast]
      rw [show xk2Law c xs i (k + 1) = (xk2Law c xs i k).set (i + k) (ixor ((xk2Law c xs i k).getD (i + k) 0) (c.getD k 0)) from if_pos (by omega)]
  · refine To.of (o := B54 zs ns gk gn cpk cpn ts gt owt n (xk2Law c xs i k) c (i : Nat) (k : Nat)) eGt_ok hmA (Nat.le_refl 6) OrcOk.nil rfl (B54_ok ?_) B54_ex B54_fm ?_
    · simp only [allP, Con.h, nonneg, addO_eq, Nat.zero_add, Nat.add_zero, Int.toNat_natCast, h1, hl, decide_eq_true_eq, decide_eq_false_iff_not, eq_self, true_and, and_true]
      omega
    · rw [B54_tab, show xk2Law c xs i (k + 1) = xk2Law c xs i k from if_neg (by omega)]
noncomputable def g54ic (vs : List AVal) (T : Tab) (zs : List Int) (ns : List Int) (gk : Nat) (gn : Nat) (cpk : Option Nat) (cpn : Option Nat) (ts : List Int) (gt : Nat) (owt : Bool) (n : Nat) (xs : List Int) (c : List Int) (i : Nat) (ii : Int) : Out := ⟨[.tab T [some ⟨.ints .u8 zs, gk, false, 5⟩, some ⟨.ints .u8 ns, gn, false, 5⟩, some ⟨.ints .u8 ts, gt, owt, 5⟩, some ⟨.agg [.slice 1 0 gk 0 16 cpk, .slice 1 1 gn 0 12 cpn], 0, true, 60⟩, some ⟨.ints .u8 xs, 1, true, 5⟩, some ⟨.ints .u8 c, 0, true, 48⟩], .val (.tuple vs) (.tuple [.var 3 0, .slice 1 4 1 0 n none, .int .i64 ii, .slice 1 5 0 0 16 (some 16), .int .i64 16, .int .i64 0]), .eqN n xs.length, .leN n 140737488352000, .p (Bytes xs), .p (Bytes c), .eqN c.length 16, .p (ii = (i : Nat)), .leN i n], .normal, [(2, .var 3 0), (5, .slice 1 4 1 0 n none), (6, .int .i64 ii)], [some ⟨.ints .u8 zs, gk, false, 5⟩, some ⟨.ints .u8 ns, gn, false, 5⟩, some ⟨.ints .u8 ts, gt, owt, 5⟩, some ⟨.agg [.slice 1 0 gk 0 16 cpk, .slice 1 1 gn 0 12 cpn], 0, true, 60⟩, some ⟨.ints .u8 (xkLaw c xs i), 1, true, 5⟩, some ⟨.ints .u8 c, 0, true, 48⟩], []⟩
theorem g54ic_ok {vs : List AVal} {T : Tab} {zs : List Int} {ns : List Int} {gk : Nat} {gn : Nat} {cpk : Option Nat} {cpn : Option Nat} {ts : List Int} {gt : Nat} {owt : Bool} {n : Nat} {xs : List Int} {c : List Int} {i : Nat} {ii : Int} (h : Ok (g54ic vs T zs ns gk gn cpk cpn ts gt owt n xs c i ii)) : To eGt 45 6 (.block 2 (.loop (roundOf 2 f54))) (zipF [2,5,6,21,22,23] vs) T (g54ic vs T zs ns gk gn cpk cpn ts gt owt n xs c i ii).ex (g54ic vs T zs ns gk gn cpk cpn ts gt owt n xs c i ii).fm (g54ic vs T zs ns gk gn cpk cpn ts gt owt n xs c i ii).tab := by
  obtain ⟨hT, hv, h1, h2, h3, h4, h5, h6, h7, _⟩ := h.h
  simp only [Con.h] at hT hv h1 h2 h3 h4 h5 h6 h7
  injection hv with hv
  subst hT hv
  subst h6
  exact loop54 h1 h2 h3 h4 h5 h7
noncomputable def g54i : List AVal → Tab → Out := fun vs T => g54ic vs T (xsAt T 0) (xsAt T 1) (gAt T 0) (gAt T 1) (capOf (cAt T 3 0)) (capOf (cAt T 3 1)) (xsAt T 2) (gAt T 2) (owAt T 2) (lenOf (vAt vs 1)) (xsAt T 4) (xsAt T 5) ((iOf (vAt vs 2)).toNat) (iOf (vAt vs 2))
theorem g54i_ok : BlkOk eGt f54 2 (.loop (roundOf 2 f54)) (blkS 6 [2,5,6,21,22,23] g54i) := blkS_ok fun vs T h => g54ic_ok h
noncomputable def orc54i : OrcL := [(2, blkS 6 [2,5,6,21,22,23] g54i)]
noncomputable def O54 (zs ns : List Int) (gk gn : Nat) (cpk cpn : Option Nat) (ts : List Int) (gt : Nat) (owt : Bool) (n : Nat) (xs : List Int) (i : Int) : Out := trim 5 5 [2,5,6] (run eGt 45 ⟨5, orc54i⟩ 400 (roundOf 0 f54) [(2, .var 3 0), (5, .slice 1 4 1 0 n none), (6, .int .i64 i)] [some ⟨.ints .u8 zs, gk, false, 5⟩, some ⟨.ints .u8 ns, gn, false, 5⟩, some ⟨.ints .u8 ts, gt, owt, 5⟩, some ⟨.agg [.slice 1 0 gk 0 16 cpk, .slice 1 1 gn 0 12 cpn], 0, true, 60⟩, some ⟨.ints .u8 xs, 1, true, 5⟩] [some true])
theorem O54_ok {zs ns : List Int} {gk gn : Nat} {cpk cpn : Option Nat} {ts : List Int} {gt : Nat} {owt : Bool} {n : Nat} {xs : List Int} {i : Int} (h : allP [.p (decide (i < (↑n : Int)) = true), .rng (-9223372036854775808) (i.tdiv 16) 9223372036854775807, .rng (-9223372036854775808) (2 + i.tdiv 16) 9223372036854775807, .eqN gk gk, .eqN gn gn, .leN 16 zs.length, .leN 12 ns.length, .p (Bytes zs), .p
 (Bytes ns), .leI 0 (2 + i.tdiv 16), .eqN n xs.length, .leN n 140737488352000, .p (Bytes xs), .p (Bytes (ctLaw (subLaw zs 0 16) (subLaw ns 0 12) (2 + i.tdiv 16))), .p (i = (↑i.toNat : Int)), .leN i.toNat n, .rng (-9223372036854775808) (i + 16) 9223372036854775807]) : Ok (O54 zs ns gk gn cpk cpn ts gt owt n xs i) := Ok.dem (fl := bitsF 27 8454173) (by kernel_rfl) (by kernel_rfl) (by kernel_rfl) h
theorem O54_ex {zs ns : List Int} {gk gn : Nat} {cpk cpn : Option Nat} {ts : List Int} {gt : Nat} {owt : Bool} {n : Nat} {xs : List Int} {i : Int} : (O54 zs ns gk gn cpk cpn ts gt owt n xs i).ex = .normal := by kernel_rfl
theorem O54_fm {zs ns : List Int} {gk gn : Nat} {cpk cpn : Option Nat} {ts : List Int} {gt : Nat} {owt : Bool} {n : Nat} {xs : List Int} {i : Int} : (O54 zs ns gk gn cpk cpn ts gt owt n xs i).fm = [(2, .var 3 0), (5, .slice 1 4 1 0 n none), (6, .int .i64 (i + 16))] := by kernel_rfl
theorem O54_tab {zs ns : List Int} {gk gn : Nat} {cpk cpn : Option Nat} {ts : List Int} {gt : Nat} {owt : Bool} {n : Nat} {xs : List Int} {i : Int} : (O54 zs ns gk gn cpk cpn ts gt owt n xs i).tab = [some ⟨.ints .u8 zs, gk, false, 5⟩, some ⟨.ints .u8 ns, gn, false, 5⟩, some ⟨.ints .u8 ts, gt, owt, 5⟩, some ⟨.agg [.slice 1 0 gk 0 16 cpk, .slice 1 1 gn 0 12 cpn], 0, true, 60⟩, some ⟨.ints .u8 (xkLaw
 (ctLaw (subLaw zs 0 16) (subLaw ns 0 12) (2 + i.tdiv 16)) xs i.toNat), 1, true, 5⟩] := by kernel_rfl
noncomputable def E54 (zs ns : List Int) (gk gn : Nat) (cpk cpn : Option Nat) (ts : List Int) (gt : Nat) (owt : Bool) (n : Nat) (xs : List Int) (i : Int) : Out := trim 5 5 [5] (run eGt 45 ⟨5, []⟩ 400 (roundOf 0 f54) [(2, .var 3 0), (5, .slice 1 4 1 0 n none), (6, .int .i64 i)] [some ⟨.ints .u8 zs, gk, false, 5⟩, some ⟨.ints .u8 ns, gn, false, 5⟩, some ⟨.ints .u8 ts, gt, owt, 5⟩, some ⟨.agg [.slice 1 0 gk 0 16 cpk, .slice 1 1 gn 0 12 cpn], 0, true, 60⟩, some ⟨.ints .u8 xs, 1, true, 5⟩] [some false])
theorem E54_ok {zs ns : List Int} {gk gn : Nat} {cpk cpn : Option Nat} {ts : List Int} {gt : Nat} {owt : Bool} {n : Nat} {xs : List Int} {i : Int} (h : allP [.p (decide (i < (↑n : Int)) = false)]) : Ok (E54 zs ns gk gn cpk cpn ts gt owt n xs i) := Ok.dem (fl := [true, false]) (by kernel_rfl) (by kernel_rfl) (by kernel_rfl) h
theorem E54_ex {zs ns : List Int} {gk gn : Nat} {cpk cpn : Option Nat} {ts : List Int} {gt : Nat} {owt : Bool} {n : Nat} {xs : List Int} {i : Int} : (E54 zs ns gk gn cpk cpn ts gt owt n xs i).ex = .exit 0 := by kernel_rfl
theorem E54_fm {zs ns : List Int} {gk gn : Nat} {cpk cpn : Option Nat} {ts : List Int} {gt : Nat} {owt : Bool} {n : Nat} {xs : List Int} {i : Int} : (E54 zs ns gk gn cpk cpn ts gt owt n xs i).fm = [(5, .slice 1 4 1 0 n none)] := by kernel_rfl
theorem E54_tab {zs ns : List Int} {gk gn : Nat} {cpk cpn : Option Nat} {ts : List Int} {gt : Nat} {owt : Bool} {n : Nat} {xs : List Int} {i : Int} : (E54 zs ns gk gn cpk cpn ts gt owt n xs i).tab = [some ⟨.ints .u8 zs, gk, false, 5⟩, some ⟨.ints .u8 ns, gn, false, 5⟩, some ⟨.ints .u8 ts, gt, owt, 5⟩, some ⟨.agg [.slice 1 0 gk 0 16 cpk, .slice 1 1 gn 0 12 cpn], 0, true, 60⟩, some ⟨.ints .u8 xs, 1,
 true, 5⟩] := by kernel_rfl
end Go.Abs

set_option linter.unusedVariables false
set_option linter.unusedSimpArgs false
set_option maxRecDepth 8000
namespace Go.Abs
open Go.Proofs.Try
/-! ### hash: its codes -/
noncomputable def S77 : Summary := sumI modeO (eA []) f77 [] 100 [] []
theorem S77_ok : SumOk prog (fun _ => none) 77 S77 := sumI_ok eA0_ok hmA (fn := f77) (by kernel_rfl) (by kernel_rfl) [] FnOrc.nil 100 [] []
noncomputable def S80 : Summary := sumI modeO (eA []) f80 [] 100 [] []
theorem S80_ok : SumOk prog (fun _ => none) 80 S80 := sumI_ok eA0_ok hmA (fn := f80) (by kernel_rfl) (by kernel_rfl) [] FnOrc.nil 100 [] []
noncomputable def eGh : Env := eA [(59, S59), (60, S60), (73, S73), (77, S77), (80, S80)]
theorem eGh_ok : EnvOk eGh := envOf_ok tysA_ok (SumsOk.cons (fn := f59) S59_ok (by kernel_rfl) (by kernel_rfl) (by kernel_rfl) (SumsOk.cons (fn := f60) S60_ok (by kernel_rfl) (by kernel_rfl) (by kernel_rfl) (SumsOk.cons (fn := f73) S73_ok (by kernel_rfl) (by kernel_rfl) (by kernel_rfl) (SumsOk.cons (fn := f77) S77_ok (by kernel_rfl) (by kernel_rfl) (by kernel_rfl) (SumsOk.cons (fn := f80) S80_ok (by kernel_rfl) (by kernel_rfl) (by kernel_rfl) trivial)))))
def fstC : Code → Code
  | .seq a b => a
  | c => c
def sndC : Code → Code
  | .seq a b => b
  | c => c
def blkC : Code → Code
  | .block _ c => c
  | .loop c => c
  | c => c
def rfAssign : Code → Code
  | .rangeFunc _ _ a _ => a
  | c => c
def rfBody : Code → Code
  | .rangeFunc _ _ _ b => b
  | c => c
def opsC : Code → Array Oper
  | .region _ o _ => o
  | _ => #[]
def theCall (o : Oper) : Call := match o.op with | .call c => c | _ => default
noncomputable def rf63 : Code := blkC (sndC (fstC (sndC (sndC (bodyOf f63)))))
noncomputable def as63 : Code := rfAssign rf63
noncomputable def bd63 : Code := rfBody rf63
noncomputable def hd79 : Code := fstC (roundOf 0 f79)
noncomputable def c79 : Code := fstC (sndC (roundOf 0 f79))
noncomputable def x79 : Code := blkC (fstC (sndC (sndC (roundOf 0 f79))))
noncomputable def rf79 : Code := blkC (sndC (sndC x79))
noncomputable def as79 : Code := rfAssign rf79
noncomputable def bd79 : Code := rfBody rf79
noncomputable def ops79 : Array Oper := opsC (fstC (blkC bd79))
noncomputable def cnd79 : Code := sndC (blkC bd79)
noncomputable def r79 : Code := sndC (sndC (sndC (roundOf 0 f79)))
noncomputable def hd81 : Code := fstC (roundOf 0 f81)
noncomputable def x81 : Code := blkC (fstC (sndC (roundOf 0 f81)))
noncomputable def m81 : Code := fstC x81
noncomputable def ops81 : Array Oper := opsC (fstC (sndC x81))
noncomputable def cnd81 : Code := sndC (sndC x81)
noncomputable def r81 : Code := sndC (sndC (roundOf 0 f81))
theorem rf63_eq : rf63 = .rangeFunc (.tmp 8) #[9] as63 bd63 := by kernel_rfl
theorem rf79_eq : rf79 = .rangeFunc (.tmp 13) #[14] as79 bd79 := by kernel_rfl
theorem split79 : roundOf 0 f79 = .seq hd79 (.seq c79 (.seq (.block 1 (.seq (fstC x79) (.seq (fstC (sndC x79)) (.block 2 rf79)))) r79)) := by kernel_rfl
theorem splitb79 : bodyOf f79 = .seq (fstC (bodyOf f79)) (.seq (fstC (sndC (bodyOf f79))) (.block 0 (.loop (roundOf 0 f79)))) := by kernel_rfl
theorem bd79_eq : bd79 = .block 3 (.seq (.region 6 ops79 true) cnd79) := by kernel_rfl
theorem split81 : roundOf 0 f81 = .seq hd81 (.seq (.block 1 (.seq m81 (.seq (.region 4 ops81 false) cnd81))) r81) := by kernel_rfl
theorem splitb81 : bodyOf f81 = .seq (fstC (bodyOf f81)) (.block 0 (.loop (roundOf 0 f81))) := by kernel_rfl
theorem res79 : f79.results.toList = [] := by kernel_rfl
theorem res81 : f81.results.toList = [] := by kernel_rfl
end Go.Abs

set_option linter.unusedVariables false
set_option linter.unusedSimpArgs false
set_option maxRecDepth 8000
namespace Go.Abs
open Go.Proofs.Try
/-! ### hash: pure -/
def ckLaw (z : List Int) (n j : Nat) : List Int := List.take (min 16 (n - 16 * j)) (List.drop (16 * j) z) ++ List.replicate (16 - (n - 16 * j)) 0
def hyLaw (h y z : List Int) (n : Nat) : Nat → List Int
  | 0 => y
  | j + 1 => mwLaw (xwLaw (hyLaw h y z n j) (gwLaw (ckLaw z n j))) h
def hsLaw (h y z : List Int) (n : Nat) : List Int := hyLaw h y z n ((n + 15) / 16)
theorem ck_len {z : List Int} {n : Nat} (h : n ≤ z.length) (j : Nat) : (ckLaw z n j).length = 16 := by
  unfold ckLaw
  rw [List.length_append, List.length_take, List.length_drop, List.length_replicate]; omega
theorem Bytes.zer (n : Nat) : Bytes (List.replicate n 0) := fun i hi => by
  rw [List.getD_eq_getElem?_getD, List.getElem?_replicate]; split <;> decide
theorem ck_bytes {z : List Int} (hb : Bytes z) (n j : Nat) : Bytes (ckLaw z n j) := ((hb.drop _).take _).append (Bytes.zer _)
theorem ck_full {z : List Int} {n j : Nat} (h : 16 * j + 16 ≤ n) : ckLaw z n j = subLaw z (16 * j) 16 := by
  unfold ckLaw
  rw [show min 16 (n - 16 * j) = 16 by omega, show 16 - (n - 16 * j) = 0 by omega, List.replicate_zero, List.append_nil]; rfl
theorem ck_part {z : List Int} {n j : Nat} (h : n < 16 * j + 16) : ckLaw z n j = List.take (n - 16 * j) (List.drop (16 * j) z) ++ List.replicate (16 - (n - 16 * j)) 0 := by
  unfold ckLaw
  rw [show min 16 (n - 16 * j) = n - 16 * j by omega]
theorem hy_wp {h y z : List Int} {n : Nat} (hy : WpLaw y) (hn : n ≤ z.length) (hb : Bytes z) : ∀ j, WpLaw (hyLaw h y z n j)
  | 0 => hy
  | j + 1 => ((hy_wp hy hn hb j).xw (.gw (ck_bytes hb n j) (ck_len hn j))).mw
theorem hs_wp {h y z : List Int} {n : Nat} (hy : WpLaw y) (hn : n ≤ z.length) (hb : Bytes z) : WpLaw (hsLaw h y z n) := hy_wp hy hn hb _
theorem WpLaw.zero : WpLaw [0, 0] := ⟨0, by decide, by kernel_rfl⟩
theorem take_sub {z : List Int} : subLaw z 0 16 = List.take 16 z := rfl
theorem cnd79_eq : cnd79 = .cond (.tmp 28) .ret .skip := by kernel_rfl
theorem cnd81_eq : cnd81 = .cond (.tmp 30) .ret .skip := by kernel_rfl
theorem c79_eq : c79 = .cond (.tmp 9) .skip (.exit 0) := by kernel_rfl
def subF : Fm → Fm → Prop
  | [], _ => True
  | (t, v) :: r, fm => look fm t = some v ∧ subF r fm
theorem subF_ok {fm : Fm} : ∀ {f : Fm}, subF f fm → ∀ t v, look f t = some v → look fm t = some v
  | [], _, t, v, h => by cases h
  | (s, u) :: r, h, t, v, hl => by
    simp only [look] at hl
    split at hl
    · rename_i e
      have := Nat.eq_of_beq_eq_true e
      subst this
      injection hl with hl; subst hl
      exact h.1
    · exact subF_ok h.2 t v hl
theorem YWp.sub {E : Env} {n k : Nat} {A : Amb} {c : Code} {fm f : Fm} {T : Tab} {σ : List St} {post : AExit → Fm → Tab → List St → Prop} (hs : subF f fm) (h : YWp E n k A c f T σ post) : YWp E n k A c fm T σ post :=
  fun rr D ν a w hr hrd hA => h rr D ν a w ⟨hr.hr, fun t v hv => hr.fm t v (subF_ok hs t v hv), hr.size, hr.defers⟩ hrd hA
theorem YWp.base {E : Env} {n k kb : Nat} {A : Amb} {c : Code} {fm : Fm} {T : Tab} {σ : List St} {post : AExit → Fm → Tab → List St → Prop} (hk : k ≤ kb) (h : YWp E n kb A c fm T σ post) : YWp E n k A c fm T σ post :=
  fun rr D ν a w hs hrd hA => wpIn_mono (h rr D ν a w hs hrd hA) fun e a' w' ⟨ex, fm', T', σ', ν', h1, h2, h3, h6, h4, h5⟩ => ⟨ex, fm', T', σ', ν', h1, h2, h3, h6, fun p hp => h4 p (Nat.lt_of_lt_of_le hp hk), h5⟩
theorem YWp.skip {E : Env} {n k : Nat} {A : Amb} {fm : Fm} {T : Tab} {σ : List St} {post : AExit → Fm → Tab → List St → Prop} (hin : ambIn k A) (h : post .normal fm T σ) : YWp E n k A .skip fm T σ post := YWp.lift hin (AWp.skip h)
theorem YWp.exit {E : Env} {n k id : Nat} {A : Amb} {fm : Fm} {T : Tab} {σ : List St} {post : AExit → Fm → Tab → List St → Prop} (hin : ambIn k A) (h : post (.exit id) fm T σ) : YWp E n k A (.exit id) fm T σ post := YWp.lift hin (AWp.exit h)
theorem min16 (x : Nat) : (if ((x : Nat) : Int) < 16 then (x : Int) else 16) = ((min 16 x : Nat) : Int) := by split <;> omega
def TBa (z0 : List Int) (g0 n0 ga : Nat) (kx : List Int) (y : List Int) : Tab := [some ⟨.agg [.slice 1 1 g0 0 n0 none], ga, false, 25⟩, some ⟨.ints .u8 z0, g0, false, 5⟩, some ⟨.ints .u64 kx, 0, true, 65⟩, some ⟨.ints .u64 [0, 0], 0, true, 65⟩, some ⟨.ints .u64 y, 0, true, 65⟩, some ⟨.agg [.slice 1 0 ga 0 1 (some 1)], 0, true, 81⟩]
def TPa (z0 : List Int) (g0 n0 ga : Nat) (kx : List Int) (y : List Int) (l1 : Nat) : Tab := [some ⟨.agg [.slice 1 1 g0 0 n0 none], ga, false, 25⟩, some ⟨.ints .u8 z0, g0, false, 5⟩, some ⟨.ints .u64 kx, 0, true, 65⟩, some ⟨.ints .u64 [0, 0], 0, true, 65⟩, some ⟨.ints .u64 y, 0, true, 65⟩, some ⟨.agg [.slice 1 0 ga 0 1 (some 1)], 0, true, 81⟩, some ⟨.agg [.func (.yield l1) [] []], 0, true, 85⟩]
def TNa0 (z0 : List Int) (g0 n0 ga : Nat) (kx : List Int) (y : List Int) (l1 : Nat) : Tab := [some ⟨.agg [.slice 1 1 g0 0 n0 none], ga, false, 25⟩, some ⟨.ints .u8 z0, g0, false, 5⟩, some ⟨.ints .u64 kx, 0, true, 65⟩, some ⟨.ints .u64 [0, 0], 0, true, 65⟩, some ⟨.ints .u64 y, 0, true, 65⟩, some ⟨.agg [.slice 1 0 ga 0 1 (some 1)], 0, true, 81⟩, some ⟨.agg [.func (.yield l1) [] []], 0, true, 85⟩, some ⟨.agg [.slice 1 1 g0 0 n0 none], 0, true, 25⟩, some ⟨.ints .i64 [16], 0, true, 3⟩]
def TQa0 (z0 : List Int) (g0 n0 ga : Nat) (kx : List Int) (y : List Int) (l1 : Nat) (x : List Int) : Tab := [some ⟨.agg [.slice 1 1 g0 0 n0 none], ga, false, 25⟩, some ⟨.ints .u8 z0, g0, false, 5⟩, some ⟨.ints .u64 kx, 0, true, 65⟩, some ⟨.ints .u64 [0, 0], 0, true, 65⟩, some ⟨.ints .u64 y, 0, true, 65⟩, some ⟨.agg [.slice 1 0 ga 0 1 (some 1)], 0, true, 81⟩, some ⟨.agg [.func (.yield l1) [] []], 0, true, 85⟩, some ⟨.agg [.slice 1 1 g0 0 n0 none], 0, true, 25⟩, some ⟨.ints .i64 [16], 0, true, 3⟩, some ⟨.ints .u8 x, 0, true, 5⟩]
def TUa0 (z0 : List Int) (g0 n0 ga : Nat) (kx : List Int) (y : List Int) (l1 : Nat) (b : List Int) : Tab := [some ⟨.agg [.slice 1 1 g0 0 n0 none], ga, false, 25⟩, some ⟨.ints .u8 z0, g0, false, 5⟩, some ⟨.ints .u64 kx, 0, true, 65⟩, some ⟨.ints .u64 [0, 0], 0, true, 65⟩, some ⟨.ints .u64 y, 0, true, 65⟩, some ⟨.agg [.slice 1 0 ga 0 1 (some 1)], 0, true, 81⟩, some ⟨.agg [.func (.yield l1) [] []], 0, true, 85⟩, some ⟨.agg [.slice 1 1 g0 0 n0 none], 0, true, 25⟩, some ⟨.ints .i64 [16], 0, true, 3⟩, some ⟨.ints .u64 b, 0, true, 65⟩]
def TVa0 (z0 : List Int) (g0 n0 ga : Nat) (kx : List Int) (y : List Int) (l1 : Nat) (x b : List Int) : Tab := [some ⟨.agg [.slice 1 1 g0 0 n0 none], ga, false, 25⟩, some ⟨.ints .u8 z0, g0, false, 5⟩, some ⟨.ints .u64 kx, 0, true, 65⟩, some ⟨.ints .u64 [0, 0], 0, true, 65⟩, some ⟨.ints .u64 y, 0, true, 65⟩, some ⟨.agg [.slice 1 0 ga 0 1 (some 1)], 0, true, 81⟩, some ⟨.agg [.func (.yield l1) [] []], 0, true, 85⟩, some ⟨.agg [.slice 1 1 g0 0 n0 none], 0, true, 25⟩, some ⟨.ints .i64 [16], 0, true, 3⟩, some ⟨.ints .u8 x, 0, true, 5⟩, some ⟨.ints .u64 b, 0, true, 65⟩]
/-! text 0 of 1 -/
noncomputable def Hya0 (z0 : List Int) (g0 n0 ga : Nat) (kx : List Int) (y : List Int) (l1 l2 : Nat) (i : Int) : Out := trim 9 9 [0,1,2,4] (run eGh 31 ⟨9, []⟩ 400 hd81 [(0, .func (.yield l2) [] []), (1, .var 7 0), (2, .var 8 0), (4, .int .i64 i)] (TNa0 z0 g0 n0 ga kx y l1) [some true])
theorem Hya0_ok {z0 : List Int} {g0 n0 ga : Nat} {kx : List Int} {y : List Int} {l1 l2 : Nat} {i : Int} (h : allP [.eqN g0 g0, .p (decide (i < (↑n0 : Int)) = true)]) : Ok (Hya0 z0 g0 n0 ga kx y l1 l2 i) := Ok.dem (fl := [true, true, false, false]) (by kernel_rfl) (by kernel_rfl) (by kernel_rfl) h
theorem Hya0_ex {z0 : List Int} {g0 n0 ga : Nat} {kx : List Int} {y : List Int} {l1 l2 : Nat} {i : Int} : (Hya0 z0 g0 n0 ga kx y l1 l2 i).ex = .normal := by kernel_rfl
theorem Hya0_fm {z0 : List Int} {g0 n0 ga : Nat} {kx : List Int} {y : List Int} {l1 l2 : Nat} {i : Int} : (Hya0 z0 g0 n0 ga kx y l1 l2 i).fm = [(0, .func (Fn.yield l2) [] []), (1, .var 7 0), (2, .var 8 0), (4, .int .i64 i)] := by kernel_rfl
theorem Hya0_tab {z0 : List Int} {g0 n0 ga : Nat} {kx : List Int} {y : List Int} {l1 l2 : Nat} {i : Int} : (Hya0 z0 g0 n0 ga kx y l1 l2 i).tab = TNa0 z0 g0 n0 ga kx y l1 := by kernel_rfl
noncomputable def Hna0 (z0 : List Int) (g0 n0 ga : Nat) (kx : List Int) (y : List Int) (l1 l2 : Nat) (i : Int) : Out := trim 9 9 [] (run eGh 31 ⟨9, []⟩ 400 hd81 [(0, .func (.yield l2) [] []), (1, .var 7 0), (2, .var 8 0), (4, .int .i64 i)] (TNa0 z0 g0 n0 ga kx y l1) [some false])
theorem Hna0_ok {z0 : List Int} {g0 n0 ga : Nat} {kx : List Int} {y : List Int} {l1 l2 : Nat} {i : Int} (h : allP [.eqN g0 g0, .p (decide (i < (↑n0 : Int)) = false)]) : Ok (Hna0 z0 g0 n0 ga kx y l1 l2 i) := Ok.dem (fl := [true, true, false, false]) (by kernel_rfl) (by kernel_rfl) (by kernel_rfl) h
theorem Hna0_ex {z0 : List Int} {g0 n0 ga : Nat} {kx : List Int} {y : List Int} {l1 l2 : Nat} {i : Int} : (Hna0 z0 g0 n0 ga kx y l1 l2 i).ex = .exit 0 := by kernel_rfl
theorem Hna0_fm {z0 : List Int} {g0 n0 ga : Nat} {kx : List Int} {y : List Int} {l1 l2 : Nat} {i : Int} : (Hna0 z0 g0 n0 ga kx y l1 l2 i).fm = [] := by kernel_rfl
theorem Hna0_tab {z0 : List Int} {g0 n0 ga : Nat} {kx : List Int} {y : List Int} {l1 l2 : Nat} {i : Int} : (Hna0 z0 g0 n0 ga kx y l1 l2 i).tab = TNa0 z0 g0 n0 ga kx y l1 := by kernel_rfl
noncomputable def Msa0 (z0 : List Int) (g0 n0 ga : Nat) (kx : List Int) (y : List Int) (l1 l2 : Nat) (i : Int) : Out := trim 9 9 [0,1,2,4,5] (run eGh 31 ⟨9, []⟩ 400 m81 [(0, .func (.yield l2) [] []), (1, .var 7 0), (2, .var 8 0), (4, .int .i64 i)] (TNa0 z0 g0 n0 ga kx y l1) [])
theorem Msa0_ok {z0 : List Int} {g0 n0 ga : Nat} {kx : List Int} {y : List Int} {l1 l2 : Nat} {i : Int} (h : allP [.leI 0 i, .eqN g0 g0, .leN i.toNat n0, .eqN g0 g0]) : Ok (Msa0 z0 g0 n0 ga kx y l1 l2 i) := Ok.dem (fl := [false, true, true, true, true, false, false, false, false]) (by kernel_rfl) (by kernel_rfl) (by kernel_rfl) h
theorem Msa0_ex {z0 : List Int} {g0 n0 ga : Nat} {kx : List Int} {y : List Int} {l1 l2 : Nat} {i : Int} : (Msa0 z0 g0 n0 ga kx y l1 l2 i).ex = .normal := by kernel_rfl
theorem Msa0_fm {z0 : List Int} {g0 n0 ga : Nat} {kx : List Int} {y : List Int} {l1 l2 : Nat} {i : Int} : (Msa0 z0 g0 n0 ga kx y l1 l2 i).fm = [(0, .func (Fn.yield l2) [] []), (1, .var 7 0), (2, .var 8 0), (4, .int .i64 i), (5, .int .i64 (if (↑(subO n0 i.toNat) : Int) < 16 then (↑(subO n0 i.toNat) : Int) else 16))] := by kernel_rfl
theorem Msa0_tab {z0 : List Int} {g0 n0 ga : Nat} {kx : List Int} {y : List Int} {l1 l2 : Nat} {i : Int} : (Msa0 z0 g0 n0 ga kx y l1 l2 i).tab = TNa0 z0 g0 n0 ga kx y l1 := by kernel_rfl
noncomputable def Yaa0 (z0 : List Int) (g0 n0 ga : Nat) (kx : List Int) (y : List Int) (l1 l2 : Nat) (i r : Int) : Out := runOps eGh ops81.toList 31 (ops81.toList.take 10) ([(0, .func (.yield l2) [] []), (1, .var 7 0), (2, .var 8 0), (4, .int .i64 i)] ++ [(5, .int .i64 r)]) (((TNa0 z0 g0 n0 ga kx y l1) : Tab) ++ holes (cntA eGh (ops81.toList.take 10))) ((TNa0 z0 g0 n0 ga kx y l1) : Tab).length []
theorem Yaa0_ok {z0 : List Int} {g0 n0 ga : Nat} {kx : List Int} {y : List Int} {l1 l2 : Nat} {i r : Int} (h : allP [.rng (-9223372036854775808) (i + r) 9223372036854775807, .rng (-9223372036854775808) (i + r) 9223372036854775807, .leI 0 i, .leI 0 (i + r), .leI 0 (i + r), .eqN g0 g0, .leN i.toNat (i + r).toNat, .leN (i + r).toNat (i + r).toNat, .orN (i + r).toNat n0 (0 + (i + r).toNat) z0.length])
 : Ok (Yaa0 z0 g0 n0 ga kx y l1 l2 i r) := Ok.dem (fl := [true, true, false, false, false, false, false, false, false, false, false]) (by kernel_rfl) (by kernel_rfl) (by kernel_rfl) h
theorem Yaa0_fm {z0 : List Int} {g0 n0 ga : Nat} {kx : List Int} {y : List Int} {l1 l2 : Nat} {i r : Int} : (Yaa0 z0 g0 n0 ga kx y l1 l2 i r).fm = [(28, .slice 1 1 g0 i.toNat (subO (i + r).toNat i.toNat) (some (subO (i + r).toNat i.toNat))), (27, .int .i64 (i + r)), (26, .int .i64 r), (25, .int .i64 i), (24, .int .i64 (i + r)), (23, .int .i64 r), (22, .int .i64 i), (21, .int .i64 i), (20, .slice 1
 1 g0 0 n0 none), (19, .func (Fn.yield l2) [] []), (0, .func (Fn.yield l2) [] []), (1, .var 7 0), (2, .var 8 0), (4, .int .i64 i), (5, .int .i64 r)] := by kernel_rfl
theorem Yaa0_tab {z0 : List Int} {g0 n0 ga : Nat} {kx : List Int} {y : List Int} {l1 l2 : Nat} {i r : Int} : (Yaa0 z0 g0 n0 ga kx y l1 l2 i r).tab = TNa0 z0 g0 n0 ga kx y l1 := by kernel_rfl
noncomputable def Asa0 (z0 : List Int) (g0 n0 ga : Nat) (kx : List Int) (y : List Int) (l1 l2 : Nat) (o r : Nat) : Out := trim 9 9 [2,5] (run eGh 30 ⟨9, []⟩ 400 as79 ((14, .slice 1 1 g0 o r (some r)) :: [(1, .var 5 0), (2, .var 6 0), (6, .slice 1 0 ga 0 1 (some 1)), (7, .int .i64 1), (8, .int .i64 0), (13, .func (.func 81) [] [.var 7 0, .var 8 0])]) (TNa0 z0 g0 n0 ga kx y l1) [])
theorem Asa0_ok {z0 : List Int} {g0 n0 ga : Nat} {kx : List Int} {y : List Int} {l1 l2 : Nat} {o r : Nat} (h : allP []) : Ok (Asa0 z0 g0 n0 ga kx y l1 l2 o r) := Ok.dem (fl := []) (by kernel_rfl) (by kernel_rfl) (by kernel_rfl) h
theorem Asa0_ex {z0 : List Int} {g0 n0 ga : Nat} {kx : List Int} {y : List Int} {l1 l2 : Nat} {o r : Nat} : (Asa0 z0 g0 n0 ga kx y l1 l2 o r).ex = .normal := by kernel_rfl
theorem Asa0_fm {z0 : List Int} {g0 n0 ga : Nat} {kx : List Int} {y : List Int} {l1 l2 : Nat} {o r : Nat} : (Asa0 z0 g0 n0 ga kx y l1 l2 o r).fm = [(2, .var 6 0), (5, .slice 1 1 g0 o r (some r))] := by kernel_rfl
theorem Asa0_tab {z0 : List Int} {g0 n0 ga : Nat} {kx : List Int} {y : List Int} {l1 l2 : Nat} {o r : Nat} : (Asa0 z0 g0 n0 ga kx y l1 l2 o r).tab = TNa0 z0 g0 n0 ga kx y l1 := by kernel_rfl
noncomputable def Dfa0 (z0 : List Int) (g0 n0 ga : Nat) (kx : List Int) (y : List Int) (l1 l2 : Nat) (o : Nat) : Out := drawRun eGh (ops79.toList.take 12) 30 [(2, .var 6 0), (5, .slice 1 1 g0 o 16 (some 16))] (TNa0 z0 g0 n0 ga kx y l1) [some true]
theorem Dfa0_ok {z0 : List Int} {g0 n0 ga : Nat} {kx : List Int} {y : List Int} {l1 l2 : Nat} {o : Nat} (h : allP [.eqN g0 g0, .eqN g0 g0, .eqN g0 g0, .eqN g0 g0, .eqN g0 g0, .eqN g0 g0, .leN (addO o 0 + 16) z0.length, .p (Bytes z0)]) : Ok (Dfa0 z0 g0 n0 ga kx y l1 l2 o) := Ok.dem (fl := bitsF 29 135649502) (by kernel_rfl) (by kernel_rfl) (by kernel_rfl) h
theorem Dfa0_fm {z0 : List Int} {g0 n0 ga : Nat} {kx : List Int} {y : List Int} {l1 l2 : Nat} {o : Nat} : (Dfa0 z0 g0 n0 ga kx y l1 l2 o).fm = [(15, .func (Fn.yield l1) [] []), (16, .slice 1 1 g0 o 16 (some 16)), (17, .slice 1 1 g0 o 16 (some 16)), (18, .int .i64 16), (19, .slice 1 1 g0 o 16 (some 16)), (20, .int .i64 16), (21, .slice 1 1 g0 (addO o 0) 16 (some 16)), (22, .slice 1 1 g0 o 16 (some
 16)), (23, .int .i64 16), (24, .int .i64 0), (25, .slice 1 1 g0 (addO o 0) 16 (some 16)), (26, .ints .u64 (gwLaw (subLaw z0 (addO o 0) 16))), (2, .var 6 0), (5, .slice 1 1 g0 o 16 (some 16))] := by kernel_rfl
theorem Dfa0_tab {z0 : List Int} {g0 n0 ga : Nat} {kx : List Int} {y : List Int} {l1 l2 : Nat} {o : Nat} : (Dfa0 z0 g0 n0 ga kx y l1 l2 o).tab = TNa0 z0 g0 n0 ga kx y l1 := by kernel_rfl
noncomputable def Dpa0 (z0 : List Int) (g0 n0 ga : Nat) (kx : List Int) (y : List Int) (l1 l2 : Nat) (o r : Nat) : Out := drawRun eGh (ops79.toList.take 12) 30 [(2, .var 6 0), (5, .slice 1 1 g0 o r (some r))] (TNa0 z0 g0 n0 ga kx y l1) [some false]
theorem Dpa0_ok {z0 : List Int} {g0 n0 ga : Nat} {kx : List Int} {y : List Int} {l1 l2 : Nat} {o r : Nat} (h : allP [.eqN g0 g0, .eqN g0 g0, .leI 0 (↑r : Int), .leI 0 (↑r : Int), .eqN g0 g0, .leN 0 r, .leN r r, .leN r r, .eqN g0 g0, .rng (-9223372036854775808) (16 - (↑r : Int)) 9223372036854775807, .eqN g0 g0, .leN (addO o 0 + r) z0.length, .p (r < addO r (16 - (↑r : Int)).toNat ∨ r = 0 ∧ r = 0),
 .leN (addO r (16 - (↑r : Int)).toNat) 140737488355328, .leI 0 (16 - (↑r : Int)), .leI (16 - (↑r : Int)) 9223372036854775807, .leN (16 - (↑r : Int)).toNat 281474976710656, .leN 16 (List.take r (dropO (addO o 0) z0) ++ List.replicate (16 - (↑r : Int)).toNat 0).length, .p (Bytes (List.take r (dropO (addO o 0) z0) ++ List.replicate (16 - (↑r : Int)).toNat 0)), .eqN (addO r (16 - (↑r : Int)).toNat) 16])
 : Ok (Dpa0 z0 g0 n0 ga kx y l1 l2 o r) := Ok.dem (fl := bitsF 35 335544542) (by kernel_rfl) (by kernel_rfl) (by kernel_rfl) h
theorem Dpa0_fm {z0 : List Int} {g0 n0 ga : Nat} {kx : List Int} {y : List Int} {l1 l2 : Nat} {o r : Nat} : (Dpa0 z0 g0 n0 ga kx y l1 l2 o r).fm = [(15, .func (Fn.yield l1) [] []), (16, .slice 1 1 g0 o r (some r)), (17, .slice 1 1 g0 o r (some r)), (18, .int .i64 (↑r : Int)), (19, .slice 1 1 g0 o r (some r)), (20, .int .i64 (↑r : Int)), (21, .slice 1 1 g0 (addO o 0) r (some r)), (22, .slice 1 1 g0
 o r (some r)), (23, .int .i64 (↑r : Int)), (24, .int .i64 (16 - (↑r : Int))), (25, .slice 1 9 0 0 (addO r (16 - (↑r : Int)).toNat) none), (26, .ints .u64 (gwLaw (subLaw (List.take r (dropO (addO o 0) z0) ++ List.replicate (16 - (↑r : Int)).toNat 0) 0 16))), (2, .var 6 0), (5, .slice 1 1 g0 o r (some r))] := by kernel_rfl
theorem Dpa0_tab {z0 : List Int} {g0 n0 ga : Nat} {kx : List Int} {y : List Int} {l1 l2 : Nat} {o r : Nat} : (Dpa0 z0 g0 n0 ga kx y l1 l2 o r).tab = TQa0 z0 g0 n0 ga kx y l1 ((List.take r (dropO (addO o 0) z0) ++ List.replicate (16 - (↑r : Int)).toNat 0)) := by kernel_rfl
noncomputable def Rba0 (z0 : List Int) (g0 n0 ga : Nat) (kx : List Int) (y : List Int) (l1 l2 : Nat) (i : Int) : Out := trim 9 9 [0,1,2,4] (run eGh 31 ⟨9, []⟩ 400 r81 [(0, .func (.yield l2) [] []), (1, .var 7 0), (2, .var 8 0), (4, .int .i64 i)] (TNa0 z0 g0 n0 ga kx y l1) [])
theorem Rba0_ok {z0 : List Int} {g0 n0 ga : Nat} {kx : List Int} {y : List Int} {l1 l2 : Nat} {i : Int} (h : allP [.rng (-9223372036854775808) (i + 16) 9223372036854775807]) : Ok (Rba0 z0 g0 n0 ga kx y l1 l2 i) := Ok.dem (fl := [true, true, false]) (by kernel_rfl) (by kernel_rfl) (by kernel_rfl) h
theorem Rba0_ex {z0 : List Int} {g0 n0 ga : Nat} {kx : List Int} {y : List Int} {l1 l2 : Nat} {i : Int} : (Rba0 z0 g0 n0 ga kx y l1 l2 i).ex = .normal := by kernel_rfl
theorem Rba0_fm {z0 : List Int} {g0 n0 ga : Nat} {kx : List Int} {y : List Int} {l1 l2 : Nat} {i : Int} : (Rba0 z0 g0 n0 ga kx y l1 l2 i).fm = [(0, .func (Fn.yield l2) [] []), (1, .var 7 0), (2, .var 8 0), (4, .int .i64 (i + 16))] := by kernel_rfl
theorem Rba0_tab {z0 : List Int} {g0 n0 ga : Nat} {kx : List Int} {y : List Int} {l1 l2 : Nat} {i : Int} : (Rba0 z0 g0 n0 ga kx y l1 l2 i).tab = TNa0 z0 g0 n0 ga kx y l1 := by kernel_rfl
noncomputable def Rra0 (z0 : List Int) (g0 n0 ga : Nat) (kx : List Int) (y : List Int) (l1 : Nat) : Out := trim 7 7 [1,2,6,7,8] (run eGh 30 ⟨7, []⟩ 400 r79 [(1, .var 5 0), (2, .var 6 0), (6, .slice 1 0 ga 0 1 (some 1)), (7, .int .i64 1), (8, .int .i64 0), (13, .func (.func 81) [] [.var 7 0, .var 8 0])] (TNa0 z0 g0 n0 ga kx y l1) [])
theorem Rra0_ok {z0 : List Int} {g0 n0 ga : Nat} {kx : List Int} {y : List Int} {l1 : Nat} (h : allP []) : Ok (Rra0 z0 g0 n0 ga kx y l1) := Ok.dem (fl := [true]) (by kernel_rfl) (by kernel_rfl) (by kernel_rfl) h
theorem Rra0_ex {z0 : List Int} {g0 n0 ga : Nat} {kx : List Int} {y : List Int} {l1 : Nat} : (Rra0 z0 g0 n0 ga kx y l1).ex = .normal := by kernel_rfl
theorem Rra0_fm {z0 : List Int} {g0 n0 ga : Nat} {kx : List Int} {y : List Int} {l1 : Nat} : (Rra0 z0 g0 n0 ga kx y l1).fm = [(1, .var 5 0), (2, .var 6 0), (6, .slice 1 0 ga 0 1 (some 1)), (7, .int .i64 1), (8, .int .i64 1)] := by kernel_rfl
theorem Rra0_tab {z0 : List Int} {g0 n0 ga : Nat} {kx : List Int} {y : List Int} {l1 : Nat} : (Rra0 z0 g0 n0 ga kx y l1).tab = TPa z0 g0 n0 ga kx y l1 := by kernel_rfl
noncomputable def A6fa0 (z0 : List Int) (g0 n0 ga : Nat) (kx : List Int) (y : List Int) (l1 : Nat) (b : List Int) : Out := trim 9 10 [2,5,6] (run eGh 16 ⟨9, []⟩ 400 as63 ((9, .ints .u64 b) :: [(2, .var 2 0), (4, .var 3 0), (5, .var 4 0), (8, .func (.func 79) [] [.var 5 0])]) (TNa0 z0 g0 n0 ga kx y l1) [])
theorem A6fa0_ok {z0 : List Int} {g0 n0 ga : Nat} {kx : List Int} {y : List Int} {l1 : Nat} {b : List Int} (h : allP [.eqN b.length 2]) : Ok (A6fa0 z0 g0 n0 ga kx y l1 b) := Ok.dem (fl := [true, false, true, true]) (by kernel_rfl) (by kernel_rfl) (by kernel_rfl) h
theorem A6fa0_ex {z0 : List Int} {g0 n0 ga : Nat} {kx : List Int} {y : List Int} {l1 : Nat} {b : List Int} : (A6fa0 z0 g0 n0 ga kx y l1 b).ex = .normal := by kernel_rfl
theorem A6fa0_fm {z0 : List Int} {g0 n0 ga : Nat} {kx : List Int} {y : List Int} {l1 : Nat} {b : List Int} : (A6fa0 z0 g0 n0 ga kx y l1 b).fm = [(2, .var 2 0), (5, .var 4 0), (6, .var 9 0)] := by kernel_rfl
theorem A6fa0_tab {z0 : List Int} {g0 n0 ga : Nat} {kx : List Int} {y : List Int} {l1 : Nat} {b : List Int} : (A6fa0 z0 g0 n0 ga kx y l1 b).tab = TUa0 z0 g0 n0 ga kx y l1 b := by kernel_rfl
noncomputable def B6fa0 (z0 : List Int) (g0 n0 ga : Nat) (kx : List Int) (y : List Int) (l1 : Nat) (b : List Int) : Out := trim 9 9 [] (run eGh 16 ⟨9, []⟩ 400 bd63 [(2, .var 2 0), (5, .var 4 0), (6, .var 9 0)] (TUa0 z0 g0 n0 ga kx y l1 b) [])
theorem B6fa0_ok {z0 : List Int} {g0 n0 ga : Nat} {kx : List Int} {y : List Int} {l1 : Nat} {b : List Int} (h : allP [.eqN y.length 2, .eqN b.length 2, .p (WpLaw y), .p (WpLaw b), .eqN kx.length 2, .eqN kx.length 2, .p (WpLaw (xwLaw y b)), .p (WpLaw kx), .eqN y.length 2]) : Ok (B6fa0 z0 g0 n0 ga kx y l1 b) := Ok.dem (fl := bitsF 25 11539466) (by kernel_rfl) (by kernel_rfl) (by kernel_rfl) h
theorem B6fa0_ex {z0 : List Int} {g0 n0 ga : Nat} {kx : List Int} {y : List Int} {l1 : Nat} {b : List Int} : (B6fa0 z0 g0 n0 ga kx y l1 b).ex = .normal := by kernel_rfl
theorem B6fa0_fm {z0 : List Int} {g0 n0 ga : Nat} {kx : List Int} {y : List Int} {l1 : Nat} {b : List Int} : (B6fa0 z0 g0 n0 ga kx y l1 b).fm = [] := by kernel_rfl
theorem B6fa0_tab {z0 : List Int} {g0 n0 ga : Nat} {kx : List Int} {y : List Int} {l1 : Nat} {b : List Int} : (B6fa0 z0 g0 n0 ga kx y l1 b).tab = TNa0 z0 g0 n0 ga kx ((mwLaw (xwLaw y b) kx)) l1 := by kernel_rfl
noncomputable def A6pa0 (z0 : List Int) (g0 n0 ga : Nat) (kx : List Int) (y : List Int) (l1 : Nat) (x : List Int) (b : List Int) : Out := trim 10 11 [2,5,6] (run eGh 16 ⟨10, []⟩ 400 as63 ((9, .ints .u64 b) :: [(2, .var 2 0), (4, .var 3 0), (5, .var 4 0), (8, .func (.func 79) [] [.var 5 0])]) (TQa0 z0 g0 n0 ga kx y l1 x) [])
theorem A6pa0_ok {z0 : List Int} {g0 n0 ga : Nat} {kx : List Int} {y : List Int} {l1 : Nat} {x : List Int} {b : List Int} (h : allP [.eqN b.length 2]) : Ok (A6pa0 z0 g0 n0 ga kx y l1 x b) := Ok.dem (fl := [true, false, true, true]) (by kernel_rfl) (by kernel_rfl) (by kernel_rfl) h
theorem A6pa0_ex {z0 : List Int} {g0 n0 ga : Nat} {kx : List Int} {y : List Int} {l1 : Nat} {x : List Int} {b : List Int} : (A6pa0 z0 g0 n0 ga kx y l1 x b).ex = .normal := by kernel_rfl
theorem A6pa0_fm {z0 : List Int} {g0 n0 ga : Nat} {kx : List Int} {y : List Int} {l1 : Nat} {x : List Int} {b : List Int} : (A6pa0 z0 g0 n0 ga kx y l1 x b).fm = [(2, .var 2 0), (5, .var 4 0), (6, .var 10 0)] := by kernel_rfl
theorem A6pa0_tab {z0 : List Int} {g0 n0 ga : Nat} {kx : List Int} {y : List Int} {l1 : Nat} {x : List Int} {b : List Int} : (A6pa0 z0 g0 n0 ga kx y l1 x b).tab = TVa0 z0 g0 n0 ga kx y l1 x b := by kernel_rfl
noncomputable def B6pa0 (z0 : List Int) (g0 n0 ga : Nat) (kx : List Int) (y : List Int) (l1 : Nat) (x : List Int) (b : List Int) : Out := trim 10 10 [] (run eGh 16 ⟨10, []⟩ 400 bd63 [(2, .var 2 0), (5, .var 4 0), (6, .var 10 0)] (TVa0 z0 g0 n0 ga kx y l1 x b) [])
theorem B6pa0_ok {z0 : List Int} {g0 n0 ga : Nat} {kx : List Int} {y : List Int} {l1 : Nat} {x : List Int} {b : List Int} (h : allP [.eqN y.length 2, .eqN b.length 2, .p (WpLaw y), .p (WpLaw b), .eqN kx.length 2, .eqN kx.length 2, .p (WpLaw (xwLaw y b)), .p (WpLaw kx), .eqN y.length 2]) : Ok (B6pa0 z0 g0 n0 ga kx y l1 x b) := Ok.dem (fl := bitsF 25 11539466) (by kernel_rfl) (by kernel_rfl) (by
 kernel_rfl) h
theorem B6pa0_ex {z0 : List Int} {g0 n0 ga : Nat} {kx : List Int} {y : List Int} {l1 : Nat} {x : List Int} {b : List Int} : (B6pa0 z0 g0 n0 ga kx y l1 x b).ex = .normal := by kernel_rfl
theorem B6pa0_fm {z0 : List Int} {g0 n0 ga : Nat} {kx : List Int} {y : List Int} {l1 : Nat} {x : List Int} {b : List Int} : (B6pa0 z0 g0 n0 ga kx y l1 x b).fm = [] := by kernel_rfl
theorem B6pa0_tab {z0 : List Int} {g0 n0 ga : Nat} {kx : List Int} {y : List Int} {l1 : Nat} {x : List Int} {b : List Int} : (B6pa0 z0 g0 n0 ga kx y l1 x b).tab = TQa0 z0 g0 n0 ga kx ((mwLaw (xwLaw y b) kx)) l1 x := by kernel_rfl
noncomputable def Saa (z0 : List Int) (g0 n0 ga : Nat) (kx : List Int) (l1 : Nat) : Out := trim 6 7 [1,2] (run eGh 30 ⟨6, []⟩ 400 (fstC (bodyOf f79)) (argF [.func (.yield l1) [] [], .var 5 0] 0) (TBa z0 g0 n0 ga kx [0, 0]) [])
theorem Saa_ok {z0 : List Int} {g0 n0 ga : Nat} {kx : List Int} {l1 : Nat} (h : allP []) : Ok (Saa z0 g0 n0 ga kx l1) := Ok.dem (fl := []) (by kernel_rfl) (by kernel_rfl) (by kernel_rfl) h
theorem Saa_ex {z0 : List Int} {g0 n0 ga : Nat} {kx : List Int} {l1 : Nat} : (Saa z0 g0 n0 ga kx l1).ex = .normal := by kernel_rfl
theorem Saa_fm {z0 : List Int} {g0 n0 ga : Nat} {kx : List Int} {l1 : Nat} : (Saa z0 g0 n0 ga kx l1).fm = [(1, .var 5 0), (2, .var 6 0)] := by kernel_rfl
theorem Saa_tab {z0 : List Int} {g0 n0 ga : Nat} {kx : List Int} {l1 : Nat} : (Saa z0 g0 n0 ga kx l1).tab = TPa z0 g0 n0 ga kx ([0, 0]) l1 := by kernel_rfl
noncomputable def Sba (z0 : List Int) (g0 n0 ga : Nat) (kx : List Int) (l1 : Nat) : Out := trim 7 7 [1,2,6,7,8] (run eGh 30 ⟨7, []⟩ 400 (fstC (sndC (bodyOf f79))) [(1, .var 5 0), (2, .var 6 0)] (TPa z0 g0 n0 ga kx [0, 0] l1) [])
theorem Sba_ok {z0 : List Int} {g0 n0 ga : Nat} {kx : List Int} {l1 : Nat} (h : allP [.eqN ga ga]) : Ok (Sba z0 g0 n0 ga kx l1) := Ok.dem (fl := [true, true, false]) (by kernel_rfl) (by kernel_rfl) (by kernel_rfl) h
theorem Sba_ex {z0 : List Int} {g0 n0 ga : Nat} {kx : List Int} {l1 : Nat} : (Sba z0 g0 n0 ga kx l1).ex = .normal := by kernel_rfl
theorem Sba_fm {z0 : List Int} {g0 n0 ga : Nat} {kx : List Int} {l1 : Nat} : (Sba z0 g0 n0 ga kx l1).fm = [(1, .var 5 0), (2, .var 6 0), (6, .slice 1 0 ga 0 1 (some 1)), (7, .int .i64 1), (8, .int .i64 0)] := by kernel_rfl
theorem Sba_tab {z0 : List Int} {g0 n0 ga : Nat} {kx : List Int} {l1 : Nat} : (Sba z0 g0 n0 ga kx l1).tab = TPa z0 g0 n0 ga kx ([0, 0]) l1 := by kernel_rfl
noncomputable def Zsa0 (z0 : List Int) (g0 n0 ga : Nat) (kx : List Int) (y : List Int) (l1 l2 : Nat) : Out := trim 9 9 [0,1,2,4] (run eGh 31 ⟨9, []⟩ 400 (fstC (bodyOf f81)) (argF [.func (.yield l2) [] [], .var 7 0, .var 8 0] 0) (TNa0 z0 g0 n0 ga kx y l1) [])
theorem Zsa0_ok {z0 : List Int} {g0 n0 ga : Nat} {kx : List Int} {y : List Int} {l1 l2 : Nat} (h : allP []) : Ok (Zsa0 z0 g0 n0 ga kx y l1 l2) := Ok.dem (fl := []) (by kernel_rfl) (by kernel_rfl) (by kernel_rfl) h
theorem Zsa0_ex {z0 : List Int} {g0 n0 ga : Nat} {kx : List Int} {y : List Int} {l1 l2 : Nat} : (Zsa0 z0 g0 n0 ga kx y l1 l2).ex = .normal := by kernel_rfl
theorem Zsa0_fm {z0 : List Int} {g0 n0 ga : Nat} {kx : List Int} {y : List Int} {l1 l2 : Nat} : (Zsa0 z0 g0 n0 ga kx y l1 l2).fm = [(0, .func (Fn.yield l2) [] []), (1, .var 7 0), (2, .var 8 0), (4, .int .i64 0)] := by kernel_rfl
theorem Zsa0_tab {z0 : List Int} {g0 n0 ga : Nat} {kx : List Int} {y : List Int} {l1 l2 : Nat} : (Zsa0 z0 g0 n0 ga kx y l1 l2).tab = TNa0 z0 g0 n0 ga kx y l1 := by kernel_rfl
noncomputable def Hda0 (z0 : List Int) (g0 n0 ga : Nat) (kx : List Int) (y : List Int) (l1 : Nat) : Out := trim 7 7 [1,2,6,7,8,9] (run eGh 30 ⟨7, []⟩ 400 hd79 [(1, .var 5 0), (2, .var 6 0), (6, .slice 1 0 ga 0 1 (some 1)), (7, .int .i64 1), (8, .int .i64 0)] (TPa z0 g0 n0 ga kx y l1) [none])
theorem Hda0_ok {z0 : List Int} {g0 n0 ga : Nat} {kx : List Int} {y : List Int} {l1 : Nat} (h : allP []) : Ok (Hda0 z0 g0 n0 ga kx y l1) := Ok.dem (fl := []) (by kernel_rfl) (by kernel_rfl) (by kernel_rfl) h
theorem Hda0_ex {z0 : List Int} {g0 n0 ga : Nat} {kx : List Int} {y : List Int} {l1 : Nat} : (Hda0 z0 g0 n0 ga kx y l1).ex = .normal := by kernel_rfl
theorem Hda0_fm {z0 : List Int} {g0 n0 ga : Nat} {kx : List Int} {y : List Int} {l1 : Nat} : (Hda0 z0 g0 n0 ga kx y l1).fm = [(1, .var 5 0), (2, .var 6 0), (6, .slice 1 0 ga 0 1 (some 1)), (7, .int .i64 1), (8, .int .i64 0), (9, .bool true)] := by kernel_rfl
theorem Hda0_tab {z0 : List Int} {g0 n0 ga : Nat} {kx : List Int} {y : List Int} {l1 : Nat} : (Hda0 z0 g0 n0 ga kx y l1).tab = TPa z0 g0 n0 ga kx y l1 := by kernel_rfl
noncomputable def Paa0 (z0 : List Int) (g0 n0 ga : Nat) (kx : List Int) (y : List Int) (l1 : Nat) : Out := trim 7 7 [1,2,4,6,7,8] (run eGh 30 ⟨7, []⟩ 400 (fstC x79) [(1, .var 5 0), (2, .var 6 0), (6, .slice 1 0 ga 0 1 (some 1)), (7, .int .i64 1), (8, .int .i64 0)] (TPa z0 g0 n0 ga kx y l1) [])
theorem Paa0_ok {z0 : List Int} {g0 n0 ga : Nat} {kx : List Int} {y : List Int} {l1 : Nat} (h : allP [.eqN ga ga, .eqN ga ga]) : Ok (Paa0 z0 g0 n0 ga kx y l1) := Ok.dem (fl := [false, true, true, false, true]) (by kernel_rfl) (by kernel_rfl) (by kernel_rfl) h
theorem Paa0_ex {z0 : List Int} {g0 n0 ga : Nat} {kx : List Int} {y : List Int} {l1 : Nat} : (Paa0 z0 g0 n0 ga kx y l1).ex = .normal := by kernel_rfl
theorem Paa0_fm {z0 : List Int} {g0 n0 ga : Nat} {kx : List Int} {y : List Int} {l1 : Nat} : (Paa0 z0 g0 n0 ga kx y l1).fm = [(1, .var 5 0), (2, .var 6 0), (4, .slice 1 1 g0 0 n0 none), (6, .slice 1 0 ga 0 1 (some 1)), (7, .int .i64 1), (8, .int .i64 0)] := by kernel_rfl
theorem Paa0_tab {z0 : List Int} {g0 n0 ga : Nat} {kx : List Int} {y : List Int} {l1 : Nat} : (Paa0 z0 g0 n0 ga kx y l1).tab = TPa z0 g0 n0 ga kx y l1 := by kernel_rfl
noncomputable def Pba0 (z0 : List Int) (g0 n0 ga : Nat) (kx : List Int) (y : List Int) (l1 : Nat) : Out := trim 7 9 [1,2,6,7,8,13] (run eGh 30 ⟨7, []⟩ 400 (fstC (sndC x79)) ((4, .slice 1 1 g0 0 n0 none) :: [(1, .var 5 0), (2, .var 6 0), (6, .slice 1 0 ga 0 1 (some 1)), (7, .int .i64 1), (8, .int .i64 0)]) (TPa z0 g0 n0 ga kx y l1) [])
theorem Pba0_ok {z0 : List Int} {g0 n0 ga : Nat} {kx : List Int} {y : List Int} {l1 : Nat} (h : allP [.eqN g0 g0]) : Ok (Pba0 z0 g0 n0 ga kx y l1) := Ok.dem (fl := [false, true, true]) (by kernel_rfl) (by kernel_rfl) (by kernel_rfl) h
theorem Pba0_ex {z0 : List Int} {g0 n0 ga : Nat} {kx : List Int} {y : List Int} {l1 : Nat} : (Pba0 z0 g0 n0 ga kx y l1).ex = .normal := by kernel_rfl
theorem Pba0_fm {z0 : List Int} {g0 n0 ga : Nat} {kx : List Int} {y : List Int} {l1 : Nat} : (Pba0 z0 g0 n0 ga kx y l1).fm = [(1, .var 5 0), (2, .var 6 0), (6, .slice 1 0 ga 0 1 (some 1)), (7, .int .i64 1), (8, .int .i64 0), (13, .func (Fn.func 81) [] [.var 7 0, .var 8 0])] := by kernel_rfl
theorem Pba0_tab {z0 : List Int} {g0 n0 ga : Nat} {kx : List Int} {y : List Int} {l1 : Nat} : (Pba0 z0 g0 n0 ga kx y l1).tab = TNa0 z0 g0 n0 ga kx y l1 := by kernel_rfl
noncomputable def Nqa0 (z0 : List Int) (g0 n0 ga : Nat) (kx : List Int) (y : List Int) (l1 : Nat) (x : List Int) (fm : Fm) : Out := runOps eGh ops79.toList 30 [ops79.toList.getD 13 default] ((27, .bool true) :: fm) (((TQa0 z0 g0 n0 ga kx y l1 x) : Tab) ++ holes (cntA eGh [ops79.toList.getD 13 default])) ((TQa0 z0 g0 n0 ga kx y l1 x) : Tab).length []
theorem Nqa0_ok {z0 : List Int} {g0 n0 ga : Nat} {kx : List Int} {y : List Int} {l1 : Nat} {x : List Int} {fm : Fm} (h : allP []) : Ok (Nqa0 z0 g0 n0 ga kx y l1 x fm) := Ok.dem (fl := []) (by kernel_rfl) (by kernel_rfl) (by kernel_rfl) h
theorem Nqa0_fm {z0 : List Int} {g0 n0 ga : Nat} {kx : List Int} {y : List Int} {l1 : Nat} {x : List Int} {fm : Fm} : (Nqa0 z0 g0 n0 ga kx y l1 x fm).fm = (28, .bool false) :: (27, .bool true) :: fm := by kernel_rfl
theorem Nqa0_tab {z0 : List Int} {g0 n0 ga : Nat} {kx : List Int} {y : List Int} {l1 : Nat} {x : List Int} {fm : Fm} : (Nqa0 z0 g0 n0 ga kx y l1 x fm).tab = TQa0 z0 g0 n0 ga kx y l1 x := by kernel_rfl
noncomputable def Cpa0 (z0 : List Int) (g0 n0 ga : Nat) (kx : List Int) (y : List Int) (l1 : Nat) (x : List Int) : Out := trim 9 9 [] (run eGh 30 ⟨9, []⟩ 400 cnd79 [(28, .bool false)] (TQa0 z0 g0 n0 ga kx y l1 x) [])
theorem Cpa0_ok {z0 : List Int} {g0 n0 ga : Nat} {kx : List Int} {y : List Int} {l1 : Nat} {x : List Int} (h : allP []) : Ok (Cpa0 z0 g0 n0 ga kx y l1 x) := Ok.dem (fl := []) (by kernel_rfl) (by kernel_rfl) (by kernel_rfl) h
theorem Cpa0_ex {z0 : List Int} {g0 n0 ga : Nat} {kx : List Int} {y : List Int} {l1 : Nat} {x : List Int} : (Cpa0 z0 g0 n0 ga kx y l1 x).ex = .normal := by kernel_rfl
theorem Cpa0_fm {z0 : List Int} {g0 n0 ga : Nat} {kx : List Int} {y : List Int} {l1 : Nat} {x : List Int} : (Cpa0 z0 g0 n0 ga kx y l1 x).fm = [] := by kernel_rfl
theorem Cpa0_tab {z0 : List Int} {g0 n0 ga : Nat} {kx : List Int} {y : List Int} {l1 : Nat} {x : List Int} : (Cpa0 z0 g0 n0 ga kx y l1 x).tab = TNa0 z0 g0 n0 ga kx y l1 := by kernel_rfl
noncomputable def Nta0 (z0 : List Int) (g0 n0 ga : Nat) (kx : List Int) (y : List Int) (l1 : Nat) (fm : Fm) : Out := runOps eGh ops79.toList 30 [ops79.toList.getD 13 default] ((27, .bool true) :: fm) (((TNa0 z0 g0 n0 ga kx y l1) : Tab) ++ holes (cntA eGh [ops79.toList.getD 13 default])) ((TNa0 z0 g0 n0 ga kx y l1) : Tab).length []
theorem Nta0_ok {z0 : List Int} {g0 n0 ga : Nat} {kx : List Int} {y : List Int} {l1 : Nat} {fm : Fm} (h : allP []) : Ok (Nta0 z0 g0 n0 ga kx y l1 fm) := Ok.dem (fl := []) (by kernel_rfl) (by kernel_rfl) (by kernel_rfl) h
theorem Nta0_fm {z0 : List Int} {g0 n0 ga : Nat} {kx : List Int} {y : List Int} {l1 : Nat} {fm : Fm} : (Nta0 z0 g0 n0 ga kx y l1 fm).fm = (28, .bool false) :: (27, .bool true) :: fm := by kernel_rfl
theorem Nta0_tab {z0 : List Int} {g0 n0 ga : Nat} {kx : List Int} {y : List Int} {l1 : Nat} {fm : Fm} : (Nta0 z0 g0 n0 ga kx y l1 fm).tab = TNa0 z0 g0 n0 ga kx y l1 := by kernel_rfl
noncomputable def Nua0 (z0 : List Int) (g0 n0 ga : Nat) (kx : List Int) (y : List Int) (l1 : Nat) (fm : Fm) : Out := runOps eGh ops81.toList 31 (ops81.toList.drop 11) ((29, .bool true) :: fm) (((TNa0 z0 g0 n0 ga kx y l1) : Tab) ++ holes (cntA eGh (ops81.toList.drop 11))) ((TNa0 z0 g0 n0 ga kx y l1) : Tab).length []
theorem Nua0_ok {z0 : List Int} {g0 n0 ga : Nat} {kx : List Int} {y : List Int} {l1 : Nat} {fm : Fm} (h : allP []) : Ok (Nua0 z0 g0 n0 ga kx y l1 fm) := Ok.dem (fl := []) (by kernel_rfl) (by kernel_rfl) (by kernel_rfl) h
theorem Nua0_fm {z0 : List Int} {g0 n0 ga : Nat} {kx : List Int} {y : List Int} {l1 : Nat} {fm : Fm} : (Nua0 z0 g0 n0 ga kx y l1 fm).fm = (30, .bool false) :: (29, .bool true) :: fm := by kernel_rfl
theorem Nua0_tab {z0 : List Int} {g0 n0 ga : Nat} {kx : List Int} {y : List Int} {l1 : Nat} {fm : Fm} : (Nua0 z0 g0 n0 ga kx y l1 fm).tab = TNa0 z0 g0 n0 ga kx y l1 := by kernel_rfl
noncomputable def Hda1 (z0 : List Int) (g0 n0 ga : Nat) (kx : List Int) (y : List Int) (l1 : Nat) : Out := trim 6 6 [9] (run eGh 30 ⟨6, []⟩ 400 hd79 [(1, .var 5 0), (2, .var 6 0), (6, .slice 1 0 ga 0 1 (some 1)), (7, .int .i64 1), (8, .int .i64 1)] (TPa z0 g0 n0 ga kx y l1) [none])
theorem Hda1_ok {z0 : List Int} {g0 n0 ga : Nat} {kx : List Int} {y : List Int} {l1 : Nat} (h : allP []) : Ok (Hda1 z0 g0 n0 ga kx y l1) := Ok.dem (fl := []) (by kernel_rfl) (by kernel_rfl) (by kernel_rfl) h
theorem Hda1_ex {z0 : List Int} {g0 n0 ga : Nat} {kx : List Int} {y : List Int} {l1 : Nat} : (Hda1 z0 g0 n0 ga kx y l1).ex = .normal := by kernel_rfl
theorem Hda1_fm {z0 : List Int} {g0 n0 ga : Nat} {kx : List Int} {y : List Int} {l1 : Nat} : (Hda1 z0 g0 n0 ga kx y l1).fm = [(9, .bool false)] := by kernel_rfl
theorem Hda1_tab {z0 : List Int} {g0 n0 ga : Nat} {kx : List Int} {y : List Int} {l1 : Nat} : (Hda1 z0 g0 n0 ga kx y l1).tab = TBa z0 g0 n0 ga kx y := by kernel_rfl
end Go.Abs
