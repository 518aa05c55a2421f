/- What functions of the given program come to, by the abstract machine: one text of a proof. -/
import Derived.Test.YtlnflmjgnmljeaaBB8
set_option linter.unusedVariables false
set_option linter.unusedSimpArgs false
set_option maxRecDepth 8000
namespace Go.Abs
open Go.Proofs.Try
/-! ### squares -/
def l16 (f : Nat → Int) : List Int := [f 0, f 1, f 2, f 3, f 4, f 5, f 6, f 7, f 8, f 9, f 10, f 11, f 12, f 13, f 14, f 15]
theorem l16_len (f : Nat → Int) : (l16 f).length = 16 := rfl
theorem l16_get (f : Nat → Int) : ∀ i, i < 16 → (l16 f).getD i 0 = f i := by
  intro i hi
  match i, hi with
  | 0, _ => rfl | 1, _ => rfl | 2, _ => rfl | 3, _ => rfl | 4, _ => rfl | 5, _ => rfl | 6, _ => rfl | 7, _ => rfl
  | 8, _ => rfl | 9, _ => rfl | 10, _ => rfl | 11, _ => rfl | 12, _ => rfl | 13, _ => rfl | 14, _ => rfl | 15, _ => rfl
  | n + 16, h => exact absurd h (by omega)
theorem l16_bytes {f : Nat → Int} (h : ∀ i, i < 16 → 0 ≤ f i ∧ f i < 256) : Bytes (l16 f) := fun i hi => by
  rw [l16_get f i hi]; exact h i hi
theorem l16_of {l : List Int} (h : l.length = 16) : l16 (fun i => l.getD i 0) = l := by
  obtain ⟨a0, a1, a2, a3, a4, a5, a6, a7, a8, a9, a10, a11, a12, a13, a14, a15, rfl⟩ := list16 h
  rfl
theorem l16_congr {f g : Nat → Int} (h : ∀ i, i < 16 → f i = g i) : l16 f = l16 g := by
  unfold l16
  rw [h 0 (by decide), h 1 (by decide), h 2 (by decide), h 3 (by decide), h 4 (by decide), h 5 (by decide), h 6 (by decide), h 7 (by decide), h 8 (by decide), h 9 (by decide), h 10 (by decide), h 11 (by decide), h 12 (by decide), h 13 (by decide), h 14 (by decide), h 15 (by decide)]
def backLaw (x : Int) : Int := TABLaw.getD (256 + x.toNat) 0
def plusLaw (s k : List Int) : List Int := l16 fun i => ixor (s.getD i 0) (k.getD i 0)
def boxedLaw (s : List Int) : List Int := l16 fun i => boxLaw (s.getD i 0)
def unboxedLaw (s : List Int) : List Int := l16 fun i => backLaw (s.getD i 0)
def turnedLaw (n : Nat) (s : List Int) : List Int := l16 fun i => s.getD ((4 * n * (i % 4) + i) % 16) 0
def mixByLaw (f : Int → Int → Int) (m s : List Int) : List Int := l16 fun i =>
  ixor (ixor (ixor (ixor 0 (f (m.getD ((0 + 4 - i % 4) % 4) 0) (s.getD (i / 4 * 4) 0))) (f (m.getD ((1 + 4 - i % 4) % 4) 0) (s.getD (i / 4 * 4 + 1) 0))) (f (m.getD ((2 + 4 - i % 4) % 4) 0) (s.getD (i / 4 * 4 + 2) 0))) (f (m.getD ((3 + 4 - i % 4) % 4) 0) (s.getD (i / 4 * 4 + 3) 0))
def mixLaw (s : List Int) : List Int := mixByLaw timesLaw [2, 3, 1, 1] s
def unmixLaw (s : List Int) : List Int := mixByLaw timesLaw [14, 11, 13, 9] s
noncomputable def R43 (a0 a1 a2 a3 a4 a5 a6 a7 a8 a9 a10 a11 a12 a13 a14 a15 b0 b1 b2 b3 b4 b5 b6 b7 b8 b9 b10 b11 b12 b13 b14 b15 : Int) : Res := runF (eA []) f43 [] 400 [.ints .u8 [a0, a1, a2, a3, a4, a5, a6, a7, a8, a9, a10, a11, a12, a13, a14, a15], .ints .u8 [b0, b1, b2, b3, b4, b5, b6, b7, b8, b9, b10, b11, b12, b13, b14, b15]] [] []
theorem R43_ok {a0 a1 a2 a3 a4 a5 a6 a7 a8 a9 a10 a11 a12 a13 a14 a15 b0 b1 b2 b3 b4 b5 b6 b7 b8 b9 b10 b11 b12 b13 b14 b15 : Int} (h : allP [Con.nn IntKind.u8 a0, Con.nn IntKind.u8 b0, Con.nn IntKind.u8 a1, Con.nn IntKind.u8 b1, Con.nn IntKind.u8 a2,
    Con.nn IntKind.u8 b2, Con.nn IntKind.u8 a3, Con.nn IntKind.u8 b3, Con.nn IntKind.u8 a4, Con.nn IntKind.u8 b4,
    Con.nn IntKind.u8 a5, Con.nn IntKind.u8 b5, Con.nn IntKind.u8 a6, Con.nn IntKind.u8 b6, Con.nn IntKind.u8 a7,
    Con.nn IntKind.u8 b7, Con.nn IntKind.u8 a8, Con.nn IntKind.u8 b8, Con.nn IntKind.u8 a9, Con.nn IntKind.u8 b9,
    Con.nn IntKind.u8 a10, Con.nn IntKind.u8 b10, Con.nn IntKind.u8 a11, Con.nn IntKind.u8 b11, Con.nn IntKind.u8 a12,
    Con.nn IntKind.u8 b12, Con.nn IntKind.u8 a13, Con.nn IntKind.u8 b13, Con.nn IntKind.u8 a14, Con.nn IntKind.u8 b14,
    Con.nn IntKind.u8 a15, Con.nn IntKind.u8 b15]) : OkR (R43 a0 a1 a2 a3 a4 a5 a6 a7 a8 a9 a10 a11 a12 a13 a14 a15 b0 b1 b2 b3 b4 b5 b6 b7 b8 b9 b10 b11 b12 b13 b14 b15) := OkR.dem (fl := [false, true, true, true, true, true, true, true, true, true, true, false, false, true, true, true, true, true, true,
    true, false, true, false, true, true, true, true, true, true, true, true, true, true, false, false, true, true,
    true, true, true, true, true, false, true, false, true, true, true, true, true, true, true, true, true, true, false,
    false, true, true, true, true, true, true, true, false, true, false, true, true, true, true, true, true, true, true,
    true, true, false, false, true, true, true, true, true, true, true, false, true, false, true, true, true, true,
    true, true, true, true, true, true, false, false, true, true, true, true, true, true, true, false, true, false,
    true, true, true, true, true, true, true, true, true, true, false, false, true, true, true, true, true, true, true,
    false, true, false, true, true, true, true, true, true, true, true, true, true, false, false, true, true, true,
    true, true, true, true, false, true, false, true, true, true, true, true, true, true, true, true, true, false,
    false, true, true, true, true, true, true, true, false, true, false, true, true, true, true, true, true, true, true,
    true, true, false, false, true, true, true, true, true, true, true, false, true, false, true, true, true, true,
    true, true, true, true, true, true, false, false, true, true, true, true, true, true, true, false, true, false,
    true, true, true, true, true, true, true, true, true, true, false, false, true, true, true, true, true, true, true,
    false, true, false, true, true, true, true, true, true, true, true, true, true, false, false, true, true, true,
    true, true, true, true, false, true, false, true, true, true, true, true, true, true, true, true, true, false,
    false, true, true, true, true, true, true, true, false, true, false, true, true, true, true, true, true, true, true,
    true, true, false, false, true, true, true, true, true, true, true, false, true, false, true, true, true, true,
    true, true, true, true, true, true, false, false, true, true, true, true, true, true, true, false, true, false,
    true, true, true, true, true, true, true, true, true, true, false, false, true, true, true, true, true, true, true,
    false, true, true, true, true, true, true, true, true, true]) (by kernel_rfl) (by kernel_rfl) (by kernel_rfl) h
theorem R43_val {a0 a1 a2 a3 a4 a5 a6 a7 a8 a9 a10 a11 a12 a13 a14 a15 b0 b1 b2 b3 b4 b5 b6 b7 b8 b9 b10 b11 b12 b13 b14 b15 : Int} : (R43 a0 a1 a2 a3 a4 a5 a6 a7 a8 a9 a10 a11 a12 a13 a14 a15 b0 b1 b2 b3 b4 b5 b6 b7 b8 b9 b10 b11 b12 b13 b14 b15).val = AVal.ints IntKind.u8
    [ixor a0 b0, ixor a1 b1, ixor a2 b2, ixor a3 b3, ixor a4 b4, ixor a5 b5, ixor a6 b6, ixor a7 b7, ixor a8 b8,
      ixor a9 b9, ixor a10 b10, ixor a11 b11, ixor a12 b12, ixor a13 b13, ixor a14 b14, ixor a15 b15] := by kernel_rfl
theorem R43_tab {a0 a1 a2 a3 a4 a5 a6 a7 a8 a9 a10 a11 a12 a13 a14 a15 b0 b1 b2 b3 b4 b5 b6 b7 b8 b9 b10 b11 b12 b13 b14 b15 : Int} : (R43 a0 a1 a2 a3 a4 a5 a6 a7 a8 a9 a10 a11 a12 a13 a14 a15 b0 b1 b2 b3 b4 b5 b6 b7 b8 b9 b10 b11 b12 b13 b14 b15).tab = [some
      {
        data :=
          AVal.ints IntKind.u8
            [ixor a0 b0, ixor a1 b1, ixor a2 b2, ixor a3 b3, ixor a4 b4, ixor a5 b5, ixor a6 b6, ixor a7 b7, ixor a8 b8,
              ixor a9 b9, ixor a10 b10, ixor a11 b11, ixor a12 b12, ixor a13 b13, ixor a14 b14, ixor a15 b15],
        g := 0, own := true, et := 48 },
    some
      { data := AVal.ints IntKind.u8 [b0, b1, b2, b3, b4, b5, b6, b7, b8, b9, b10, b11, b12, b13, b14, b15], g := 0,
        own := true, et := 48 },
    some
      {
        data :=
          AVal.ints IntKind.u8
            [ixor a0 b0, ixor a1 b1, ixor a2 b2, ixor a3 b3, ixor a4 b4, ixor a5 b5, ixor a6 b6, ixor a7 b7, ixor a8 b8,
              ixor a9 b9, ixor a10 b10, ixor a11 b11, ixor a12 b12, ixor a13 b13, ixor a14 b14, ixor a15 b15],
        g := 0, own := true, et := 48 }] := by kernel_rfl
noncomputable def R44 (a0 a1 a2 a3 a4 a5 a6 a7 a8 a9 a10 a11 a12 a13 a14 a15 : Int) (tb : List Int) (g : Nat) (ow : Bool) : Res := runF (eA []) f44 [] 400 [.ints .u8 [a0, a1, a2, a3, a4, a5, a6, a7, a8, a9, a10, a11, a12, a13, a14, a15], .var 0 g] [some ⟨.ints .u8 tb, g, ow, 72⟩] []
theorem R44_ok {a0 a1 a2 a3 a4 a5 a6 a7 a8 a9 a10 a11 a12 a13 a14 a15 : Int} {tb : List Int} {g : Nat} {ow : Bool} (h : allP [Con.eqN g g, Con.eqN g g, Con.leI 0 a0, Con.leI (a0 + 1) 256, Con.eqN g g, Con.eqN g g,
    Con.leN (a0.toNat + 1) tb.length, Con.eqN g g, Con.eqN g g, Con.leI 0 a1, Con.leI (a1 + 1) 256, Con.eqN g g,
    Con.eqN g g, Con.leN (a1.toNat + 1) tb.length, Con.eqN g g, Con.eqN g g, Con.leI 0 a2, Con.leI (a2 + 1) 256,
    Con.eqN g g, Con.eqN g g, Con.leN (a2.toNat + 1) tb.length, Con.eqN g g, Con.eqN g g, Con.leI 0 a3,
    Con.leI (a3 + 1) 256, Con.eqN g g, Con.eqN g g, Con.leN (a3.toNat + 1) tb.length, Con.eqN g g, Con.eqN g g,
    Con.leI 0 a4, Con.leI (a4 + 1) 256, Con.eqN g g, Con.eqN g g, Con.leN (a4.toNat + 1) tb.length, Con.eqN g g,
    Con.eqN g g, Con.leI 0 a5, Con.leI (a5 + 1) 256, Con.eqN g g, Con.eqN g g, Con.leN (a5.toNat + 1) tb.length,
    Con.eqN g g, Con.eqN g g, Con.leI 0 a6, Con.leI (a6 + 1) 256, Con.eqN g g, Con.eqN g g,
    Con.leN (a6.toNat + 1) tb.length, Con.eqN g g, Con.eqN g g, Con.leI 0 a7, Con.leI (a7 + 1) 256, Con.eqN g g,
    Con.eqN g g, Con.leN (a7.toNat + 1) tb.length, Con.eqN g g, Con.eqN g g, Con.leI 0 a8, Con.leI (a8 + 1) 256,
    Con.eqN g g, Con.eqN g g, Con.leN (a8.toNat + 1) tb.length, Con.eqN g g, Con.eqN g g, Con.leI 0 a9,
    Con.leI (a9 + 1) 256, Con.eqN g g, Con.eqN g g, Con.leN (a9.toNat + 1) tb.length, Con.eqN g g, Con.eqN g g,
    Con.leI 0 a10, Con.leI (a10 + 1) 256, Con.eqN g g, Con.eqN g g, Con.leN (a10.toNat + 1) tb.length, Con.eqN g g,
    Con.eqN g g, Con.leI 0 a11, Con.leI (a11 + 1) 256, Con.eqN g g, Con.eqN g g, Con.leN (a11.toNat + 1) tb.length,
    Con.eqN g g, Con.eqN g g, Con.leI 0 a12, Con.leI (a12 + 1) 256, Con.eqN g g, Con.eqN g g,
    Con.leN (a12.toNat + 1) tb.length, Con.eqN g g, Con.eqN g g, Con.leI 0 a13, Con.leI (a13 + 1) 256, Con.eqN g g,
    Con.eqN g g, Con.leN (a13.toNat + 1) tb.length, Con.eqN g g, Con.eqN g g, Con.leI 0 a14, Con.leI (a14 + 1) 256,
    Con.eqN g g, Con.eqN g g, Con.leN (a14.toNat + 1) tb.length, Con.eqN g g, Con.eqN g g, Con.leI 0 a15,
    Con.leI (a15 + 1) 256, Con.eqN g g, Con.eqN g g, Con.leN (a15.toNat + 1) tb.length]) : OkR (R44 a0 a1 a2 a3 a4 a5 a6 a7 a8 a9 a10 a11 a12 a13 a14 a15 tb g ow) := OkR.dem (fl := [true, true, true, true, true, false, false, false, false, false, false, false, true, true, true, true, true, true,
    true, true, true, true, true, false, false, false, false, false, false, false, true, true, true, true, true, true,
    true, true, true, true, true, false, false, false, false, false, false, false, true, true, true, true, true, true,
    true, true, true, true, true, false, false, false, false, false, false, false, true, true, true, true, true, true,
    true, true, true, true, true, false, false, false, false, false, false, false, true, true, true, true, true, true,
    true, true, true, true, true, false, false, false, false, false, false, false, true, true, true, true, true, true,
    true, true, true, true, true, false, false, false, false, false, false, false, true, true, true, true, true, true,
    true, true, true, true, true, false, false, false, false, false, false, false, true, true, true, true, true, true,
    true, true, true, true, true, false, false, false, false, false, false, false, true, true, true, true, true, true,
    true, true, true, true, true, false, false, false, false, false, false, false, true, true, true, true, true, true,
    true, true, true, true, true, false, false, false, false, false, false, false, true, true, true, true, true, true,
    true, true, true, true, true, false, false, false, false, false, false, false, true, true, true, true, true, true,
    true, true, true, true, true, false, false, false, false, false, false, false, true, true, true, true, true, true,
    true, true, true, true, true, false, false, false, false, false, false, false, true, true, true, true, true, true,
    true, true, true, true, true, false, false, false, false, false, false, false, true, true, true, true, true, true,
    true, true, true, true, true, false, false, false, false, false, false, false, true, true, true, true, true, true,
    true, true, true, true, true, true, true, true, true, true]) (by kernel_rfl) (by kernel_rfl) (by kernel_rfl) h
theorem R44_val {a0 a1 a2 a3 a4 a5 a6 a7 a8 a9 a10 a11 a12 a13 a14 a15 : Int} {tb : List Int} {g : Nat} {ow : Bool} : (R44 a0 a1 a2 a3 a4 a5 a6 a7 a8 a9 a10 a11 a12 a13 a14 a15 tb g ow).val = AVal.ints IntKind.u8
    [tb.getD a0.toNat 0, tb.getD a1.toNat 0, tb.getD a2.toNat 0, tb.getD a3.toNat 0, tb.getD a4.toNat 0,
      tb.getD a5.toNat 0, tb.getD a6.toNat 0, tb.getD a7.toNat 0, tb.getD a8.toNat 0, tb.getD a9.toNat 0,
      tb.getD a10.toNat 0, tb.getD a11.toNat 0, tb.getD a12.toNat 0, tb.getD a13.toNat 0, tb.getD a14.toNat 0,
      tb.getD a15.toNat 0] := by kernel_rfl
theorem R44_tab {a0 a1 a2 a3 a4 a5 a6 a7 a8 a9 a10 a11 a12 a13 a14 a15 : Int} {tb : List Int} {g : Nat} {ow : Bool} : (R44 a0 a1 a2 a3 a4 a5 a6 a7 a8 a9 a10 a11 a12 a13 a14 a15 tb g ow).tab = [some { data := AVal.ints IntKind.u8 tb, g := g, own := ow, et := 72 },
    some
      {
        data :=
          AVal.ints IntKind.u8
            [tb.getD a0.toNat 0, tb.getD a1.toNat 0, tb.getD a2.toNat 0, tb.getD a3.toNat 0, tb.getD a4.toNat 0,
              tb.getD a5.toNat 0, tb.getD a6.toNat 0, tb.getD a7.toNat 0, tb.getD a8.toNat 0, tb.getD a9.toNat 0,
              tb.getD a10.toNat 0, tb.getD a11.toNat 0, tb.getD a12.toNat 0, tb.getD a13.toNat 0, tb.getD a14.toNat 0,
              tb.getD a15.toNat 0],
        g := 0, own := true, et := 48 },
    some
      {
        data :=
          AVal.ints IntKind.u8
            [tb.getD a0.toNat 0, tb.getD a1.toNat 0, tb.getD a2.toNat 0, tb.getD a3.toNat 0, tb.getD a4.toNat 0,
              tb.getD a5.toNat 0, tb.getD a6.toNat 0, tb.getD a7.toNat 0, tb.getD a8.toNat 0, tb.getD a9.toNat 0,
              tb.getD a10.toNat 0, tb.getD a11.toNat 0, tb.getD a12.toNat 0, tb.getD a13.toNat 0, tb.getD a14.toNat 0,
              tb.getD a15.toNat 0],
        g := 0, own := true, et := 48 }] := by kernel_rfl
noncomputable def R53 (a0 a1 a2 a3 a4 a5 a6 a7 a8 a9 a10 a11 a12 a13 a14 a15 : Int) (tb : List Int) (g : Nat) (ow : Bool) : Res := runF (eA []) f53 [] 400 [.ints .u8 [a0, a1, a2, a3, a4, a5, a6, a7, a8, a9, a10, a11, a12, a13, a14, a15], .var 0 g] [some ⟨.ints .u8 tb, g, ow, 72⟩] []
theorem R53_ok {a0 a1 a2 a3 a4 a5 a6 a7 a8 a9 a10 a11 a12 a13 a14 a15 : Int} {tb : List Int} {g : Nat} {ow : Bool} (h : allP [Con.eqN g g, Con.eqN g g, Con.leI 0 a0, Con.leI (a0 + 1) 256, Con.eqN g g, Con.eqN g g,
    Con.leN (256 + a0.toNat + 1) tb.length, Con.eqN g g, Con.eqN g g, Con.leI 0 a1, Con.leI (a1 + 1) 256, Con.eqN g g,
    Con.eqN g g, Con.leN (256 + a1.toNat + 1) tb.length, Con.eqN g g, Con.eqN g g, Con.leI 0 a2, Con.leI (a2 + 1) 256,
    Con.eqN g g, Con.eqN g g, Con.leN (256 + a2.toNat + 1) tb.length, Con.eqN g g, Con.eqN g g, Con.leI 0 a3,
    Con.leI (a3 + 1) 256, Con.eqN g g, Con.eqN g g, Con.leN (256 + a3.toNat + 1) tb.length, Con.eqN g g, Con.eqN g g,
    Con.leI 0 a4, Con.leI (a4 + 1) 256, Con.eqN g g, Con.eqN g g, Con.leN (256 + a4.toNat + 1) tb.length, Con.eqN g g,
    Con.eqN g g, Con.leI 0 a5, Con.leI (a5 + 1) 256, Con.eqN g g, Con.eqN g g, Con.leN (256 + a5.toNat + 1) tb.length,
    Con.eqN g g, Con.eqN g g, Con.leI 0 a6, Con.leI (a6 + 1) 256, Con.eqN g g, Con.eqN g g,
    Con.leN (256 + a6.toNat + 1) tb.length, Con.eqN g g, Con.eqN g g, Con.leI 0 a7, Con.leI (a7 + 1) 256, Con.eqN g g,
    Con.eqN g g, Con.leN (256 + a7.toNat + 1) tb.length, Con.eqN g g, Con.eqN g g, Con.leI 0 a8, Con.leI (a8 + 1) 256,
    Con.eqN g g, Con.eqN g g, Con.leN (256 + a8.toNat + 1) tb.length, Con.eqN g g, Con.eqN g g, Con.leI 0 a9,
    Con.leI (a9 + 1) 256, Con.eqN g g, Con.eqN g g, Con.leN (256 + a9.toNat + 1) tb.length, Con.eqN g g, Con.eqN g g,
    Con.leI 0 a10, Con.leI (a10 + 1) 256, Con.eqN g g, Con.eqN g g, Con.leN (256 + a10.toNat + 1) tb.length,
    Con.eqN g g, Con.eqN g g, Con.leI 0 a11, Con.leI (a11 + 1) 256, Con.eqN g g, Con.eqN g g,
    Con.leN (256 + a11.toNat + 1) tb.length, Con.eqN g g, Con.eqN g g, Con.leI 0 a12, Con.leI (a12 + 1) 256,
    Con.eqN g g, Con.eqN g g, Con.leN (256 + a12.toNat + 1) tb.length, Con.eqN g g, Con.eqN g g, Con.leI 0 a13,
    Con.leI (a13 + 1) 256, Con.eqN g g, Con.eqN g g, Con.leN (256 + a13.toNat + 1) tb.length, Con.eqN g g, Con.eqN g g,
    Con.leI 0 a14, Con.leI (a14 + 1) 256, Con.eqN g g, Con.eqN g g, Con.leN (256 + a14.toNat + 1) tb.length,
    Con.eqN g g, Con.eqN g g, Con.leI 0 a15, Con.leI (a15 + 1) 256, Con.eqN g g, Con.eqN g g,
    Con.leN (256 + a15.toNat + 1) tb.length]) : OkR (R53 a0 a1 a2 a3 a4 a5 a6 a7 a8 a9 a10 a11 a12 a13 a14 a15 tb g ow) := OkR.dem (fl := [true, true, true, true, true, false, false, false, false, false, false, false, true, true, true, true, true, true,
    true, true, true, true, true, false, false, false, false, false, false, false, true, true, true, true, true, true,
    true, true, true, true, true, false, false, false, false, false, false, false, true, true, true, true, true, true,
    true, true, true, true, true, false, false, false, false, false, false, false, true, true, true, true, true, true,
    true, true, true, true, true, false, false, false, false, false, false, false, true, true, true, true, true, true,
    true, true, true, true, true, false, false, false, false, false, false, false, true, true, true, true, true, true,
    true, true, true, true, true, false, false, false, false, false, false, false, true, true, true, true, true, true,
    true, true, true, true, true, false, false, false, false, false, false, false, true, true, true, true, true, true,
    true, true, true, true, true, false, false, false, false, false, false, false, true, true, true, true, true, true,
    true, true, true, true, true, false, false, false, false, false, false, false, true, true, true, true, true, true,
    true, true, true, true, true, false, false, false, false, false, false, false, true, true, true, true, true, true,
    true, true, true, true, true, false, false, false, false, false, false, false, true, true, true, true, true, true,
    true, true, true, true, true, false, false, false, false, false, false, false, true, true, true, true, true, true,
    true, true, true, true, true, false, false, false, false, false, false, false, true, true, true, true, true, true,
    true, true, true, true, true, false, false, false, false, false, false, false, true, true, true, true, true, true,
    true, true, true, true, true, false, false, false, false, false, false, false, true, true, true, true, true, true,
    true, true, true, true, true, true, true, true, true, true]) (by kernel_rfl) (by kernel_rfl) (by kernel_rfl) h
theorem R53_val {a0 a1 a2 a3 a4 a5 a6 a7 a8 a9 a10 a11 a12 a13 a14 a15 : Int} {tb : List Int} {g : Nat} {ow : Bool} : (R53 a0 a1 a2 a3 a4 a5 a6 a7 a8 a9 a10 a11 a12 a13 a14 a15 tb g ow).val = AVal.ints IntKind.u8
    [tb.getD (256 + a0.toNat) 0, tb.getD (256 + a1.toNat) 0, tb.getD (256 + a2.toNat) 0, tb.getD (256 + a3.toNat) 0,
      tb.getD (256 + a4.toNat) 0, tb.getD (256 + a5.toNat) 0, tb.getD (256 + a6.toNat) 0, tb.getD (256 + a7.toNat) 0,
      tb.getD (256 + a8.toNat) 0, tb.getD (256 + a9.toNat) 0, tb.getD (256 + a10.toNat) 0, tb.getD (256 + a11.toNat) 0,
      tb.getD (256 + a12.toNat) 0, tb.getD (256 + a13.toNat) 0, tb.getD (256 + a14.toNat) 0,
      tb.getD (256 + a15.toNat) 0] := by kernel_rfl
theorem R53_tab {a0 a1 a2 a3 a4 a5 a6 a7 a8 a9 a10 a11 a12 a13 a14 a15 : Int} {tb : List Int} {g : Nat} {ow : Bool} : (R53 a0 a1 a2 a3 a4 a5 a6 a7 a8 a9 a10 a11 a12 a13 a14 a15 tb g ow).tab = [some { data := AVal.ints IntKind.u8 tb, g := g, own := ow, et := 72 },
    some
      {
        data :=
          AVal.ints IntKind.u8
            [tb.getD (256 + a0.toNat) 0, tb.getD (256 + a1.toNat) 0, tb.getD (256 + a2.toNat) 0,
              tb.getD (256 + a3.toNat) 0, tb.getD (256 + a4.toNat) 0, tb.getD (256 + a5.toNat) 0,
              tb.getD (256 + a6.toNat) 0, tb.getD (256 + a7.toNat) 0, tb.getD (256 + a8.toNat) 0,
              tb.getD (256 + a9.toNat) 0, tb.getD (256 + a10.toNat) 0, tb.getD (256 + a11.toNat) 0,
              tb.getD (256 + a12.toNat) 0, tb.getD (256 + a13.toNat) 0, tb.getD (256 + a14.toNat) 0,
              tb.getD (256 + a15.toNat) 0],
        g := 0, own := true, et := 48 },
    some
      {
        data :=
          AVal.ints IntKind.u8
            [tb.getD (256 + a0.toNat) 0, tb.getD (256 + a1.toNat) 0, tb.getD (256 + a2.toNat) 0,
              tb.getD (256 + a3.toNat) 0, tb.getD (256 + a4.toNat) 0, tb.getD (256 + a5.toNat) 0,
              tb.getD (256 + a6.toNat) 0, tb.getD (256 + a7.toNat) 0, tb.getD (256 + a8.toNat) 0,
              tb.getD (256 + a9.toNat) 0, tb.getD (256 + a10.toNat) 0, tb.getD (256 + a11.toNat) 0,
              tb.getD (256 + a12.toNat) 0, tb.getD (256 + a13.toNat) 0, tb.getD (256 + a14.toNat) 0,
              tb.getD (256 + a15.toNat) 0],
        g := 0, own := true, et := 48 }] := by kernel_rfl
noncomputable def R68a (a0 a1 a2 a3 a4 a5 a6 a7 a8 a9 a10 a11 a12 a13 a14 a15 : Int) : Res := runF (eA []) f68 [] 400 [.ints .u8 [a0, a1, a2, a3, a4, a5, a6, a7, a8, a9, a10, a11, a12, a13, a14, a15], .int .i64 1] [] []
theorem R68a_ok {a0 a1 a2 a3 a4 a5 a6 a7 a8 a9 a10 a11 a12 a13 a14 a15 : Int} (h : allP []) : OkR (R68a a0 a1 a2 a3 a4 a5 a6 a7 a8 a9 a10 a11 a12 a13 a14 a15) := OkR.dem (fl := [true, true, true, true, true, true, true, true, true, true, true, true, true, true, true, true, true, true, true,
    true, true, true, true, true, true, true, true, true, true, true, true, true, true, true, true, true, true, true,
    true, true, true, true, true, true, true, true, true, true, true, true, true, true, true, true, true, true, true,
    true, true, true, true, true, true, true, true, true, true, true, true, true, true, true, true, true, true, true,
    true, true, true, true, true, true, true, true, true, true, true, true, true, true, true, true, true, true, true,
    true, true, true, true, true, true, true, true, true, true, true, true, true, true, true, true, true, true, true,
    true, true, true, true, true, true, true, true, true, true, true, true, true, true, true, true, true, true, true,
    true, true, true, true, true, true, true, true, true, true, true, true, true, true, true, true, true, true, true,
    true, true, true, true, true, true, true, true, true, true, true, true, true, true, true, true, true, true, true,
    true, true, true, true, true, true, true, true, true, true, true, true, true, true, true, true, true, true, true,
    true, true, true, true, true, true, true, true, true, true, true, true, true, true, true, true, true, true, true,
    true, true, true, true, true, true, true, true, true, true, true, true, true, true, true, true, true, true, true,
    true, true, true, true, true, true, true, true, true, true, true, true, true, true, true, true, true, true, true,
    true, true, true, true, true, true, true, true, true, true, true, true, true, true, true, true, true, true, true,
    true, true, true, true, true, true, true, true, true, true, true, true, true, true, true, true, true, true, true,
    true, true, true, true, true, true, true, true, true, true, true]) (by kernel_rfl) (by kernel_rfl) (by kernel_rfl) h
theorem R68a_val {a0 a1 a2 a3 a4 a5 a6 a7 a8 a9 a10 a11 a12 a13 a14 a15 : Int} : (R68a a0 a1 a2 a3 a4 a5 a6 a7 a8 a9 a10 a11 a12 a13 a14 a15).val = AVal.ints IntKind.u8 [a0, a5, a10, a15, a4, a9, a14, a3, a8, a13, a2, a7, a12, a1, a6, a11] := by kernel_rfl
theorem R68a_tab {a0 a1 a2 a3 a4 a5 a6 a7 a8 a9 a10 a11 a12 a13 a14 a15 : Int} : (R68a a0 a1 a2 a3 a4 a5 a6 a7 a8 a9 a10 a11 a12 a13 a14 a15).tab = [some
      { data := AVal.ints IntKind.u8 [a0, a1, a2, a3, a4, a5, a6, a7, a8, a9, a10, a11, a12, a13, a14, a15], g := 0,
        own := true, et := 48 },
    some
      { data := AVal.ints IntKind.u8 [a0, a5, a10, a15, a4, a9, a14, a3, a8, a13, a2, a7, a12, a1, a6, a11], g := 0,
        own := true, et := 48 },
    some
      { data := AVal.ints IntKind.u8 [a0, a5, a10, a15, a4, a9, a14, a3, a8, a13, a2, a7, a12, a1, a6, a11], g := 0,
        own := true, et := 48 }] := by kernel_rfl
noncomputable def R68b (a0 a1 a2 a3 a4 a5 a6 a7 a8 a9 a10 a11 a12 a13 a14 a15 : Int) : Res := runF (eA []) f68 [] 400 [.ints .u8 [a0, a1, a2, a3, a4, a5, a6, a7, a8, a9, a10, a11, a12, a13, a14, a15], .int .i64 3] [] []
theorem R68b_ok {a0 a1 a2 a3 a4 a5 a6 a7 a8 a9 a10 a11 a12 a13 a14 a15 : Int} (h : allP []) : OkR (R68b a0 a1 a2 a3 a4 a5 a6 a7 a8 a9 a10 a11 a12 a13 a14 a15) := OkR.dem (fl := [true, true, true, true, true, true, true, true, true, true, true, true, true, true, true, true, true, true, true,
    true, true, true, true, true, true, true, true, true, true, true, true, true, true, true, true, true, true, true,
    true, true, true, true, true, true, true, true, true, true, true, true, true, true, true, true, true, true, true,
    true, true, true, true, true, true, true, true, true, true, true, true, true, true, true, true, true, true, true,
    true, true, true, true, true, true, true, true, true, true, true, true, true, true, true, true, true, true, true,
    true, true, true, true, true, true, true, true, true, true, true, true, true, true, true, true, true, true, true,
    true, true, true, true, true, true, true, true, true, true, true, true, true, true, true, true, true, true, true,
    true, true, true, true, true, true, true, true, true, true, true, true, true, true, true, true, true, true, true,
    true, true, true, true, true, true, true, true, true, true, true, true, true, true, true, true, true, true, true,
    true, true, true, true, true, true, true, true, true, true, true, true, true, true, true, true, true, true, true,
    true, true, true, true, true, true, true, true, true, true, true, true, true, true, true, true, true, true, true,
    true, true, true, true, true, true, true, true, true, true, true, true, true, true, true, true, true, true, true,
    true, true, true, true, true, true, true, true, true, true, true, true, true, true, true, true, true, true, true,
    true, true, true, true, true, true, true, true, true, true, true, true, true, true, true, true, true, true, true,
    true, true, true, true, true, true, true, true, true, true, true, true, true, true, true, true, true, true, true,
    true, true, true, true, true, true, true, true, true, true, true]) (by kernel_rfl) (by kernel_rfl) (by kernel_rfl) h
theorem R68b_val {a0 a1 a2 a3 a4 a5 a6 a7 a8 a9 a10 a11 a12 a13 a14 a15 : Int} : (R68b a0 a1 a2 a3 a4 a5 a6 a7 a8 a9 a10 a11 a12 a13 a14 a15).val = AVal.ints IntKind.u8 [a0, a13, a10, a7, a4, a1, a14, a11, a8, a5, a2, a15, a12, a9, a6, a3] := by kernel_rfl
theorem R68b_tab {a0 a1 a2 a3 a4 a5 a6 a7 a8 a9 a10 a11 a12 a13 a14 a15 : Int} : (R68b a0 a1 a2 a3 a4 a5 a6 a7 a8 a9 a10 a11 a12 a13 a14 a15).tab = [some
      { data := AVal.ints IntKind.u8 [a0, a1, a2, a3, a4, a5, a6, a7, a8, a9, a10, a11, a12, a13, a14, a15], g := 0,
        own := true, et := 48 },
    some
      { data := AVal.ints IntKind.u8 [a0, a13, a10, a7, a4, a1, a14, a11, a8, a5, a2, a15, a12, a9, a6, a3], g := 0,
        own := true, et := 48 },
    some
      { data := AVal.ints IntKind.u8 [a0, a13, a10, a7, a4, a1, a14, a11, a8, a5, a2, a15, a12, a9, a6, a3], g := 0,
        own := true, et := 48 }] := by kernel_rfl
noncomputable def eM0 : Env := eA [(66, S66)]
theorem eM0_ok : EnvOk eM0 := envOf_ok tysA_ok (SumsOk.cons (fn := f66) S66_ok (by kernel_rfl) (by kernel_rfl) (by kernel_rfl) trivial)
noncomputable def R78_1 (x : Int) : Res := runF eM0 f78 [] 400 [.int .u8 x, .int .u8 1] [] []
theorem R78_1_ok {x : Int} (h : allP [Con.nn IntKind.u8 x, Con.rng 0 x 255]) : OkR (R78_1 x) := OkR.dem (fl := [true, true, true, false, false, true]) (by kernel_rfl) (by kernel_rfl) (by kernel_rfl) h
theorem R78_1_val {x : Int} : (R78_1 x).val = AVal.int IntKind.u8 (ixor 0 x) := by kernel_rfl
theorem R78_1_tab {x : Int} : (R78_1 x).tab = [] := by kernel_rfl
noncomputable def R78_2 (x : Int) : Res := runF eM0 f78 [] 400 [.int .u8 x, .int .u8 2] [] []
theorem R78_2_ok {x : Int} (h : allP [Con.rng 0 x 255, Con.nn IntKind.u8 (dblLaw x), Con.rng 0 (dblLaw x) 255]) : OkR (R78_2 x) := OkR.dem (fl := [true, true, false, true, true, true, true, false, false, true]) (by kernel_rfl) (by kernel_rfl) (by kernel_rfl) h
theorem R78_2_val {x : Int} : (R78_2 x).val = AVal.int IntKind.u8 (ixor 0 (dblLaw x)) := by kernel_rfl
theorem R78_2_tab {x : Int} : (R78_2 x).tab = [] := by kernel_rfl
noncomputable def R78_3 (x : Int) : Res := runF eM0 f78 [] 400 [.int .u8 x, .int .u8 3] [] []
theorem R78_3_ok {x : Int} (h : allP [Con.nn IntKind.u8 x, Con.rng 0 x 255, Con.nn IntKind.u8 (ixor 0 x), Con.nn IntKind.u8 (dblLaw x),
    Con.rng 0 (dblLaw x) 255]) : OkR (R78_3 x) := OkR.dem (fl := [true, true, true, false, false, true, true, true, false, false, false, true]) (by kernel_rfl) (by kernel_rfl) (by kernel_rfl) h
theorem R78_3_val {x : Int} : (R78_3 x).val = AVal.int IntKind.u8 (ixor (ixor 0 x) (dblLaw x)) := by kernel_rfl
theorem R78_3_tab {x : Int} : (R78_3 x).tab = [] := by kernel_rfl
noncomputable def R78_9 (x : Int) : Res := runF eM0 f78 [] 400 [.int .u8 x, .int .u8 9] [] []
theorem R78_9_ok {x : Int} (h : allP [Con.nn IntKind.u8 x, Con.rng 0 x 255, Con.rng 0 (dblLaw x) 255, Con.rng 0 (dblLaw (dblLaw x)) 255,
    Con.nn IntKind.u8 (ixor 0 x), Con.nn IntKind.u8 (dblLaw (dblLaw (dblLaw x))),
    Con.rng 0 (dblLaw (dblLaw (dblLaw x))) 255]) : OkR (R78_9 x) := OkR.dem (fl := [true, true, true, false, false, true, true, true, false, true, true, true, false, true, true, true, false, false,
    false, true]) (by kernel_rfl) (by kernel_rfl) (by kernel_rfl) h
theorem R78_9_val {x : Int} : (R78_9 x).val = AVal.int IntKind.u8 (ixor (ixor 0 x) (dblLaw (dblLaw (dblLaw x)))) := by kernel_rfl
theorem R78_9_tab {x : Int} : (R78_9 x).tab = [] := by kernel_rfl
noncomputable def R78_11 (x : Int) : Res := runF eM0 f78 [] 400 [.int .u8 x, .int .u8 11] [] []
theorem R78_11_ok {x : Int} (h : allP [Con.nn IntKind.u8 x, Con.rng 0 x 255, Con.nn IntKind.u8 (ixor 0 x), Con.nn IntKind.u8 (dblLaw x),
    Con.rng 0 (dblLaw x) 255, Con.rng 0 (dblLaw (dblLaw x)) 255, Con.nn IntKind.u8 (ixor (ixor 0 x) (dblLaw x)),
    Con.nn IntKind.u8 (dblLaw (dblLaw (dblLaw x))), Con.rng 0 (dblLaw (dblLaw (dblLaw x))) 255]) : OkR (R78_11 x) := OkR.dem (fl := [true, true, true, false, false, true, true, true, false, false, false, true, true, true, false, true, true, true,
    false, false, false, true]) (by kernel_rfl) (by kernel_rfl) (by kernel_rfl) h
theorem R78_11_val {x : Int} : (R78_11 x).val = AVal.int IntKind.u8 (ixor (ixor (ixor 0 x) (dblLaw x)) (dblLaw (dblLaw (dblLaw x)))) := by kernel_rfl
theorem R78_11_tab {x : Int} : (R78_11 x).tab = [] := by kernel_rfl
noncomputable def R78_13 (x : Int) : Res := runF eM0 f78 [] 400 [.int .u8 x, .int .u8 13] [] []
theorem R78_13_ok {x : Int} (h : allP [Con.nn IntKind.u8 x, Con.rng 0 x 255, Con.rng 0 (dblLaw x) 255, Con.nn IntKind.u8 (ixor 0 x),
    Con.nn IntKind.u8 (dblLaw (dblLaw x)), Con.rng 0 (dblLaw (dblLaw x)) 255,
    Con.nn IntKind.u8 (ixor (ixor 0 x) (dblLaw (dblLaw x))), Con.nn IntKind.u8 (dblLaw (dblLaw (dblLaw x))),
    Con.rng 0 (dblLaw (dblLaw (dblLaw x))) 255]) : OkR (R78_13 x) := OkR.dem (fl := [true, true, true, false, false, true, true, true, false, true, true, true, false, false, false, true, true, true,
    false, false, false, true]) (by kernel_rfl) (by kernel_rfl) (by kernel_rfl) h
theorem R78_13_val {x : Int} : (R78_13 x).val = AVal.int IntKind.u8 (ixor (ixor (ixor 0 x) (dblLaw (dblLaw x))) (dblLaw (dblLaw (dblLaw x)))) := by kernel_rfl
theorem R78_13_tab {x : Int} : (R78_13 x).tab = [] := by kernel_rfl
noncomputable def R78_14 (x : Int) : Res := runF eM0 f78 [] 400 [.int .u8 x, .int .u8 14] [] []
theorem R78_14_ok {x : Int} (h : allP [Con.rng 0 x 255, Con.nn IntKind.u8 (dblLaw x), Con.rng 0 (dblLaw x) 255, Con.nn IntKind.u8 (ixor 0 (dblLaw x)),
    Con.nn IntKind.u8 (dblLaw (dblLaw x)), Con.rng 0 (dblLaw (dblLaw x)) 255,
    Con.nn IntKind.u8 (ixor (ixor 0 (dblLaw x)) (dblLaw (dblLaw x))), Con.nn IntKind.u8 (dblLaw (dblLaw (dblLaw x))),
    Con.rng 0 (dblLaw (dblLaw (dblLaw x))) 255]) : OkR (R78_14 x) := OkR.dem (fl := [true, true, false, true, true, true, true, false, false, true, true, true, false, false, false, true, true, true,
    false, false, false, true]) (by kernel_rfl) (by kernel_rfl) (by kernel_rfl) h
theorem R78_14_val {x : Int} : (R78_14 x).val = AVal.int IntKind.u8 (ixor (ixor (ixor 0 (dblLaw x)) (dblLaw (dblLaw x))) (dblLaw (dblLaw (dblLaw x)))) := by kernel_rfl
theorem R78_14_tab {x : Int} : (R78_14 x).tab = [] := by kernel_rfl
theorem congr16 {x0 y0 x1 y1 x2 y2 x3 y3 x4 y4 x5 y5 x6 y6 x7 y7 x8 y8 x9 y9 x10 y10 x11 y11 x12 y12 x13 y13 x14 y14 x15 y15 : Int} (h0 : x0 = y0) (h1 : x1 = y1) (h2 : x2 = y2) (h3 : x3 = y3) (h4 : x4 = y4) (h5 : x5 = y5) (h6 : x6 = y6) (h7 : x7 = y7) (h8 : x8 = y8) (h9 : x9 = y9) (h10 : x10 = y10) (h11 : x11 = y11) (h12 : x12 = y12) (h13 : x13 = y13) (h14 : x14 = y14) (h15 : x15 = y15) : [x0, x1, x2, x3, x4, x5, x6, x7, x8, x9, x10, x11, x12, x13, x14, x15] = [y0, y1, y2, y3, y4, y5, y6, y7, y8, y9, y10, y11, y12, y13, y14, y15] := by subst h0 h1 h2 h3 h4 h5 h6 h7 h8 h9 h10 h11 h12 h13 h14 h15; rfl
theorem dem_nil {cs : List Con} (h : cs = []) : allP cs := by rw [h]; trivial
def sm43 : Summary := fun args T => match args, T with
  | [.ints .u8 s, .ints .u8 k], [] => ⟨[.eqN s.length 16, .eqN k.length 16, .p (Bytes s), .p (Bytes k)], .ints .u8 (plusLaw s k), []⟩
  | _, _ => fail
theorem sm43_ok : SmOk prog (fun _ => none) 43 sm43 := by
  intro args T hc
  unfold sm43 at hc ⊢
  split at hc
  · obtain ⟨h1, h2, h3, h4, _⟩ := hc
    simp only [Con.h] at h1 h2 h3 h4
    obtain ⟨a0, a1, a2, a3, a4, a5, a6, a7, a8, a9, a10, a11, a12, a13, a14, a15, rfl⟩ := list16 h1
    obtain ⟨b0, b1, b2, b3, b4, b5, b6, b7, b8, b9, b10, b11, b12, b13, b14, b15, rfl⟩ := list16 h2
    have p0 : 0 ≤ a0 ∧ a0 < 256 := h3.get 0
    have p1 : 0 ≤ a1 ∧ a1 < 256 := h3.get 1
    have p2 : 0 ≤ a2 ∧ a2 < 256 := h3.get 2
    have p3 : 0 ≤ a3 ∧ a3 < 256 := h3.get 3
    have p4 : 0 ≤ a4 ∧ a4 < 256 := h3.get 4
    have p5 : 0 ≤ a5 ∧ a5 < 256 := h3.get 5
    have p6 : 0 ≤ a6 ∧ a6 < 256 := h3.get 6
    have p7 : 0 ≤ a7 ∧ a7 < 256 := h3.get 7
    have p8 : 0 ≤ a8 ∧ a8 < 256 := h3.get 8
    have p9 : 0 ≤ a9 ∧ a9 < 256 := h3.get 9
    have p10 : 0 ≤ a10 ∧ a10 < 256 := h3.get 10
    have p11 : 0 ≤ a11 ∧ a11 < 256 := h3.get 11
    have p12 : 0 ≤ a12 ∧ a12 < 256 := h3.get 12
    have p13 : 0 ≤ a13 ∧ a13 < 256 := h3.get 13
    have p14 : 0 ≤ a14 ∧ a14 < 256 := h3.get 14
    have p15 : 0 ≤ a15 ∧ a15 < 256 := h3.get 15
    have q0 : 0 ≤ b0 ∧ b0 < 256 := h4.get 0
    have q1 : 0 ≤ b1 ∧ b1 < 256 := h4.get 1
    have q2 : 0 ≤ b2 ∧ b2 < 256 := h4.get 2
    have q3 : 0 ≤ b3 ∧ b3 < 256 := h4.get 3
    have q4 : 0 ≤ b4 ∧ b4 < 256 := h4.get 4
    have q5 : 0 ≤ b5 ∧ b5 < 256 := h4.get 5
    have q6 : 0 ≤ b6 ∧ b6 < 256 := h4.get 6
    have q7 : 0 ≤ b7 ∧ b7 < 256 := h4.get 7
    have q8 : 0 ≤ b8 ∧ b8 < 256 := h4.get 8
    have q9 : 0 ≤ b9 ∧ b9 < 256 := h4.get 9
    have q10 : 0 ≤ b10 ∧ b10 < 256 := h4.get 10
    have q11 : 0 ≤ b11 ∧ b11 < 256 := h4.get 11
    have q12 : 0 ≤ b12 ∧ b12 < 256 := h4.get 12
    have q13 : 0 ≤ b13 ∧ b13 < 256 := h4.get 13
    have q14 : 0 ≤ b14 ∧ b14 < 256 := h4.get 14
    have q15 : 0 ≤ b15 ∧ b15 < 256 := h4.get 15
    refine small_drop (small_of (R := R43 a0 a1 a2 a3 a4 a5 a6 a7 a8 a9 a10 a11 a12 a13 a14 a15 b0 b1 b2 b3 b4 b5 b6 b7 b8 b9 b10 b11 b12 b13 b14 b15) eA0_ok hmA (f := 43) (fn := f43) (by kernel_rfl) (by kernel_rfl) FnOrc.nil rfl (R43_ok ?_) R43_val R43_tab)
    simp only [allP, Con.h, nn8, eq_self, true_and, and_true]
    omega
  · exact absurd hc nofail
def S43 : Summary := callR sm43 []
theorem S43_ok : SumOk prog (fun _ => none) 43 S43 := callR_ok sm43_ok []

def sm44 : Summary := fun args T => match args, T with
  | [.ints .u8 s, .var 0 g], [some ⟨.ints .u8 tb, g', ow, 72⟩] => ⟨[.eqN g g', .eqN s.length 16, .p (Bytes s), .p (tb = TABLaw)], .ints .u8 (boxedLaw s), [some ⟨.ints .u8 tb, g', ow, 72⟩]⟩
  | _, _ => fail
theorem sm44_ok : SmOk prog (fun _ => none) 44 sm44 := by
  intro args T hc
  unfold sm44 at hc ⊢
  split at hc
  · obtain ⟨h1, h2, h3, h4, _⟩ := hc
    simp only [Con.h] at h1 h2 h3 h4
    subst h1 h4
    obtain ⟨a0, a1, a2, a3, a4, a5, a6, a7, a8, a9, a10, a11, a12, a13, a14, a15, rfl⟩ := list16 h2
    have p0 : 0 ≤ a0 ∧ a0 < 256 := h3.get 0
    have p1 : 0 ≤ a1 ∧ a1 < 256 := h3.get 1
    have p2 : 0 ≤ a2 ∧ a2 < 256 := h3.get 2
    have p3 : 0 ≤ a3 ∧ a3 < 256 := h3.get 3
    have p4 : 0 ≤ a4 ∧ a4 < 256 := h3.get 4
    have p5 : 0 ≤ a5 ∧ a5 < 256 := h3.get 5
    have p6 : 0 ≤ a6 ∧ a6 < 256 := h3.get 6
    have p7 : 0 ≤ a7 ∧ a7 < 256 := h3.get 7
    have p8 : 0 ≤ a8 ∧ a8 < 256 := h3.get 8
    have p9 : 0 ≤ a9 ∧ a9 < 256 := h3.get 9
    have p10 : 0 ≤ a10 ∧ a10 < 256 := h3.get 10
    have p11 : 0 ≤ a11 ∧ a11 < 256 := h3.get 11
    have p12 : 0 ≤ a12 ∧ a12 < 256 := h3.get 12
    have p13 : 0 ≤ a13 ∧ a13 < 256 := h3.get 13
    have p14 : 0 ≤ a14 ∧ a14 < 256 := h3.get 14
    have p15 : 0 ≤ a15 ∧ a15 < 256 := h3.get 15
    have hl := TABLaw_len
    have e : boxedLaw [a0, a1, a2, a3, a4, a5, a6, a7, a8, a9, a10, a11, a12, a13, a14, a15] = _ := congr16 (tab_box p0).symm (tab_box p1).symm (tab_box p2).symm (tab_box p3).symm (tab_box p4).symm (tab_box p5).symm (tab_box p6).symm (tab_box p7).symm (tab_box p8).symm (tab_box p9).symm (tab_box p10).symm (tab_box p11).symm (tab_box p12).symm (tab_box p13).symm (tab_box p14).symm (tab_box p15).symm
    refine e ▸ small_drop (small_of (R := R44 a0 a1 a2 a3 a4 a5 a6 a7 a8 a9 a10 a11 a12 a13 a14 a15 TABLaw _ _) eA0_ok hmA (f := 44) (fn := f44) (by kernel_rfl) (by kernel_rfl) FnOrc.nil rfl (R44_ok ?_) R44_val R44_tab)
    simp only [allP, Con.h, hl, eq_self, true_and, and_true]
    omega
  · exact absurd hc nofail
def S44 : Summary := callR sm44 []
theorem S44_ok : SumOk prog (fun _ => none) 44 S44 := callR_ok sm44_ok []

def sm53 : Summary := fun args T => match args, T with
  | [.ints .u8 s, .var 0 g], [some ⟨.ints .u8 tb, g', ow, 72⟩] => ⟨[.eqN g g', .eqN s.length 16, .p (Bytes s), .p (tb = TABLaw)], .ints .u8 (unboxedLaw s), [some ⟨.ints .u8 tb, g', ow, 72⟩]⟩
  | _, _ => fail
theorem sm53_ok : SmOk prog (fun _ => none) 53 sm53 := by
  intro args T hc
  unfold sm53 at hc ⊢
  split at hc
  · obtain ⟨h1, h2, h3, h4, _⟩ := hc
    simp only [Con.h] at h1 h2 h3 h4
    subst h1 h4
    obtain ⟨a0, a1, a2, a3, a4, a5, a6, a7, a8, a9, a10, a11, a12, a13, a14, a15, rfl⟩ := list16 h2
    have p0 : 0 ≤ a0 ∧ a0 < 256 := h3.get 0
    have p1 : 0 ≤ a1 ∧ a1 < 256 := h3.get 1
    have p2 : 0 ≤ a2 ∧ a2 < 256 := h3.get 2
    have p3 : 0 ≤ a3 ∧ a3 < 256 := h3.get 3
    have p4 : 0 ≤ a4 ∧ a4 < 256 := h3.get 4
    have p5 : 0 ≤ a5 ∧ a5 < 256 := h3.get 5
    have p6 : 0 ≤ a6 ∧ a6 < 256 := h3.get 6
    have p7 : 0 ≤ a7 ∧ a7 < 256 := h3.get 7
    have p8 : 0 ≤ a8 ∧ a8 < 256 := h3.get 8
    have p9 : 0 ≤ a9 ∧ a9 < 256 := h3.get 9
    have p10 : 0 ≤ a10 ∧ a10 < 256 := h3.get 10
    have p11 : 0 ≤ a11 ∧ a11 < 256 := h3.get 11
    have p12 : 0 ≤ a12 ∧ a12 < 256 := h3.get 12
    have p13 : 0 ≤ a13 ∧ a13 < 256 := h3.get 13
    have p14 : 0 ≤ a14 ∧ a14 < 256 := h3.get 14
    have p15 : 0 ≤ a15 ∧ a15 < 256 := h3.get 15
    have hl := TABLaw_len
    have e : unboxedLaw [a0, a1, a2, a3, a4, a5, a6, a7, a8, a9, a10, a11, a12, a13, a14, a15] = _ := rfl
    refine e ▸ small_drop (small_of (R := R53 a0 a1 a2 a3 a4 a5 a6 a7 a8 a9 a10 a11 a12 a13 a14 a15 TABLaw _ _) eA0_ok hmA (f := 53) (fn := f53) (by kernel_rfl) (by kernel_rfl) FnOrc.nil rfl (R53_ok ?_) R53_val R53_tab)
    simp only [allP, Con.h, hl, eq_self, true_and, and_true]
    omega
  · exact absurd hc nofail
def S53 : Summary := callR sm53 []
theorem S53_ok : SumOk prog (fun _ => none) 53 S53 := callR_ok sm53_ok []

def mulOkLaw (y : Int) : Bool := decide (y = 1) || decide (y = 2) || decide (y = 3) || decide (y = 9) || decide (y = 11) || decide (y = 13) || decide (y = 14)
def sm78 : Summary := fun args T => match args, T with
  | [.int .u8 x, .int .u8 y], [] => ⟨[.rng 0 x 255, .tt (mulOkLaw y)], .int .u8 (timesLaw y x), []⟩
  | _, _ => fail
theorem times_1 : ∀ x : Int, 0 ≤ x ∧ x < 256 → timesLaw 1 x = ixor 0 x := by
  have : ((List.range 256).all fun n : Nat => (fun x : Int => timesLaw 1 x == ixor 0 x) n) = true := by kernel_rfl
  intro x hx
  obtain ⟨n, rfl⟩ := Int.eq_ofNat_of_zero_le hx.1
  simpa using List.all_eq_true.1 this n (List.mem_range.2 (by omega))
theorem times_2 : ∀ x : Int, 0 ≤ x ∧ x < 256 → timesLaw 2 x = ixor 0 (dblLaw x) := by
  have : ((List.range 256).all fun n : Nat => (fun x : Int => timesLaw 2 x == ixor 0 (dblLaw x)) n) = true := by kernel_rfl
  intro x hx
  obtain ⟨n, rfl⟩ := Int.eq_ofNat_of_zero_le hx.1
  simpa using List.all_eq_true.1 this n (List.mem_range.2 (by omega))
theorem times_3 : ∀ x : Int, 0 ≤ x ∧ x < 256 → timesLaw 3 x = ixor (ixor 0 x) (dblLaw x) := by
  have : ((List.range 256).all fun n : Nat => (fun x : Int => timesLaw 3 x == ixor (ixor 0 x) (dblLaw x)) n) = true := by kernel_rfl
  intro x hx
  obtain ⟨n, rfl⟩ := Int.eq_ofNat_of_zero_le hx.1
  simpa using List.all_eq_true.1 this n (List.mem_range.2 (by omega))
theorem times_9 : ∀ x : Int, 0 ≤ x ∧ x < 256 → timesLaw 9 x = ixor (ixor 0 x) (dblLaw (dblLaw (dblLaw x))) := by
  have : ((List.range 256).all fun n : Nat => (fun x : Int => timesLaw 9 x == ixor (ixor 0 x) (dblLaw (dblLaw (dblLaw x)))) n) = true := by kernel_rfl
  intro x hx
  obtain ⟨n, rfl⟩ := Int.eq_ofNat_of_zero_le hx.1
  simpa using List.all_eq_true.1 this n (List.mem_range.2 (by omega))
theorem times_11 : ∀ x : Int, 0 ≤ x ∧ x < 256 → timesLaw 11 x = ixor (ixor (ixor 0 x) (dblLaw x)) (dblLaw (dblLaw (dblLaw x))) := by
  have : ((List.range 256).all fun n : Nat => (fun x : Int => timesLaw 11 x == ixor (ixor (ixor 0 x) (dblLaw x)) (dblLaw (dblLaw (dblLaw x)))) n) = true := by kernel_rfl
  intro x hx
  obtain ⟨n, rfl⟩ := Int.eq_ofNat_of_zero_le hx.1
  simpa using List.all_eq_true.1 this n (List.mem_range.2 (by omega))
theorem times_13 : ∀ x : Int, 0 ≤ x ∧ x < 256 → timesLaw 13 x = ixor (ixor (ixor 0 x) (dblLaw (dblLaw x))) (dblLaw (dblLaw (dblLaw x))) := by
  have : ((List.range 256).all fun n : Nat => (fun x : Int => timesLaw 13 x == ixor (ixor (ixor 0 x) (dblLaw (dblLaw x))) (dblLaw (dblLaw (dblLaw x)))) n) = true := by kernel_rfl
  intro x hx
  obtain ⟨n, rfl⟩ := Int.eq_ofNat_of_zero_le hx.1
  simpa using List.all_eq_true.1 this n (List.mem_range.2 (by omega))
theorem times_14 : ∀ x : Int, 0 ≤ x ∧ x < 256 → timesLaw 14 x = ixor (ixor (ixor 0 (dblLaw x)) (dblLaw (dblLaw x))) (dblLaw (dblLaw (dblLaw x))) := by
  have : ((List.range 256).all fun n : Nat => (fun x : Int => timesLaw 14 x == ixor (ixor (ixor 0 (dblLaw x)) (dblLaw (dblLaw x))) (dblLaw (dblLaw (dblLaw x)))) n) = true := by kernel_rfl
  intro x hx
  obtain ⟨n, rfl⟩ := Int.eq_ofNat_of_zero_le hx.1
  simpa using List.all_eq_true.1 this n (List.mem_range.2 (by omega))
theorem sm78_ok : SmOk prog (fun _ => none) 78 sm78 := by
  intro args T hc
  unfold sm78 at hc ⊢
  split at hc
  · rename_i x y
    obtain ⟨h1, h2, _⟩ := hc
    simp only [Con.h] at h1 h2
    have hx : 0 ≤ x ∧ x < 256 := by omega
    have d1 := dblLaw_lt (x := x)
    have d2 := dblLaw_lt (x := dblLaw x)
    have d3 := dblLaw_lt (x := dblLaw (dblLaw x))
    have z : (0 : Int) ≤ 0 ∧ (0 : Int) < 256 := by omega
    have hy : y = 1 ∨ y = 2 ∨ y = 3 ∨ y = 9 ∨ y = 11 ∨ y = 13 ∨ y = 14 := by
      simp only [mulOkLaw, Bool.or_eq_true, decide_eq_true_eq] at h2; omega
    simp only
    rcases hy with rfl | rfl | rfl | rfl | rfl | rfl | rfl
    · rw [times_1 x hx]
      refine small_of (R := R78_1 x) eM0_ok hmA (f := 78) (fn := f78) (by kernel_rfl) (by kernel_rfl) FnOrc.nil rfl (R78_1_ok ?_) R78_1_val R78_1_tab
      simp only [allP, Con.h, and_true]
      repeat' with_reducible apply And.intro
      all_goals first | omega | skip
      all_goals repeat' (first | exact nn8.2 hx | exact nn8.2 d1 | exact nn8.2 d2 | exact nn8.2 d3 | exact nn8.2 z | apply nn_xor)
    · rw [times_2 x hx]
      refine small_of (R := R78_2 x) eM0_ok hmA (f := 78) (fn := f78) (by kernel_rfl) (by kernel_rfl) FnOrc.nil rfl (R78_2_ok ?_) R78_2_val R78_2_tab
      simp only [allP, Con.h, and_true]
      repeat' with_reducible apply And.intro
      all_goals first | omega | skip
      all_goals repeat' (first | exact nn8.2 hx | exact nn8.2 d1 | exact nn8.2 d2 | exact nn8.2 d3 | exact nn8.2 z | apply nn_xor)
    · rw [times_3 x hx]
      refine small_of (R := R78_3 x) eM0_ok hmA (f := 78) (fn := f78) (by kernel_rfl) (by kernel_rfl) FnOrc.nil rfl (R78_3_ok ?_) R78_3_val R78_3_tab
      simp only [allP, Con.h, and_true]
      repeat' with_reducible apply And.intro
      all_goals first | omega | skip
      all_goals repeat' (first | exact nn8.2 hx | exact nn8.2 d1 | exact nn8.2 d2 | exact nn8.2 d3 | exact nn8.2 z | apply nn_xor)
    · rw [times_9 x hx]
      refine small_of (R := R78_9 x) eM0_ok hmA (f := 78) (fn := f78) (by kernel_rfl) (by kernel_rfl) FnOrc.nil rfl (R78_9_ok ?_) R78_9_val R78_9_tab
      simp only [allP, Con.h, and_true]
      repeat' with_reducible apply And.intro
      all_goals first | omega | skip
      all_goals repeat' (first | exact nn8.2 hx | exact nn8.2 d1 | exact nn8.2 d2 | exact nn8.2 d3 | exact nn8.2 z | apply nn_xor)
    · rw [times_11 x hx]
      refine small_of (R := R78_11 x) eM0_ok hmA (f := 78) (fn := f78) (by kernel_rfl) (by kernel_rfl) FnOrc.nil rfl (R78_11_ok ?_) R78_11_val R78_11_tab
      simp only [allP, Con.h, and_true]
      repeat' with_reducible apply And.intro
      all_goals first | omega | skip
      all_goals repeat' (first | exact nn8.2 hx | exact nn8.2 d1 | exact nn8.2 d2 | exact nn8.2 d3 | exact nn8.2 z | apply nn_xor)
    · rw [times_13 x hx]
      refine small_of (R := R78_13 x) eM0_ok hmA (f := 78) (fn := f78) (by kernel_rfl) (by kernel_rfl) FnOrc.nil rfl (R78_13_ok ?_) R78_13_val R78_13_tab
      simp only [allP, Con.h, and_true]
      repeat' with_reducible apply And.intro
      all_goals first | omega | skip
      all_goals repeat' (first | exact nn8.2 hx | exact nn8.2 d1 | exact nn8.2 d2 | exact nn8.2 d3 | exact nn8.2 z | apply nn_xor)
    · rw [times_14 x hx]
      refine small_of (R := R78_14 x) eM0_ok hmA (f := 78) (fn := f78) (by kernel_rfl) (by kernel_rfl) FnOrc.nil rfl (R78_14_ok ?_) R78_14_val R78_14_tab
      simp only [allP, Con.h, and_true]
      repeat' with_reducible apply And.intro
      all_goals first | omega | skip
      all_goals repeat' (first | exact nn8.2 hx | exact nn8.2 d1 | exact nn8.2 d2 | exact nn8.2 d3 | exact nn8.2 z | apply nn_xor)
  · exact absurd hc nofail
def S78 : Summary := callR sm78 []
theorem S78_ok : SumOk prog (fun _ => none) 78 S78 := callR_ok sm78_ok []
end Go.Abs
