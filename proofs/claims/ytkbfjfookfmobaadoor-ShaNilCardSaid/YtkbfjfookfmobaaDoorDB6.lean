/- What functions of the given program come to, by the abstract machine: one text of a proof. -/
import Derived.Test.YtkbfjfookfmobaaDoorDB5
set_option linter.unusedVariables false
set_option linter.unusedSimpArgs false
set_option maxRecDepth 8000
namespace Go.Abs
open Go.Proofs Go.Proofs.Tryd
/-! ### the program's sums -/
def subLaw (zs : List Int) (off n : Nat) : List Int := (zs.drop off).take n
theorem subLaw_len {zs : List Int} {off n : Nat} (h : off + n ≤ zs.length) : (subLaw zs off n).length = n := by simp [subLaw]; omega
theorem BsLaw.sub {zs : List Int} (h : BsLaw zs) (off n : Nat) : BsLaw (subLaw zs off n) := by
  intro i
  unfold subLaw
  rw [List.getD_eq_getElem?_getD, List.getElem?_take]
  split
  · rw [List.getElem?_drop]
    have := h (off + i)
    rwa [List.getD_eq_getElem?_getD] at this
  · exact ⟨by decide, by decide⟩
theorem BsLaw.append {a b : List Int} (ha : BsLaw a) (hb : BsLaw b) : BsLaw (a ++ b) := fun i => by
  rcases Nat.lt_or_ge i a.length with h | h
  · rw [getD_left h]; exact ha i
  · rw [List.getD_eq_getElem?_getD, List.getElem?_append_right h, ← List.getD_eq_getElem?_getD]; exact hb _
theorem BsLaw.cons {a : Int} {l : List Int} (ha : 0 ≤ a ∧ a < 256) (hl : BsLaw l) : BsLaw (a :: l) := fun i => match i with
  | 0 => ha
  | i + 1 => hl i
theorem BsLaw.nil : BsLaw [] := fun i => ⟨by simp, by simp⟩
theorem BsLaw.zeros : ∀ n, BsLaw (zeroLaw n)
  | 0 => .nil
  | n + 1 => .cons (by decide) (BsLaw.zeros n)
theorem BsLaw.be (x : Int) : ∀ n, BsLaw (beLaw n x)
  | 0 => .nil
  | n + 1 => .cons (by omega) (BsLaw.be x n)
def capLaw (n : Nat) (cp : Option Nat) : Prop := ∀ c, cp = some c → n ≤ c
def fillLaw (B : Nat) (xs : List Int) : List Int := xs ++ [128] ++ zeroLaw (padLaw B (xs.length + 1)) ++ zeroLaw (B / 8 - 8) ++ beLaw 8 ((xs.length : Int) * 8 % 18446744073709551616)
theorem fill_bs {B : Nat} {xs : List Int} (h : BsLaw xs) : BsLaw (fillLaw B xs) := (((h.append (.cons (by decide) .nil)).append (.zeros _)).append (.zeros _)).append (.be _ _)
theorem fill_len (B : Nat) (xs : List Int) : (fillLaw B xs).length = xs.length + 1 + padLaw B (xs.length + 1) + (B / 8 - 8) + 8 := by
  simp [fillLaw, zero_len, beLaw_len]; omega
/-! width 32 -/
def isPl32Law (pl : List Int) : Prop := pl = [32, 64, 7, 18, 3, 17, 19, 10, 2, 13, 22, 6, 11, 25]
def sum32Law (xs : List Int) : List Int := beLaw 4 (stAt32Law (fillLaw 64 xs) [1779033703, 3144134277, 1013904242, 2773480762, 1359893119, 2600822924, 528734635, 1541459225] ((fillLaw 64 xs).length / 64) 0) ++ beLaw 4 (stAt32Law (fillLaw 64 xs) [1779033703, 3144134277, 1013904242, 2773480762, 1359893119, 2600822924, 528734635, 1541459225] ((fillLaw 64 xs).length / 64) 1) ++ beLaw 4 (stAt32Law (fillLaw 64 xs) [1779033703, 3144134277, 1013904242, 2773480762, 1359893119, 2600822924, 528734635, 1541459225] ((fillLaw 64 xs).length / 64) 2) ++ beLaw 4 (stAt32Law (fillLaw 64 xs) [1779033703, 3144134277, 1013904242, 2773480762, 1359893119, 2600822924, 528734635, 1541459225] ((fillLaw 64 xs).length / 64) 3) ++ beLaw 4 (stAt32Law (fillLaw 64 xs) [1779033703, 3144134277, 1013904242, 2773480762, 1359893119, 2600822924, 528734635, 1541459225] ((fillLaw 64 xs).length / 64) 4) ++ beLaw 4 (stAt32Law (fillLaw 64 xs) [1779033703, 3144134277, 1013904242, 2773480762, 1359893119, 2600822924, 528734635, 1541459225] ((fillLaw 64 xs).length / 64) 5) ++ beLaw 4 (stAt32Law (fillLaw 64 xs) [1779033703, 3144134277, 1013904242, 2773480762, 1359893119, 2600822924, 528734635, 1541459225] ((fillLaw 64 xs).length / 64) 6) ++ beLaw 4 (stAt32Law (fillLaw 64 xs) [1779033703, 3144134277, 1013904242, 2773480762, 1359893119, 2600822924, 528734635, 1541459225] ((fillLaw 64 xs).length / 64) 7)
theorem sum32_len (xs : List Int) : (sum32Law xs).length = 32 := by simp [sum32Law, beLaw_len]
theorem sum32_bs (xs : List Int) : BsLaw (sum32Law xs) := (((((((BsLaw.be _ _).append (.be _ _)).append (.be _ _)).append (.be _ _)).append (.be _ _)).append (.be _ _)).append (.be _ _)).append (.be _ _)
noncomputable def sm33 : Summary := fun args T => match args, T with
  | [.ints .i64 pl, .slice 1 0 g off n cp], [some ⟨.ints .u8 zs, g', false, 5⟩] => ⟨[.p (isPl32Law pl), .eqN g g', .leN (off + n) zs.length, .p (BsLaw zs), .leN n 140737488355000, .p (capLaw n cp)], .slice 1 1 31 0 32 none, [some ⟨.ints .u8 zs, g', false, 5⟩, some ⟨.ints .u8 (sum32Law (subLaw zs off n)), 31, true, 5⟩]⟩
  | _, _ => fail
theorem sum32_dem {zs : List Int} {off n : Nat} (h3 : off + n ≤ zs.length) (h5 : n ≤ 140737488355000) : (List.take (n + 1 + padLaw 64 (n + 1)) (List.take n (List.drop off zs) ++ [128] ++ zeroLaw (padLaw 64 (n + 1))) ++ ([] : List Int) ++ beLaw 8 ((n : Int) * 8 % 18446744073709551616)) = fillLaw 64 (subLaw zs off n) := by
  have hl := subLaw_len h3
  unfold fillLaw
  rw [hl, List.take_of_length_le]
  · rfl
  · rw [List.length_append, List.length_append, zero_len]
    show (subLaw zs off n).length + 1 + _ ≤ _
    omega
theorem sm33_ok : SmOk prog glS 33 sm33 := by
  intro args T hc
  unfold sm33 at hc ⊢
  split at hc
  · rename_i pl g off n cp zs g'
    obtain ⟨h1, h2, h3, h4, h5, h6, _⟩ := hc
    simp only [Con.h] at h1 h2 h3 h4 h5 h6
    have h1 : pl = [32, 64, 7, 18, 3, 17, 19, 10, 2, 13, 22, 6, 11, 25] := h1
    subst h1 h2
    have hd := sum32_dem h3 h5
    have hl := subLaw_len h3
    have hl' : (List.take n (List.drop off zs)).length = n := hl
    have hb : BsLaw (fillLaw 64 (subLaw zs off n)) := fill_bs (h4.sub off n)
    have hf := fill_len 64 (subLaw zs off n)
    have hp := pad64_at (n + 1)
    have hq := pad64_le (n + 1)
    rw [hl] at hf
    have hws : WdsLaw 32 [1779033703, 3144134277, 1013904242, 2773480762, 1359893119, 2600822924, 528734635, 1541459225] := .cons ⟨by decide, by decide⟩ (.cons ⟨by decide, by decide⟩ (.cons ⟨by decide, by decide⟩ (.cons ⟨by decide, by decide⟩ (.cons ⟨by decide, by decide⟩ (.cons ⟨by decide, by decide⟩ (.cons ⟨by decide, by decide⟩ (.cons ⟨by decide, by decide⟩ (.nil 32))))))))
    cases cp with
    | none =>
      refine small_ofG (R := R33n off n 0 g zs) (keep := [0, 5]) eX32_ok hmS (f := 33) (fn := f33) (by kernel_rfl) (by kernel_rfl) orc33_ok rfl (R33n_ok ?_) R33n_val ?_
      · simp only [addO_eq, dropO_eq, Nat.add_zero, hd]
        simp only [allP, Con.h, List.length_append, List.length_take, List.length_drop, zero_len, hf, hb, hws, List.length_cons, List.length_nil, eq_self, true_and, and_true]
        omega
      · rw [R33n_tab]
        simp only [addO_eq, dropO_eq, Nat.add_zero, hd]
        rfl
    | some c =>
      have h7 := h6 c rfl
      refine small_ofG (R := R33s off n c g zs) (keep := [0, 5]) eX32_ok hmS (f := 33) (fn := f33) (by kernel_rfl) (by kernel_rfl) orc33_ok rfl (R33s_ok ?_) R33s_val ?_
      · simp only [addO_eq, dropO_eq, Nat.add_zero, hd]
        simp only [allP, Con.h, List.length_append, List.length_take, List.length_drop, zero_len, hf, hb, hws, List.length_cons, List.length_nil, eq_self, true_and, and_true]
        omega
      · rw [R33s_tab]
        simp only [addO_eq, dropO_eq, Nat.add_zero, hd]
        rfl
  · exact absurd hc nofail
/-! width 64 -/
def isPl64Law (pl : List Int) : Prop := pl = [64, 80, 1, 8, 7, 19, 61, 6, 28, 34, 39, 14, 18, 41]
def sum64Law (xs : List Int) : List Int := beLaw 8 (stAt64Law (fillLaw 128 xs) [7640891576956012808, 13503953896175478587, 4354685564936845355, 11912009170470909681, 5840696475078001361, 11170449401992604703, 2270897969802886507, 6620516959819538809] ((fillLaw 128 xs).length / 128) 0) ++ beLaw 8 (stAt64Law (fillLaw 128 xs) [7640891576956012808, 13503953896175478587, 4354685564936845355, 11912009170470909681, 5840696475078001361, 11170449401992604703, 2270897969802886507, 6620516959819538809] ((fillLaw 128 xs).length / 128) 1) ++ beLaw 8 (stAt64Law (fillLaw 128 xs) [7640891576956012808, 13503953896175478587, 4354685564936845355, 11912009170470909681, 5840696475078001361, 11170449401992604703, 2270897969802886507, 6620516959819538809] ((fillLaw 128 xs).length / 128) 2) ++ beLaw 8 (stAt64Law (fillLaw 128 xs) [7640891576956012808, 13503953896175478587, 4354685564936845355, 11912009170470909681, 5840696475078001361, 11170449401992604703, 2270897969802886507, 6620516959819538809] ((fillLaw 128 xs).length / 128) 3) ++ beLaw 8 (stAt64Law (fillLaw 128 xs) [7640891576956012808, 13503953896175478587, 4354685564936845355, 11912009170470909681, 5840696475078001361, 11170449401992604703, 2270897969802886507, 6620516959819538809] ((fillLaw 128 xs).length / 128) 4) ++ beLaw 8 (stAt64Law (fillLaw 128 xs) [7640891576956012808, 13503953896175478587, 4354685564936845355, 11912009170470909681, 5840696475078001361, 11170449401992604703, 2270897969802886507, 6620516959819538809] ((fillLaw 128 xs).length / 128) 5) ++ beLaw 8 (stAt64Law (fillLaw 128 xs) [7640891576956012808, 13503953896175478587, 4354685564936845355, 11912009170470909681, 5840696475078001361, 11170449401992604703, 2270897969802886507, 6620516959819538809] ((fillLaw 128 xs).length / 128) 6) ++ beLaw 8 (stAt64Law (fillLaw 128 xs) [7640891576956012808, 13503953896175478587, 4354685564936845355, 11912009170470909681, 5840696475078001361, 11170449401992604703, 2270897969802886507, 6620516959819538809] ((fillLaw 128 xs).length / 128) 7)
theorem sum64_len (xs : List Int) : (sum64Law xs).length = 64 := by simp [sum64Law, beLaw_len]
theorem sum64_bs (xs : List Int) : BsLaw (sum64Law xs) := (((((((BsLaw.be _ _).append (.be _ _)).append (.be _ _)).append (.be _ _)).append (.be _ _)).append (.be _ _)).append (.be _ _)).append (.be _ _)
noncomputable def sm37 : Summary := fun args T => match args, T with
  | [.ints .i64 pl, .slice 1 0 g off n cp], [some ⟨.ints .u8 zs, g', false, 5⟩] => ⟨[.p (isPl64Law pl), .eqN g g', .leN (off + n) zs.length, .p (BsLaw zs), .leN n 140737488355000, .p (capLaw n cp)], .slice 1 1 63 0 64 none, [some ⟨.ints .u8 zs, g', false, 5⟩, some ⟨.ints .u8 (sum64Law (subLaw zs off n)), 63, true, 5⟩]⟩
  | _, _ => fail
theorem sum64_dem {zs : List Int} {off n : Nat} (h3 : off + n ≤ zs.length) (h5 : n ≤ 140737488355000) : (List.take (n + 1 + padLaw 128 (n + 1)) (List.take n (List.drop off zs) ++ [128] ++ zeroLaw (padLaw 128 (n + 1))) ++ ([0, 0, 0, 0, 0, 0, 0, 0] : List Int) ++ beLaw 8 ((n : Int) * 8 % 18446744073709551616)) = fillLaw 128 (subLaw zs off n) := by
  have hl := subLaw_len h3
  unfold fillLaw
  rw [hl, List.take_of_length_le]
  · rfl
  · rw [List.length_append, List.length_append, zero_len]
    show (subLaw zs off n).length + 1 + _ ≤ _
    omega
theorem sm37_ok : SmOk prog glS 37 sm37 := by
  intro args T hc
  unfold sm37 at hc ⊢
  split at hc
  · rename_i pl g off n cp zs g'
    obtain ⟨h1, h2, h3, h4, h5, h6, _⟩ := hc
    simp only [Con.h] at h1 h2 h3 h4 h5 h6
    have h1 : pl = [64, 80, 1, 8, 7, 19, 61, 6, 28, 34, 39, 14, 18, 41] := h1
    subst h1 h2
    have hd := sum64_dem h3 h5
    have hl := subLaw_len h3
    have hl' : (List.take n (List.drop off zs)).length = n := hl
    have hb : BsLaw (fillLaw 128 (subLaw zs off n)) := fill_bs (h4.sub off n)
    have hf := fill_len 128 (subLaw zs off n)
    have hp := pad128_at (n + 1)
    have hq := pad128_le (n + 1)
    rw [hl] at hf
    have hws : WdsLaw 64 [7640891576956012808, 13503953896175478587, 4354685564936845355, 11912009170470909681, 5840696475078001361, 11170449401992604703, 2270897969802886507, 6620516959819538809] := .cons ⟨by decide, by decide⟩ (.cons ⟨by decide, by decide⟩ (.cons ⟨by decide, by decide⟩ (.cons ⟨by decide, by decide⟩ (.cons ⟨by decide, by decide⟩ (.cons ⟨by decide, by decide⟩ (.cons ⟨by decide, by decide⟩ (.cons ⟨by decide, by decide⟩ (.nil 64))))))))
    cases cp with
    | none =>
      refine small_ofG (R := R37n off n 0 g zs) (keep := [0, 5]) eX64_ok hmS (f := 37) (fn := f37) (by kernel_rfl) (by kernel_rfl) orc37_ok rfl (R37n_ok ?_) R37n_val ?_
      · simp only [addO_eq, dropO_eq, Nat.add_zero, hd]
        simp only [allP, Con.h, List.length_append, List.length_take, List.length_drop, zero_len, hf, hb, hws, List.length_cons, List.length_nil, eq_self, true_and, and_true]
        omega
      · rw [R37n_tab]
        simp only [addO_eq, dropO_eq, Nat.add_zero, hd]
        rfl
    | some c =>
      have h7 := h6 c rfl
      refine small_ofG (R := R37s off n c g zs) (keep := [0, 5]) eX64_ok hmS (f := 37) (fn := f37) (by kernel_rfl) (by kernel_rfl) orc37_ok rfl (R37s_ok ?_) R37s_val ?_
      · simp only [addO_eq, dropO_eq, Nat.add_zero, hd]
        simp only [allP, Con.h, List.length_append, List.length_take, List.length_drop, zero_len, hf, hb, hws, List.length_cons, List.length_nil, eq_self, true_and, and_true]
        omega
      · rw [R37s_tab]
        simp only [addO_eq, dropO_eq, Nat.add_zero, hd]
        rfl
  · exact absurd hc nofail
end Go.Abs
