/- What functions of the given program come to, by the abstract machine: one text of a proof. -/
import Derived.Test.YtlnflmjgnmljeaaSA1
set_option linter.unusedVariables false
set_option linter.unusedSimpArgs false
namespace Go.Abs
open Go.Proofs.Try
/-! ### Times, of the document -/
noncomputable def R67tt (a b p x i : Int) : Out := trim 0 0 [0,1,5,6,7] (run (eA []) 31 ⟨0, []⟩ 100 (roundOf 0 f67) [(0, .int .u8 a), (1, .int .u8 b),(5,.int .i64 p),(6,.int .i64 x),(7,.int .i64 i)] [] [some true, some true, some true])
theorem R67tt_ok {a b p x i : Int} (h : allP [Con.p (decide (i < 8) = true), Con.rng 0 i 18446744073709551615, Con.rng 0 i 8, Con.nn IntKind.u8 (b / 2 ^ i.toNat),
    Con.p ((iand (b / 2 ^ i.toNat) 1 == 1) = true), Con.nn IntKind.i64 p, Con.nn IntKind.i64 x,
    Con.rng (-9223372036854775808) (x * 2) 9223372036854775807, Con.p (decide (255 < x * 2) = true),
    Con.nn IntKind.i64 (x * 2), Con.rng (-9223372036854775808) (i + 1) 9223372036854775807]) : Ok (R67tt a b p x i) := Ok.dem (fl := [false, false, false, false, true, false, false, false, false, false, false, true, false]) (by kernel_rfl) (by kernel_rfl) (by kernel_rfl) h
theorem R67tt_ex {a b p x i : Int} : (R67tt a b p x i).ex = AExit.normal := by kernel_rfl
theorem R67tt_fm {a b p x i : Int} : (R67tt a b p x i).fm = [(0, AVal.int IntKind.u8 a), (1, AVal.int IntKind.u8 b), (5, AVal.int IntKind.i64 (ixor p x)),
    (6, AVal.int IntKind.i64 (ixor (x * 2) 283)), (7, AVal.int IntKind.i64 (i + 1))] := by kernel_rfl
theorem R67tt_tab {a b p x i : Int} : (R67tt a b p x i).tab = [] := by kernel_rfl
noncomputable def R67tf (a b p x i : Int) : Out := trim 0 0 [0,1,5,6,7] (run (eA []) 31 ⟨0, []⟩ 100 (roundOf 0 f67) [(0, .int .u8 a), (1, .int .u8 b),(5,.int .i64 p),(6,.int .i64 x),(7,.int .i64 i)] [] [some true, some true, some false])
theorem R67tf_ok {a b p x i : Int} (h : allP [Con.p (decide (i < 8) = true), Con.rng 0 i 18446744073709551615, Con.rng 0 i 8, Con.nn IntKind.u8 (b / 2 ^ i.toNat),
    Con.p ((iand (b / 2 ^ i.toNat) 1 == 1) = true), Con.nn IntKind.i64 p, Con.nn IntKind.i64 x,
    Con.rng (-9223372036854775808) (x * 2) 9223372036854775807, Con.p (decide (255 < x * 2) = false),
    Con.rng (-9223372036854775808) (i + 1) 9223372036854775807]) : Ok (R67tf a b p x i) := Ok.dem (fl := [false, false, false, false, true, false, false, false, false, false, false]) (by kernel_rfl) (by kernel_rfl) (by kernel_rfl) h
theorem R67tf_ex {a b p x i : Int} : (R67tf a b p x i).ex = AExit.normal := by kernel_rfl
theorem R67tf_fm {a b p x i : Int} : (R67tf a b p x i).fm = [(0, AVal.int IntKind.u8 a), (1, AVal.int IntKind.u8 b), (5, AVal.int IntKind.i64 (ixor p x)),
    (6, AVal.int IntKind.i64 (x * 2)), (7, AVal.int IntKind.i64 (i + 1))] := by kernel_rfl
theorem R67tf_tab {a b p x i : Int} : (R67tf a b p x i).tab = [] := by kernel_rfl
noncomputable def R67ft (a b p x i : Int) : Out := trim 0 0 [0,1,5,6,7] (run (eA []) 31 ⟨0, []⟩ 100 (roundOf 0 f67) [(0, .int .u8 a), (1, .int .u8 b),(5,.int .i64 p),(6,.int .i64 x),(7,.int .i64 i)] [] [some true, some false, some true])
theorem R67ft_ok {a b p x i : Int} (h : allP [Con.p (decide (i < 8) = true), Con.rng 0 i 18446744073709551615, Con.rng 0 i 8, Con.nn IntKind.u8 (b / 2 ^ i.toNat),
    Con.p ((iand (b / 2 ^ i.toNat) 1 == 1) = false), Con.rng (-9223372036854775808) (x * 2) 9223372036854775807,
    Con.p (decide (255 < x * 2) = true), Con.nn IntKind.i64 (x * 2),
    Con.rng (-9223372036854775808) (i + 1) 9223372036854775807]) : Ok (R67ft a b p x i) := Ok.dem (fl := [false, false, false, false, true, false, false, false, false, true, false]) (by kernel_rfl) (by kernel_rfl) (by kernel_rfl) h
theorem R67ft_ex {a b p x i : Int} : (R67ft a b p x i).ex = AExit.normal := by kernel_rfl
theorem R67ft_fm {a b p x i : Int} : (R67ft a b p x i).fm = [(0, AVal.int IntKind.u8 a), (1, AVal.int IntKind.u8 b), (5, AVal.int IntKind.i64 p),
    (6, AVal.int IntKind.i64 (ixor (x * 2) 283)), (7, AVal.int IntKind.i64 (i + 1))] := by kernel_rfl
theorem R67ft_tab {a b p x i : Int} : (R67ft a b p x i).tab = [] := by kernel_rfl
noncomputable def R67ff (a b p x i : Int) : Out := trim 0 0 [0,1,5,6,7] (run (eA []) 31 ⟨0, []⟩ 100 (roundOf 0 f67) [(0, .int .u8 a), (1, .int .u8 b),(5,.int .i64 p),(6,.int .i64 x),(7,.int .i64 i)] [] [some true, some false, some false])
theorem R67ff_ok {a b p x i : Int} (h : allP [Con.p (decide (i < 8) = true), Con.rng 0 i 18446744073709551615, Con.rng 0 i 8, Con.nn IntKind.u8 (b / 2 ^ i.toNat),
    Con.p ((iand (b / 2 ^ i.toNat) 1 == 1) = false), Con.rng (-9223372036854775808) (x * 2) 9223372036854775807,
    Con.p (decide (255 < x * 2) = false), Con.rng (-9223372036854775808) (i + 1) 9223372036854775807]) : Ok (R67ff a b p x i) := Ok.dem (fl := [false, false, false, false, true, false, false, false, false]) (by kernel_rfl) (by kernel_rfl) (by kernel_rfl) h
theorem R67ff_ex {a b p x i : Int} : (R67ff a b p x i).ex = AExit.normal := by kernel_rfl
theorem R67ff_fm {a b p x i : Int} : (R67ff a b p x i).fm = [(0, AVal.int IntKind.u8 a), (1, AVal.int IntKind.u8 b), (5, AVal.int IntKind.i64 p),
    (6, AVal.int IntKind.i64 (x * 2)), (7, AVal.int IntKind.i64 (i + 1))] := by kernel_rfl
theorem R67ff_tab {a b p x i : Int} : (R67ff a b p x i).tab = [] := by kernel_rfl
noncomputable def L67 (a b p x i : Int) : Out := trim 0 0 [0,1,5,6,7] (run (eA []) 31 ⟨0, []⟩ 100 (roundOf 0 f67) [(0, .int .u8 a), (1, .int .u8 b),(5,.int .i64 p),(6,.int .i64 x),(7,.int .i64 i)] [] [some false])
theorem L67_ok {a b p x i : Int} (h : allP [Con.p (decide (i < 8) = false)]) : Ok (L67 a b p x i) := Ok.dem (fl := [false]) (by kernel_rfl) (by kernel_rfl) (by kernel_rfl) h
theorem L67_ex {a b p x i : Int} : (L67 a b p x i).ex = AExit.exit 0 := by kernel_rfl
theorem L67_fm {a b p x i : Int} : (L67 a b p x i).fm = [(0, AVal.int IntKind.u8 a), (1, AVal.int IntKind.u8 b), (5, AVal.int IntKind.i64 p), (6, AVal.int IntKind.i64 x),
    (7, AVal.int IntKind.i64 i)] := by kernel_rfl
theorem L67_tab {a b p x i : Int} : (L67 a b p x i).tab = [] := by kernel_rfl
theorem ediv_pow_bounds {b : Int} (h0 : 0 ≤ b) (hb : b < 256) (k : Nat) : 0 ≤ b / 2 ^ k ∧ b / 2 ^ k < 256 := by
  have hp : (0 : Int) < 2 ^ k := Int.pow_pos (by decide)
  have h1 : (1 : Int) ≤ 2 ^ k := hp
  exact ⟨Int.ediv_nonneg h0 (Int.le_of_lt hp), Int.lt_of_le_of_lt (Int.ediv_le_self _ h0) hb⟩
def txLaw (a : Int) : Nat → Int
  | 0 => a
  | i + 1 => if 255 < txLaw a i * 2 then ixor (txLaw a i * 2) 283 else txLaw a i * 2
def tpLaw (a b : Int) : Nat → Int
  | 0 => 0
  | i + 1 => if (iand (b / 2 ^ i) 1 == 1) = true then ixor (tpLaw a b i) (txLaw a i) else tpLaw a b i
theorem xor283 : ∀ y, y < 512 → 255 < y → y ^^^ 283 < 256 := by
  have : ((List.range 512).all fun y => !decide (255 < y) || decide (y ^^^ 283 < 256)) = true := by decide +kernel
  intro y hy h
  have := List.all_eq_true.1 this y (List.mem_range.2 hy)
  simpa [h] using this
theorem txLaw_lt {a : Int} (ha : 0 ≤ a ∧ a < 256) : ∀ i, 0 ≤ txLaw a i ∧ txLaw a i < 256
  | 0 => ha
  | i + 1 => by
    have := txLaw_lt ha i
    unfold txLaw
    split
    · have := xor283 (txLaw a i * 2).toNat (by omega) (by omega)
      unfold ixor
      simp only [show (283 : Int).toNat = 283 from rfl]
      omega
    · omega
theorem ixor_lt8 {a b : Int} (ha : 0 ≤ a ∧ a < 256) (hb : 0 ≤ b ∧ b < 256) : 0 ≤ ixor a b ∧ ixor a b < 256 := by
  have := Nat.xor_lt_two_pow (n := 8) (x := a.toNat) (y := b.toNat) (by omega) (by omega)
  unfold ixor; omega
theorem tpLaw_lt {a b : Int} (ha : 0 ≤ a ∧ a < 256) : ∀ i, 0 ≤ tpLaw a b i ∧ tpLaw a b i < 256
  | 0 => by simp [tpLaw]
  | i + 1 => by
    unfold tpLaw
    split
    · exact ixor_lt8 (tpLaw_lt ha i) (txLaw_lt ha i)
    · exact tpLaw_lt ha i
def F67 (a b : Int) (i : Nat) : Fm := [(0, .int .u8 a), (1, .int .u8 b), (5, .int .i64 (tpLaw a b i)), (6, .int .i64 (txLaw a i)), (7, .int .i64 i)]
theorem loop67 {a b : Int} (ha : 0 ≤ a ∧ a < 256) (hb : 0 ≤ b ∧ b < 256) : To (eA []) 31 0 (.block 0 (.loop (roundOf 0 f67))) (F67 a b 0) [] .normal (F67 a b 8) [] := by
  refine To.rounds (F67 a b) (fun _ => []) 8 (fun i hi => ?_) ?_
  · have hx := txLaw_lt ha i
    have hp := tpLaw_lt (b := b) ha i
    have hd := ediv_pow_bounds hb.1 hb.2 i
    have e1 : tpLaw a b (i + 1) = if (iand (b / 2 ^ i) 1 == 1) = true then ixor (tpLaw a b i) (txLaw a i) else tpLaw a b i := rfl
    have e2 : txLaw a (i + 1) = if 255 < txLaw a i * 2 then ixor (txLaw a i * 2) 283 else txLaw a i * 2 := rfl
    by_cases h1 : (iand (b / 2 ^ i) 1 == 1) = true <;> by_cases h2 : 255 < txLaw a i * 2
    · rw [if_pos h1] at e1; rw [if_pos h2] at e2
      exact To.of (o := R67tt a b (tpLaw a b i) (txLaw a i) i) eA0_ok hmA (Nat.le_refl 0) OrcOk.nil rfl (R67tt_ok (by simp only [allP, Con.h, nonneg, Int.toNat_natCast, decide_eq_true_eq, eq_self, true_and, and_true, h1]; omega)) R67tt_ex (by rw [R67tt_fm]; unfold F67; rw [e1, e2]; rfl) R67tt_tab
    · rw [if_pos h1] at e1; rw [if_neg h2] at e2
      exact To.of (o := R67tf a b (tpLaw a b i) (txLaw a i) i) eA0_ok hmA (Nat.le_refl 0) OrcOk.nil rfl (R67tf_ok (by simp only [allP, Con.h, nonneg, Int.toNat_natCast, decide_eq_true_eq, decide_eq_false_iff_not, eq_self, true_and, and_true, h1]; omega)) R67tf_ex (by rw [R67tf_fm]; unfold F67; rw [e1, e2]; rfl) R67tf_tab
    · rw [if_neg h1] at e1; rw [if_pos h2] at e2
      simp only [Bool.not_eq_true] at h1
      exact To.of (o := R67ft a b (tpLaw a b i) (txLaw a i) i) eA0_ok hmA (Nat.le_refl 0) OrcOk.nil rfl (R67ft_ok (by simp only [allP, Con.h, nonneg, Int.toNat_natCast, decide_eq_true_eq, decide_eq_false_iff_not, eq_self, true_and, and_true, h1]; omega)) R67ft_ex (by rw [R67ft_fm]; unfold F67; rw [e1, e2]; rfl) R67ft_tab
    · rw [if_neg h1] at e1; rw [if_neg h2] at e2
      simp only [Bool.not_eq_true] at h1
      exact To.of (o := R67ff a b (tpLaw a b i) (txLaw a i) i) eA0_ok hmA (Nat.le_refl 0) OrcOk.nil rfl (R67ff_ok (by simp only [allP, Con.h, nonneg, Int.toNat_natCast, decide_eq_true_eq, decide_eq_false_iff_not, eq_self, true_and, and_true, h1]; omega)) R67ff_ex (by rw [R67ff_fm]; unfold F67; rw [e1, e2]; rfl) R67ff_tab
  · exact To.of (o := L67 a b (tpLaw a b 8) (txLaw a 8) (8 : Nat)) eA0_ok hmA (Nat.le_refl 0) OrcOk.nil rfl (L67_ok (by simp [allP, Con.h])) L67_ex L67_fm L67_tab
def g67 : List AVal → Tab → Out := fun vs T => match vs, T with
  | [.int .u8 a, .int .u8 b, .int .i64 p, .int .i64 x, .int .i64 i], [] => ⟨[.rng 0 a 255, .rng 0 b 255, .rng 0 p 0, .rng a x a, .rng 0 i 0], .normal, F67 a b 8, [], []⟩
  | _, _ => failO
theorem g67_ok : BlkOk (eA []) f67 0 (.loop (roundOf 0 f67)) (blkS 0 [0,1,5,6,7] g67) := by
  refine blkS_ok fun vs T h => ?_
  unfold g67 at h ⊢
  split at h
  · rename_i a b p x i
    obtain ⟨h1, h2, h3, h4, h5, _⟩ := h.h
    obtain rfl : p = 0 := by have := h3.1; have := h3.2; omega
    obtain rfl : x = a := by have := h4.1; have := h4.2; omega
    obtain rfl : i = 0 := by have := h5.1; have := h5.2; omega
    exact loop67 ⟨h1.1, by have := h1.2; omega⟩ ⟨h2.1, by have := h2.2; omega⟩
  · exact absurd h nofailO
theorem orc67_ok : FnOrc (eA []) f67 [(0, blkS 0 [0,1,5,6,7] g67)] := FnOrc.cons g67_ok (by kernel_rfl) FnOrc.nil
noncomputable def R67 (a b : Int) : Res := runF (eA []) f67 [(0, blkS 0 [0,1,5,6,7] g67)] 100 [.int .u8 a, .int .u8 b] [] []
theorem R67_ok {a b : Int} (h : allP [Con.rng (-9223372036854775808) a 9223372036854775807, Con.rng 0 a 255, Con.rng 0 b 255, Con.rng a a a]) : OkR (R67 a b) := OkR.dem (fl := [false, false, false, true, false, true]) (by kernel_rfl) (by kernel_rfl) (by kernel_rfl) h
theorem R67_val {a b : Int} : (R67 a b).val = AVal.int IntKind.u8 (tpLaw a b 8 % 256) := by kernel_rfl
theorem R67_tab {a b : Int} : (R67 a b).tab = [] := by kernel_rfl
def timesLaw (a b : Int) : Int := tpLaw a b 8
theorem timesLaw_lt {a b : Int} (ha : 0 ≤ a ∧ a < 256) : 0 ≤ timesLaw a b ∧ timesLaw a b < 256 := tpLaw_lt ha 8
def sm67 : Summary := fun args T => match args, T with
  | [.int .u8 a, .int .u8 b], [] => ⟨[.rng 0 a 255, .rng 0 b 255], .int .u8 (timesLaw a b), []⟩
  | _, _ => fail
theorem sm67_ok : SmOk prog (fun _ => none) 67 sm67 := by
  intro args T hc
  unfold sm67 at hc ⊢
  split at hc
  · rename_i a b
    obtain ⟨h1, h2, _⟩ := hc
    simp only [Con.h] at h1 h2
    have ha : 0 ≤ a ∧ a < 256 := by omega
    have := timesLaw_lt (b := b) ha
    refine small_of (R := R67 a b) eA0_ok hmA (f := 67) (fn := f67) (by kernel_rfl) (by kernel_rfl) orc67_ok rfl (R67_ok ?_) ?_ R67_tab
    · simp only [allP, Con.h, and_true]; omega
    · rw [R67_val]
      show AVal.int .u8 (tpLaw a b 8 % 256) = _
      rw [show tpLaw a b 8 % 256 = timesLaw a b by unfold timesLaw at *; omega]
  · exact absurd hc nofail
def S67 : Summary := callR sm67 []
theorem S67_ok : SumOk prog (fun _ => none) 67 S67 := callR_ok sm67_ok []
end Go.Abs
