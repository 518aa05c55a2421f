/- What functions of the given program come to, by the abstract machine: one text of a proof. -/
import Derived.Test.YtkbfjfookfmobaaDoorTyS
import Derived.Test.YtkbfjfookfmobaaDoorAbs2
set_option linter.unusedVariables false
set_option linter.unusedSimpArgs false
set_option maxRecDepth 8000
namespace Go.Abs
open Go.Proofs Go.Proofs.Tryd
/-! ### words -/
def rotrLaw (W : Nat) (x : Int) (n : Nat) : Int := ior (x / 2 ^ n) (x * 2 ^ (W - n) % 2 ^ W)
def lowLaw (W : Nat) (l : List Int) (x : Int) : Int := ixor (ixor (rotrLaw W x (l.getD 0 0).toNat) (rotrLaw W x (l.getD 1 0).toNat)) (x / 2 ^ (l.getD 2 0).toNat)
def highLaw (W : Nat) (l : List Int) (x : Int) : Int := ixor (ixor (rotrLaw W x (l.getD 0 0).toNat) (rotrLaw W x (l.getD 1 0).toNat)) (rotrLaw W x (l.getD 2 0).toNat)
theorem pow_nat (n : Nat) : (2 : Int) ^ n = ((2 ^ n : Nat) : Int) := by simp
def Wd (W : Nat) (x : Int) : Prop := 0 ≤ x ∧ x < 2 ^ W
theorem wd_iff {W : Nat} {x : Int} : Wd W x ↔ 0 ≤ x ∧ x.toNat < 2 ^ W := by
  unfold Wd; rw [pow_nat]; constructor <;> intro h <;> omega
theorem Wd.ixor {W : Nat} {x y : Int} (hx : Wd W x) (hy : Wd W y) : Wd W (ixor x y) := by
  rw [wd_iff] at *
  refine ⟨by unfold Abs.ixor; omega, ?_⟩
  simp only [Abs.ixor, Int.toNat_natCast]
  exact Nat.xor_lt_two_pow hx.2 hy.2
theorem Wd.ior {W : Nat} {x y : Int} (hx : Wd W x) (hy : Wd W y) : Wd W (ior x y) := by
  rw [wd_iff] at *
  refine ⟨by unfold Abs.ior; omega, ?_⟩
  simp only [Abs.ior, Int.toNat_natCast]
  exact Nat.or_lt_two_pow hx.2 hy.2
theorem Wd.iand {W : Nat} {x y : Int} (hx : Wd W x) : Wd W (iand x y) := by
  rw [wd_iff] at *
  refine ⟨by unfold Abs.iand; omega, ?_⟩
  simp only [Abs.iand, Int.toNat_natCast]
  exact Nat.lt_of_le_of_lt Nat.and_le_left hx.2
theorem Wd.mod (W : Nat) (x : Int) : Wd W (x % 2 ^ W) := by
  have : (0 : Int) < 2 ^ W := by rw [pow_nat]; exact_mod_cast Nat.two_pow_pos W
  exact ⟨Int.emod_nonneg _ (by omega), Int.emod_lt_of_pos _ this⟩
theorem Wd.div {W : Nat} {x : Int} (hx : Wd W x) (n : Nat) : Wd W (x / 2 ^ n) := by
  have h : (0 : Int) < 2 ^ n := by rw [pow_nat]; exact_mod_cast Nat.two_pow_pos n
  exact ⟨Int.ediv_nonneg hx.1 (by omega), Int.lt_of_le_of_lt (Int.ediv_le_self _ hx.1) hx.2⟩
theorem Wd.divk {W : Nat} {x : Int} (hx : Wd W x) {d : Int} (h : 0 < d) : Wd W (x / d) := ⟨Int.ediv_nonneg hx.1 (by omega), Int.lt_of_le_of_lt (Int.ediv_le_self _ hx.1) hx.2⟩
theorem rotr_wd {W : Nat} {x : Int} (hx : Wd W x) (n : Nat) : Wd W (rotrLaw W x n) := (hx.div n).ior (Wd.mod _ _)
theorem low_wd {W : Nat} {x : Int} (hx : Wd W x) (l : List Int) : Wd W (lowLaw W l x) := ((rotr_wd hx _).ixor (rotr_wd hx _)).ixor (hx.div _)
theorem high_wd {W : Nat} {x : Int} (hx : Wd W x) (l : List Int) : Wd W (highLaw W l x) := ((rotr_wd hx _).ixor (rotr_wd hx _)).ixor (rotr_wd hx _)
theorem nn_32 {x : Int} : nonneg .u32 x ↔ Wd 32 x := Iff.rfl
theorem nn_64 {x : Int} : nonneg .u64 x ↔ Wd 64 x := Iff.rfl
noncomputable def S62 : Summary := sumI modeO (eS0 []) f62 [] 100 [] []
theorem S62_ok : SumOk prog glS 62 S62 := sumI_ok eS0_ok hmS (fn := f62) (by kernel_rfl) (by kernel_rfl) [] FnOrc.nil 100 [] []
noncomputable def eU32 : Env := eS0 [(62, S62)]
theorem eU32_ok : EnvOk eU32 := envOf_ok tysS_ok (SumsOk.cons (fn := f62) S62_ok (by kernel_rfl) (by kernel_rfl) (by kernel_rfl) trivial)
def low32Law (l : List Int) : Prop := l = [7, 18, 3] ∨ l = [17, 19, 10]
theorem low32_a : low32Law [7, 18, 3] := .inl rfl
theorem low32_b : low32Law [17, 19, 10] := .inr rfl
noncomputable def R54a (x x0 x1 x2 x3 x4 x5 x6 x7 : Int) (g : Nat) (ow : Bool) : Res := runF eU32 f54 [] 400 [.var 0 g, .int .u32 x, .agg [.int .i64 7, .int .i64 18, .int .i64 3]] [some ⟨.agg [.int .i64 32, .int .i64 64, .int .i64 7, .int .i64 18, .int .i64 3, .int .i64 17, .int .i64 19, .int .i64 10, .int .i64 2, .int .i64 13, .int .i64 22, .int .i64 6, .int .i64 11, .int .i64 25, .int .u32 x0, .int .u32 x1, .int .u32 x2, .int .u32 x3, .int .u32 x4, .int .u32 x5, .int .u32 x6, .int .u32 x7], g, ow, 64⟩] []
theorem R54a_ok {x x0 x1 x2 x3 x4 x5 x6 x7 : Int} {g : Nat} {ow : Bool} (h : allP [.eqN g g, .eqN g g, .eqN g g, .eqN g g, .nn .u32 (x / 128), .nn .u32 (x * 33554432 % 4294967296), .eqN g g, .eqN g g, .eqN g g, .eqN g g, .eqN g g, .eqN g g, .eqN g g, .eqN g g, .nn .u32 (x / 262144), .nn .u32 (x * 16384 % 4294967296), .nn .u32 (ior (x / 128) (x * 33554432 % 4294967296)), .nn .u32 (ior (x / 262144)
 (x * 16384 % 4294967296)), .nn .u32 (ixor (ior (x / 128) (x * 33554432 % 4294967296)) (ior (x / 262144) (x * 16384 % 4294967296))), .nn .u32 (x / 8)]) : OkR (R54a x x0 x1 x2 x3 x4 x5 x6 x7 g ow) := OkR.dem (fl := bitsF 83 864036125932484157797438) (by kernel_rfl) (by kernel_rfl) (by kernel_rfl) h
theorem R54a_val {x x0 x1 x2 x3 x4 x5 x6 x7 : Int} {g : Nat} {ow : Bool} : (R54a x x0 x1 x2 x3 x4 x5 x6 x7 g ow).val = .int .u32 (ixor (ixor (ior (x / 128) (x * 33554432 % 4294967296)) (ior (x / 262144) (x * 16384 % 4294967296))) (x / 8)) := by kernel_rfl
theorem R54a_tab {x x0 x1 x2 x3 x4 x5 x6 x7 : Int} {g : Nat} {ow : Bool} : (R54a x x0 x1 x2 x3 x4 x5 x6 x7 g ow).tab = [some ⟨.agg [.int .i64 32, .int .i64 64, .int .i64 7, .int .i64 18, .int .i64 3, .int .i64 17, .int .i64 19, .int .i64 10, .int .i64 2, .int .i64 13, .int .i64 22, .int .i64 6, .int .i64 11, .int .i64 25, .int .u32 x0, .int .u32 x1, .int .u32 x2, .int .u32 x3, .int .u32 x4, .int
 .u32 x5, .int .u32 x6, .int .u32 x7], g, ow, 64⟩, some ⟨.agg [.int .i64 7, .int .i64 18, .int .i64 3], 0, true, 48⟩] := by kernel_rfl
noncomputable def R54b (x x0 x1 x2 x3 x4 x5 x6 x7 : Int) (g : Nat) (ow : Bool) : Res := runF eU32 f54 [] 400 [.var 0 g, .int .u32 x, .agg [.int .i64 17, .int .i64 19, .int .i64 10]] [some ⟨.agg [.int .i64 32, .int .i64 64, .int .i64 7, .int .i64 18, .int .i64 3, .int .i64 17, .int .i64 19, .int .i64 10, .int .i64 2, .int .i64 13, .int .i64 22, .int .i64 6, .int .i64 11, .int .i64 25, .int .u32 x0, .int .u32 x1, .int .u32 x2, .int .u32 x3, .int .u32 x4, .int .u32 x5, .int .u32 x6, .int .u32 x7], g, ow, 64⟩] []
theorem R54b_ok {x x0 x1 x2 x3 x4 x5 x6 x7 : Int} {g : Nat} {ow : Bool} (h : allP [.eqN g g, .eqN g g, .eqN g g, .eqN g g, .nn .u32 (x / 131072), .nn .u32 (x * 32768 % 4294967296), .eqN g g, .eqN g g, .eqN g g, .eqN g g, .eqN g g, .eqN g g, .eqN g g, .eqN g g, .nn .u32 (x / 524288), .nn .u32 (x * 8192 % 4294967296), .nn .u32 (ior (x / 131072) (x * 32768 % 4294967296)), .nn .u32 (ior (x / 524288) (x
 * 8192 % 4294967296)), .nn .u32 (ixor (ior (x / 131072) (x * 32768 % 4294967296)) (ior (x / 524288) (x * 8192 % 4294967296))), .nn .u32 (x / 1024)]) : OkR (R54b x x0 x1 x2 x3 x4 x5 x6 x7 g ow) := OkR.dem (fl := bitsF 83 864036125932484157797438) (by kernel_rfl) (by kernel_rfl) (by kernel_rfl) h
theorem R54b_val {x x0 x1 x2 x3 x4 x5 x6 x7 : Int} {g : Nat} {ow : Bool} : (R54b x x0 x1 x2 x3 x4 x5 x6 x7 g ow).val = .int .u32 (ixor (ixor (ior (x / 131072) (x * 32768 % 4294967296)) (ior (x / 524288) (x * 8192 % 4294967296))) (x / 1024)) := by kernel_rfl
theorem R54b_tab {x x0 x1 x2 x3 x4 x5 x6 x7 : Int} {g : Nat} {ow : Bool} : (R54b x x0 x1 x2 x3 x4 x5 x6 x7 g ow).tab = [some ⟨.agg [.int .i64 32, .int .i64 64, .int .i64 7, .int .i64 18, .int .i64 3, .int .i64 17, .int .i64 19, .int .i64 10, .int .i64 2, .int .i64 13, .int .i64 22, .int .i64 6, .int .i64 11, .int .i64 25, .int .u32 x0, .int .u32 x1, .int .u32 x2, .int .u32 x3, .int .u32 x4, .int
 .u32 x5, .int .u32 x6, .int .u32 x7], g, ow, 64⟩, some ⟨.agg [.int .i64 17, .int .i64 19, .int .i64 10], 0, true, 48⟩] := by kernel_rfl
def sm54 : Summary := fun args T => match args, T with
  | [.var 0 g, .int .u32 x, .agg [.int .i64 l0, .int .i64 l1, .int .i64 l2]], [some ⟨.agg [.int .i64 32, .int .i64 64, .int .i64 7, .int .i64 18, .int .i64 3, .int .i64 17, .int .i64 19, .int .i64 10, .int .i64 2, .int .i64 13, .int .i64 22, .int .i64 6, .int .i64 11, .int .i64 25, .int .u32 x0, .int .u32 x1, .int .u32 x2, .int .u32 x3, .int .u32 x4, .int .u32 x5, .int .u32 x6, .int .u32 x7], g', ow, 64⟩] => ⟨[.eqN g g', .p (Wd 32 x), .p (low32Law [l0, l1, l2])], .int .u32 (lowLaw 32 [l0, l1, l2] x), [some ⟨.agg [.int .i64 32, .int .i64 64, .int .i64 7, .int .i64 18, .int .i64 3, .int .i64 17, .int .i64 19, .int .i64 10, .int .i64 2, .int .i64 13, .int .i64 22, .int .i64 6, .int .i64 11, .int .i64 25, .int .u32 x0, .int .u32 x1, .int .u32 x2, .int .u32 x3, .int .u32 x4, .int .u32 x5, .int .u32 x6, .int .u32 x7], g', ow, 64⟩]⟩
  | _, _ => fail
theorem sm54_ok : SmOk prog glS 54 sm54 := by
  intro args T hc
  unfold sm54 at hc ⊢
  split at hc
  · rename_i g x l0 l1 l2 x0 x1 x2 x3 x4 x5 x6 x7 g' ow
    obtain ⟨h1, h2, h3, _⟩ := hc
    simp only [Con.h] at h1 h2 h3
    subst h1
    have hd : ∀ d : Int, 0 < d → Wd 32 (x / d) := fun d h => h2.divk h
    have hm : ∀ y : Int, Wd 32 (y % 2 ^ 32) := fun y => Wd.mod 32 y
    rcases h3 with h3 | h3 <;> (injection h3 with e0 h3; injection h3 with e1 h3; injection h3 with e2 h3; subst e0 e1 e2)
    · refine small_drop (small_of (R := R54a x x0 x1 x2 x3 x4 x5 x6 x7 g ow) eU32_ok hmS (f := 54) (fn := f54) (by kernel_rfl) (by kernel_rfl) FnOrc.nil rfl (R54a_ok ?_) R54a_val R54a_tab)
      simp only [allP, Con.h, nn_32, eq_self, true_and, and_true]
      repeat' with_reducible apply And.intro
      all_goals repeat' (first | exact hd _ (by decide) | exact hm _ | apply Wd.ixor | apply Wd.ior)
    · refine small_drop (small_of (R := R54b x x0 x1 x2 x3 x4 x5 x6 x7 g ow) eU32_ok hmS (f := 54) (fn := f54) (by kernel_rfl) (by kernel_rfl) FnOrc.nil rfl (R54b_ok ?_) R54b_val R54b_tab)
      simp only [allP, Con.h, nn_32, eq_self, true_and, and_true]
      repeat' with_reducible apply And.intro
      all_goals repeat' (first | exact hd _ (by decide) | exact hm _ | apply Wd.ixor | apply Wd.ior)
  · exact absurd hc nofail
def S54 : Summary := callR sm54 []
theorem S54_ok : SumOk prog glS 54 S54 := callR_ok sm54_ok []
def high32Law (l : List Int) : Prop := l = [2, 13, 22] ∨ l = [6, 11, 25]
theorem high32_a : high32Law [2, 13, 22] := .inl rfl
theorem high32_b : high32Law [6, 11, 25] := .inr rfl
noncomputable def R55a (x x0 x1 x2 x3 x4 x5 x6 x7 : Int) (g : Nat) (ow : Bool) : Res := runF eU32 f55 [] 400 [.var 0 g, .int .u32 x, .agg [.int .i64 2, .int .i64 13, .int .i64 22]] [some ⟨.agg [.int .i64 32, .int .i64 64, .int .i64 7, .int .i64 18, .int .i64 3, .int .i64 17, .int .i64 19, .int .i64 10, .int .i64 2, .int .i64 13, .int .i64 22, .int .i64 6, .int .i64 11, .int .i64 25, .int .u32 x0, .int .u32 x1, .int .u32 x2, .int .u32 x3, .int .u32 x4, .int .u32 x5, .int .u32 x6, .int .u32 x7], g, ow, 64⟩] []
theorem R55a_ok {x x0 x1 x2 x3 x4 x5 x6 x7 : Int} {g : Nat} {ow : Bool} (h : allP [.eqN g g, .eqN g g, .eqN g g, .eqN g g, .nn .u32 (x / 4), .nn .u32 (x * 1073741824 % 4294967296), .eqN g g, .eqN g g, .eqN g g, .eqN g g, .eqN g g, .eqN g g, .eqN g g, .eqN g g, .nn .u32 (x / 8192), .nn .u32 (x * 524288 % 4294967296), .nn .u32 (ior (x / 4) (x * 1073741824 % 4294967296)), .nn .u32 (ior (x / 8192) (x *
 524288 % 4294967296)), .nn .u32 (ior (x / 4) (x * 1073741824 % 4294967296)), .nn .u32 (ior (x / 8192) (x * 524288 % 4294967296)), .eqN g g, .eqN g g, .eqN g g, .eqN g g, .eqN g g, .eqN g g, .eqN g g, .eqN g g, .eqN g g, .eqN g g, .eqN g g, .eqN g g, .nn .u32 (x / 4194304), .nn .u32 (x * 1024 % 4294967296), .nn .u32 (ixor (ior (x / 4) (x * 1073741824 % 4294967296)) (ior (x / 8192) (x * 524288 %
 4294967296))), .nn .u32 (ior (x / 4194304) (x * 1024 % 4294967296))]) : OkR (R55a x x0 x1 x2 x3 x4 x5 x6 x7 g ow) := OkR.dem (fl := bitsF 113 289816618740375939446520736674878) (by kernel_rfl) (by kernel_rfl) (by kernel_rfl) h
theorem R55a_val {x x0 x1 x2 x3 x4 x5 x6 x7 : Int} {g : Nat} {ow : Bool} : (R55a x x0 x1 x2 x3 x4 x5 x6 x7 g ow).val = .int .u32 (ixor (ixor (ior (x / 4) (x * 1073741824 % 4294967296)) (ior (x / 8192) (x * 524288 % 4294967296))) (ior (x / 4194304) (x * 1024 % 4294967296))) := by kernel_rfl
theorem R55a_tab {x x0 x1 x2 x3 x4 x5 x6 x7 : Int} {g : Nat} {ow : Bool} : (R55a x x0 x1 x2 x3 x4 x5 x6 x7 g ow).tab = [some ⟨.agg [.int .i64 32, .int .i64 64, .int .i64 7, .int .i64 18, .int .i64 3, .int .i64 17, .int .i64 19, .int .i64 10, .int .i64 2, .int .i64 13, .int .i64 22, .int .i64 6, .int .i64 11, .int .i64 25, .int .u32 x0, .int .u32 x1, .int .u32 x2, .int .u32 x3, .int .u32 x4, .int
 .u32 x5, .int .u32 x6, .int .u32 x7], g, ow, 64⟩, some ⟨.agg [.int .i64 2, .int .i64 13, .int .i64 22], 0, true, 48⟩] := by kernel_rfl
noncomputable def R55b (x x0 x1 x2 x3 x4 x5 x6 x7 : Int) (g : Nat) (ow : Bool) : Res := runF eU32 f55 [] 400 [.var 0 g, .int .u32 x, .agg [.int .i64 6, .int .i64 11, .int .i64 25]] [some ⟨.agg [.int .i64 32, .int .i64 64, .int .i64 7, .int .i64 18, .int .i64 3, .int .i64 17, .int .i64 19, .int .i64 10, .int .i64 2, .int .i64 13, .int .i64 22, .int .i64 6, .int .i64 11, .int .i64 25, .int .u32 x0, .int .u32 x1, .int .u32 x2, .int .u32 x3, .int .u32 x4, .int .u32 x5, .int .u32 x6, .int .u32 x7], g, ow, 64⟩] []
theorem R55b_ok {x x0 x1 x2 x3 x4 x5 x6 x7 : Int} {g : Nat} {ow : Bool} (h : allP [.eqN g g, .eqN g g, .eqN g g, .eqN g g, .nn .u32 (x / 64), .nn .u32 (x * 67108864 % 4294967296), .eqN g g, .eqN g g, .eqN g g, .eqN g g, .eqN g g, .eqN g g, .eqN g g, .eqN g g, .nn .u32 (x / 2048), .nn .u32 (x * 2097152 % 4294967296), .nn .u32 (ior (x / 64) (x * 67108864 % 4294967296)), .nn .u32 (ior (x / 2048) (x *
 2097152 % 4294967296)), .nn .u32 (ior (x / 64) (x * 67108864 % 4294967296)), .nn .u32 (ior (x / 2048) (x * 2097152 % 4294967296)), .eqN g g, .eqN g g, .eqN g g, .eqN g g, .eqN g g, .eqN g g, .eqN g g, .eqN g g, .eqN g g, .eqN g g, .eqN g g, .eqN g g, .nn .u32 (x / 33554432), .nn .u32 (x * 128 % 4294967296), .nn .u32 (ixor (ior (x / 64) (x * 67108864 % 4294967296)) (ior (x / 2048) (x * 2097152 %
 4294967296))), .nn .u32 (ior (x / 33554432) (x * 128 % 4294967296))]) : OkR (R55b x x0 x1 x2 x3 x4 x5 x6 x7 g ow) := OkR.dem (fl := bitsF 113 289816618740375939446520736674878) (by kernel_rfl) (by kernel_rfl) (by kernel_rfl) h
theorem R55b_val {x x0 x1 x2 x3 x4 x5 x6 x7 : Int} {g : Nat} {ow : Bool} : (R55b x x0 x1 x2 x3 x4 x5 x6 x7 g ow).val = .int .u32 (ixor (ixor (ior (x / 64) (x * 67108864 % 4294967296)) (ior (x / 2048) (x * 2097152 % 4294967296))) (ior (x / 33554432) (x * 128 % 4294967296))) := by kernel_rfl
theorem R55b_tab {x x0 x1 x2 x3 x4 x5 x6 x7 : Int} {g : Nat} {ow : Bool} : (R55b x x0 x1 x2 x3 x4 x5 x6 x7 g ow).tab = [some ⟨.agg [.int .i64 32, .int .i64 64, .int .i64 7, .int .i64 18, .int .i64 3, .int .i64 17, .int .i64 19, .int .i64 10, .int .i64 2, .int .i64 13, .int .i64 22, .int .i64 6, .int .i64 11, .int .i64 25, .int .u32 x0, .int .u32 x1, .int .u32 x2, .int .u32 x3, .int .u32 x4, .int
 .u32 x5, .int .u32 x6, .int .u32 x7], g, ow, 64⟩, some ⟨.agg [.int .i64 6, .int .i64 11, .int .i64 25], 0, true, 48⟩] := by kernel_rfl
def sm55 : Summary := fun args T => match args, T with
  | [.var 0 g, .int .u32 x, .agg [.int .i64 l0, .int .i64 l1, .int .i64 l2]], [some ⟨.agg [.int .i64 32, .int .i64 64, .int .i64 7, .int .i64 18, .int .i64 3, .int .i64 17, .int .i64 19, .int .i64 10, .int .i64 2, .int .i64 13, .int .i64 22, .int .i64 6, .int .i64 11, .int .i64 25, .int .u32 x0, .int .u32 x1, .int .u32 x2, .int .u32 x3, .int .u32 x4, .int .u32 x5, .int .u32 x6, .int .u32 x7], g', ow, 64⟩] => ⟨[.eqN g g', .p (Wd 32 x), .p (high32Law [l0, l1, l2])], .int .u32 (highLaw 32 [l0, l1, l2] x), [some ⟨.agg [.int .i64 32, .int .i64 64, .int .i64 7, .int .i64 18, .int .i64 3, .int .i64 17, .int .i64 19, .int .i64 10, .int .i64 2, .int .i64 13, .int .i64 22, .int .i64 6, .int .i64 11, .int .i64 25, .int .u32 x0, .int .u32 x1, .int .u32 x2, .int .u32 x3, .int .u32 x4, .int .u32 x5, .int .u32 x6, .int .u32 x7], g', ow, 64⟩]⟩
  | _, _ => fail
theorem sm55_ok : SmOk prog glS 55 sm55 := by
  intro args T hc
  unfold sm55 at hc ⊢
  split at hc
  · rename_i g x l0 l1 l2 x0 x1 x2 x3 x4 x5 x6 x7 g' ow
    obtain ⟨h1, h2, h3, _⟩ := hc
    simp only [Con.h] at h1 h2 h3
    subst h1
    have hd : ∀ d : Int, 0 < d → Wd 32 (x / d) := fun d h => h2.divk h
    have hm : ∀ y : Int, Wd 32 (y % 2 ^ 32) := fun y => Wd.mod 32 y
    rcases h3 with h3 | h3 <;> (injection h3 with e0 h3; injection h3 with e1 h3; injection h3 with e2 h3; subst e0 e1 e2)
    · refine small_drop (small_of (R := R55a x x0 x1 x2 x3 x4 x5 x6 x7 g ow) eU32_ok hmS (f := 55) (fn := f55) (by kernel_rfl) (by kernel_rfl) FnOrc.nil rfl (R55a_ok ?_) R55a_val R55a_tab)
      simp only [allP, Con.h, nn_32, eq_self, true_and, and_true]
      repeat' with_reducible apply And.intro
      all_goals repeat' (first | exact hd _ (by decide) | exact hm _ | apply Wd.ixor | apply Wd.ior)
    · refine small_drop (small_of (R := R55b x x0 x1 x2 x3 x4 x5 x6 x7 g ow) eU32_ok hmS (f := 55) (fn := f55) (by kernel_rfl) (by kernel_rfl) FnOrc.nil rfl (R55b_ok ?_) R55b_val R55b_tab)
      simp only [allP, Con.h, nn_32, eq_self, true_and, and_true]
      repeat' with_reducible apply And.intro
      all_goals repeat' (first | exact hd _ (by decide) | exact hm _ | apply Wd.ixor | apply Wd.ior)
  · exact absurd hc nofail
def S55 : Summary := callR sm55 []
theorem S55_ok : SumOk prog glS 55 S55 := callR_ok sm55_ok []
noncomputable def S65 : Summary := sumI modeO (eS0 []) f65 [] 100 [] []
theorem S65_ok : SumOk prog glS 65 S65 := sumI_ok eS0_ok hmS (fn := f65) (by kernel_rfl) (by kernel_rfl) [] FnOrc.nil 100 [] []
noncomputable def eU64 : Env := eS0 [(65, S65)]
theorem eU64_ok : EnvOk eU64 := envOf_ok tysS_ok (SumsOk.cons (fn := f65) S65_ok (by kernel_rfl) (by kernel_rfl) (by kernel_rfl) trivial)
def low64Law (l : List Int) : Prop := l = [1, 8, 7] ∨ l = [19, 61, 6]
theorem low64_a : low64Law [1, 8, 7] := .inl rfl
theorem low64_b : low64Law [19, 61, 6] := .inr rfl
noncomputable def R59a (x x0 x1 x2 x3 x4 x5 x6 x7 : Int) (g : Nat) (ow : Bool) : Res := runF eU64 f59 [] 400 [.var 0 g, .int .u64 x, .agg [.int .i64 1, .int .i64 8, .int .i64 7]] [some ⟨.agg [.int .i64 64, .int .i64 80, .int .i64 1, .int .i64 8, .int .i64 7, .int .i64 19, .int .i64 61, .int .i64 6, .int .i64 28, .int .i64 34, .int .i64 39, .int .i64 14, .int .i64 18, .int .i64 41, .int .u64 x0, .int .u64 x1, .int .u64 x2, .int .u64 x3, .int .u64 x4, .int .u64 x5, .int .u64 x6, .int .u64 x7], g, ow, 73⟩] []
theorem R59a_ok {x x0 x1 x2 x3 x4 x5 x6 x7 : Int} {g : Nat} {ow : Bool} (h : allP [.eqN g g, .eqN g g, .eqN g g, .eqN g g, .nn .u64 (x / 2), .nn .u64 (x * 9223372036854775808 % 18446744073709551616), .eqN g g, .eqN g g, .eqN g g, .eqN g g, .eqN g g, .eqN g g, .eqN g g, .eqN g g, .nn .u64 (x / 256), .nn .u64 (x * 72057594037927936 % 18446744073709551616), .nn .u64 (ior (x / 2) (x *
 9223372036854775808 % 18446744073709551616)), .nn .u64 (ior (x / 256) (x * 72057594037927936 % 18446744073709551616)), .nn .u64 (ixor (ior (x / 2) (x * 9223372036854775808 % 18446744073709551616)) (ior (x / 256) (x * 72057594037927936 % 18446744073709551616))), .nn .u64 (x / 128)]) : OkR (R59a x x0 x1 x2 x3 x4 x5 x6 x7 g ow) := OkR.dem (fl := bitsF 83 864036125932484157797438) (by kernel_rfl) (by
 kernel_rfl) (by kernel_rfl) h
theorem R59a_val {x x0 x1 x2 x3 x4 x5 x6 x7 : Int} {g : Nat} {ow : Bool} : (R59a x x0 x1 x2 x3 x4 x5 x6 x7 g ow).val = .int .u64 (ixor (ixor (ior (x / 2) (x * 9223372036854775808 % 18446744073709551616)) (ior (x / 256) (x * 72057594037927936 % 18446744073709551616))) (x / 128)) := by kernel_rfl
theorem R59a_tab {x x0 x1 x2 x3 x4 x5 x6 x7 : Int} {g : Nat} {ow : Bool} : (R59a x x0 x1 x2 x3 x4 x5 x6 x7 g ow).tab = [some ⟨.agg [.int .i64 64, .int .i64 80, .int .i64 1, .int .i64 8, .int .i64 7, .int .i64 19, .int .i64 61, .int .i64 6, .int .i64 28, .int .i64 34, .int .i64 39, .int .i64 14, .int .i64 18, .int .i64 41, .int .u64 x0, .int .u64 x1, .int .u64 x2, .int .u64 x3, .int .u64 x4, .int
 .u64 x5, .int .u64 x6, .int .u64 x7], g, ow, 73⟩, some ⟨.agg [.int .i64 1, .int .i64 8, .int .i64 7], 0, true, 48⟩] := by kernel_rfl
noncomputable def R59b (x x0 x1 x2 x3 x4 x5 x6 x7 : Int) (g : Nat) (ow : Bool) : Res := runF eU64 f59 [] 400 [.var 0 g, .int .u64 x, .agg [.int .i64 19, .int .i64 61, .int .i64 6]] [some ⟨.agg [.int .i64 64, .int .i64 80, .int .i64 1, .int .i64 8, .int .i64 7, .int .i64 19, .int .i64 61, .int .i64 6, .int .i64 28, .int .i64 34, .int .i64 39, .int .i64 14, .int .i64 18, .int .i64 41, .int .u64 x0, .int .u64 x1, .int .u64 x2, .int .u64 x3, .int .u64 x4, .int .u64 x5, .int .u64 x6, .int .u64 x7], g, ow, 73⟩] []
theorem R59b_ok {x x0 x1 x2 x3 x4 x5 x6 x7 : Int} {g : Nat} {ow : Bool} (h : allP [.eqN g g, .eqN g g, .eqN g g, .eqN g g, .nn .u64 (x / 524288), .nn .u64 (x * 35184372088832 % 18446744073709551616), .eqN g g, .eqN g g, .eqN g g, .eqN g g, .eqN g g, .eqN g g, .eqN g g, .eqN g g, .nn .u64 (x / 2305843009213693952), .nn .u64 (x * 8 % 18446744073709551616), .nn .u64 (ior (x / 524288) (x *
 35184372088832 % 18446744073709551616)), .nn .u64 (ior (x / 2305843009213693952) (x * 8 % 18446744073709551616)), .nn .u64 (ixor (ior (x / 524288) (x * 35184372088832 % 18446744073709551616)) (ior (x / 2305843009213693952) (x * 8 % 18446744073709551616))), .nn .u64 (x / 64)]) : OkR (R59b x x0 x1 x2 x3 x4 x5 x6 x7 g ow) := OkR.dem (fl := bitsF 83 864036125932484157797438) (by kernel_rfl) (by
 kernel_rfl) (by kernel_rfl) h
theorem R59b_val {x x0 x1 x2 x3 x4 x5 x6 x7 : Int} {g : Nat} {ow : Bool} : (R59b x x0 x1 x2 x3 x4 x5 x6 x7 g ow).val = .int .u64 (ixor (ixor (ior (x / 524288) (x * 35184372088832 % 18446744073709551616)) (ior (x / 2305843009213693952) (x * 8 % 18446744073709551616))) (x / 64)) := by kernel_rfl
theorem R59b_tab {x x0 x1 x2 x3 x4 x5 x6 x7 : Int} {g : Nat} {ow : Bool} : (R59b x x0 x1 x2 x3 x4 x5 x6 x7 g ow).tab = [some ⟨.agg [.int .i64 64, .int .i64 80, .int .i64 1, .int .i64 8, .int .i64 7, .int .i64 19, .int .i64 61, .int .i64 6, .int .i64 28, .int .i64 34, .int .i64 39, .int .i64 14, .int .i64 18, .int .i64 41, .int .u64 x0, .int .u64 x1, .int .u64 x2, .int .u64 x3, .int .u64 x4, .int
 .u64 x5, .int .u64 x6, .int .u64 x7], g, ow, 73⟩, some ⟨.agg [.int .i64 19, .int .i64 61, .int .i64 6], 0, true, 48⟩] := by kernel_rfl
def sm59 : Summary := fun args T => match args, T with
  | [.var 0 g, .int .u64 x, .agg [.int .i64 l0, .int .i64 l1, .int .i64 l2]], [some ⟨.agg [.int .i64 64, .int .i64 80, .int .i64 1, .int .i64 8, .int .i64 7, .int .i64 19, .int .i64 61, .int .i64 6, .int .i64 28, .int .i64 34, .int .i64 39, .int .i64 14, .int .i64 18, .int .i64 41, .int .u64 x0, .int .u64 x1, .int .u64 x2, .int .u64 x3, .int .u64 x4, .int .u64 x5, .int .u64 x6, .int .u64 x7], g', ow, 73⟩] => ⟨[.eqN g g', .p (Wd 64 x), .p (low64Law [l0, l1, l2])], .int .u64 (lowLaw 64 [l0, l1, l2] x), [some ⟨.agg [.int .i64 64, .int .i64 80, .int .i64 1, .int .i64 8, .int .i64 7, .int .i64 19, .int .i64 61, .int .i64 6, .int .i64 28, .int .i64 34, .int .i64 39, .int .i64 14, .int .i64 18, .int .i64 41, .int .u64 x0, .int .u64 x1, .int .u64 x2, .int .u64 x3, .int .u64 x4, .int .u64 x5, .int .u64 x6, .int .u64 x7], g', ow, 73⟩]⟩
  | _, _ => fail
theorem sm59_ok : SmOk prog glS 59 sm59 := by
  intro args T hc
  unfold sm59 at hc ⊢
  split at hc
  · rename_i g x l0 l1 l2 x0 x1 x2 x3 x4 x5 x6 x7 g' ow
    obtain ⟨h1, h2, h3, _⟩ := hc
    simp only [Con.h] at h1 h2 h3
    subst h1
    have hd : ∀ d : Int, 0 < d → Wd 64 (x / d) := fun d h => h2.divk h
    have hm : ∀ y : Int, Wd 64 (y % 2 ^ 64) := fun y => Wd.mod 64 y
    rcases h3 with h3 | h3 <;> (injection h3 with e0 h3; injection h3 with e1 h3; injection h3 with e2 h3; subst e0 e1 e2)
    · refine small_drop (small_of (R := R59a x x0 x1 x2 x3 x4 x5 x6 x7 g ow) eU64_ok hmS (f := 59) (fn := f59) (by kernel_rfl) (by kernel_rfl) FnOrc.nil rfl (R59a_ok ?_) R59a_val R59a_tab)
      simp only [allP, Con.h, nn_64, eq_self, true_and, and_true]
      repeat' with_reducible apply And.intro
      all_goals repeat' (first | exact hd _ (by decide) | exact hm _ | apply Wd.ixor | apply Wd.ior)
    · refine small_drop (small_of (R := R59b x x0 x1 x2 x3 x4 x5 x6 x7 g ow) eU64_ok hmS (f := 59) (fn := f59) (by kernel_rfl) (by kernel_rfl) FnOrc.nil rfl (R59b_ok ?_) R59b_val R59b_tab)
      simp only [allP, Con.h, nn_64, eq_self, true_and, and_true]
      repeat' with_reducible apply And.intro
      all_goals repeat' (first | exact hd _ (by decide) | exact hm _ | apply Wd.ixor | apply Wd.ior)
  · exact absurd hc nofail
def S59 : Summary := callR sm59 []
theorem S59_ok : SumOk prog glS 59 S59 := callR_ok sm59_ok []
def high64Law (l : List Int) : Prop := l = [28, 34, 39] ∨ l = [14, 18, 41]
theorem high64_a : high64Law [28, 34, 39] := .inl rfl
theorem high64_b : high64Law [14, 18, 41] := .inr rfl
noncomputable def R60a (x x0 x1 x2 x3 x4 x5 x6 x7 : Int) (g : Nat) (ow : Bool) : Res := runF eU64 f60 [] 400 [.var 0 g, .int .u64 x, .agg [.int .i64 28, .int .i64 34, .int .i64 39]] [some ⟨.agg [.int .i64 64, .int .i64 80, .int .i64 1, .int .i64 8, .int .i64 7, .int .i64 19, .int .i64 61, .int .i64 6, .int .i64 28, .int .i64 34, .int .i64 39, .int .i64 14, .int .i64 18, .int .i64 41, .int .u64 x0, .int .u64 x1, .int .u64 x2, .int .u64 x3, .int .u64 x4, .int .u64 x5, .int .u64 x6, .int .u64 x7], g, ow, 73⟩] []
theorem R60a_ok {x x0 x1 x2 x3 x4 x5 x6 x7 : Int} {g : Nat} {ow : Bool} (h : allP [.eqN g g, .eqN g g, .eqN g g, .eqN g g, .nn .u64 (x / 268435456), .nn .u64 (x * 68719476736 % 18446744073709551616), .eqN g g, .eqN g g, .eqN g g, .eqN g g, .eqN g g, .eqN g g, .eqN g g, .eqN g g, .nn .u64 (x / 17179869184), .nn .u64 (x * 1073741824 % 18446744073709551616), .nn .u64 (ior (x / 268435456) (x *
 68719476736 % 18446744073709551616)), .nn .u64 (ior (x / 17179869184) (x * 1073741824 % 18446744073709551616)), .nn .u64 (ior (x / 268435456) (x * 68719476736 % 18446744073709551616)), .nn .u64 (ior (x / 17179869184) (x * 1073741824 % 18446744073709551616)), .eqN g g, .eqN g g, .eqN g g, .eqN g g, .eqN g g, .eqN g g, .eqN g g, .eqN g g, .eqN g g, .eqN g g, .eqN g g, .eqN g g, .nn .u64 (x /
 549755813888), .nn .u64 (x * 33554432 % 18446744073709551616), .nn .u64 (ixor (ior (x / 268435456) (x * 68719476736 % 18446744073709551616)) (ior (x / 17179869184) (x * 1073741824 % 18446744073709551616))), .nn .u64 (ior (x / 549755813888) (x * 33554432 % 18446744073709551616))]) : OkR (R60a x x0 x1 x2 x3 x4 x5 x6 x7 g ow) := OkR.dem (fl := bitsF 113 289816618740375939446520736674878) (by
 kernel_rfl) (by kernel_rfl) (by kernel_rfl) h
theorem R60a_val {x x0 x1 x2 x3 x4 x5 x6 x7 : Int} {g : Nat} {ow : Bool} : (R60a x x0 x1 x2 x3 x4 x5 x6 x7 g ow).val = .int .u64 (ixor (ixor (ior (x / 268435456) (x * 68719476736 % 18446744073709551616)) (ior (x / 17179869184) (x * 1073741824 % 18446744073709551616))) (ior (x / 549755813888) (x * 33554432 % 18446744073709551616))) := by kernel_rfl
theorem R60a_tab {x x0 x1 x2 x3 x4 x5 x6 x7 : Int} {g : Nat} {ow : Bool} : (R60a x x0 x1 x2 x3 x4 x5 x6 x7 g ow).tab = [some ⟨.agg [.int .i64 64, .int .i64 80, .int .i64 1, .int .i64 8, .int .i64 7, .int .i64 19, .int .i64 61, .int .i64 6, .int .i64 28, .int .i64 34, .int .i64 39, .int .i64 14, .int .i64 18, .int .i64 41, .int .u64 x0, .int .u64 x1, .int .u64 x2, .int .u64 x3, .int .u64 x4, .int
 .u64 x5, .int .u64 x6, .int .u64 x7], g, ow, 73⟩, some ⟨.agg [.int .i64 28, .int .i64 34, .int .i64 39], 0, true, 48⟩] := by kernel_rfl
noncomputable def R60b (x x0 x1 x2 x3 x4 x5 x6 x7 : Int) (g : Nat) (ow : Bool) : Res := runF eU64 f60 [] 400 [.var 0 g, .int .u64 x, .agg [.int .i64 14, .int .i64 18, .int .i64 41]] [some ⟨.agg [.int .i64 64, .int .i64 80, .int .i64 1, .int .i64 8, .int .i64 7, .int .i64 19, .int .i64 61, .int .i64 6, .int .i64 28, .int .i64 34, .int .i64 39, .int .i64 14, .int .i64 18, .int .i64 41, .int .u64 x0, .int .u64 x1, .int .u64 x2, .int .u64 x3, .int .u64 x4, .int .u64 x5, .int .u64 x6, .int .u64 x7], g, ow, 73⟩] []
theorem R60b_ok {x x0 x1 x2 x3 x4 x5 x6 x7 : Int} {g : Nat} {ow : Bool} (h : allP [.eqN g g, .eqN g g, .eqN g g, .eqN g g, .nn .u64 (x / 16384), .nn .u64 (x * 1125899906842624 % 18446744073709551616), .eqN g g, .eqN g g, .eqN g g, .eqN g g, .eqN g g, .eqN g g, .eqN g g, .eqN g g, .nn .u64 (x / 262144), .nn .u64 (x * 70368744177664 % 18446744073709551616), .nn .u64 (ior (x / 16384) (x *
 1125899906842624 % 18446744073709551616)), .nn .u64 (ior (x / 262144) (x * 70368744177664 % 18446744073709551616)), .nn .u64 (ior (x / 16384) (x * 1125899906842624 % 18446744073709551616)), .nn .u64 (ior (x / 262144) (x * 70368744177664 % 18446744073709551616)), .eqN g g, .eqN g g, .eqN g g, .eqN g g, .eqN g g, .eqN g g, .eqN g g, .eqN g g, .eqN g g, .eqN g g, .eqN g g, .eqN g g, .nn .u64 (x /
 2199023255552), .nn .u64 (x * 8388608 % 18446744073709551616), .nn .u64 (ixor (ior (x / 16384) (x * 1125899906842624 % 18446744073709551616)) (ior (x / 262144) (x * 70368744177664 % 18446744073709551616))), .nn .u64 (ior (x / 2199023255552) (x * 8388608 % 18446744073709551616))]) : OkR (R60b x x0 x1 x2 x3 x4 x5 x6 x7 g ow) := OkR.dem (fl := bitsF 113 289816618740375939446520736674878) (by
 kernel_rfl) (by kernel_rfl) (by kernel_rfl) h
theorem R60b_val {x x0 x1 x2 x3 x4 x5 x6 x7 : Int} {g : Nat} {ow : Bool} : (R60b x x0 x1 x2 x3 x4 x5 x6 x7 g ow).val = .int .u64 (ixor (ixor (ior (x / 16384) (x * 1125899906842624 % 18446744073709551616)) (ior (x / 262144) (x * 70368744177664 % 18446744073709551616))) (ior (x / 2199023255552) (x * 8388608 % 18446744073709551616))) := by kernel_rfl
theorem R60b_tab {x x0 x1 x2 x3 x4 x5 x6 x7 : Int} {g : Nat} {ow : Bool} : (R60b x x0 x1 x2 x3 x4 x5 x6 x7 g ow).tab = [some ⟨.agg [.int .i64 64, .int .i64 80, .int .i64 1, .int .i64 8, .int .i64 7, .int .i64 19, .int .i64 61, .int .i64 6, .int .i64 28, .int .i64 34, .int .i64 39, .int .i64 14, .int .i64 18, .int .i64 41, .int .u64 x0, .int .u64 x1, .int .u64 x2, .int .u64 x3, .int .u64 x4, .int
 .u64 x5, .int .u64 x6, .int .u64 x7], g, ow, 73⟩, some ⟨.agg [.int .i64 14, .int .i64 18, .int .i64 41], 0, true, 48⟩] := by kernel_rfl
def sm60 : Summary := fun args T => match args, T with
  | [.var 0 g, .int .u64 x, .agg [.int .i64 l0, .int .i64 l1, .int .i64 l2]], [some ⟨.agg [.int .i64 64, .int .i64 80, .int .i64 1, .int .i64 8, .int .i64 7, .int .i64 19, .int .i64 61, .int .i64 6, .int .i64 28, .int .i64 34, .int .i64 39, .int .i64 14, .int .i64 18, .int .i64 41, .int .u64 x0, .int .u64 x1, .int .u64 x2, .int .u64 x3, .int .u64 x4, .int .u64 x5, .int .u64 x6, .int .u64 x7], g', ow, 73⟩] => ⟨[.eqN g g', .p (Wd 64 x), .p (high64Law [l0, l1, l2])], .int .u64 (highLaw 64 [l0, l1, l2] x), [some ⟨.agg [.int .i64 64, .int .i64 80, .int .i64 1, .int .i64 8, .int .i64 7, .int .i64 19, .int .i64 61, .int .i64 6, .int .i64 28, .int .i64 34, .int .i64 39, .int .i64 14, .int .i64 18, .int .i64 41, .int .u64 x0, .int .u64 x1, .int .u64 x2, .int .u64 x3, .int .u64 x4, .int .u64 x5, .int .u64 x6, .int .u64 x7], g', ow, 73⟩]⟩
  | _, _ => fail
theorem sm60_ok : SmOk prog glS 60 sm60 := by
  intro args T hc
  unfold sm60 at hc ⊢
  split at hc
  · rename_i g x l0 l1 l2 x0 x1 x2 x3 x4 x5 x6 x7 g' ow
    obtain ⟨h1, h2, h3, _⟩ := hc
    simp only [Con.h] at h1 h2 h3
    subst h1
    have hd : ∀ d : Int, 0 < d → Wd 64 (x / d) := fun d h => h2.divk h
    have hm : ∀ y : Int, Wd 64 (y % 2 ^ 64) := fun y => Wd.mod 64 y
    rcases h3 with h3 | h3 <;> (injection h3 with e0 h3; injection h3 with e1 h3; injection h3 with e2 h3; subst e0 e1 e2)
    · refine small_drop (small_of (R := R60a x x0 x1 x2 x3 x4 x5 x6 x7 g ow) eU64_ok hmS (f := 60) (fn := f60) (by kernel_rfl) (by kernel_rfl) FnOrc.nil rfl (R60a_ok ?_) R60a_val R60a_tab)
      simp only [allP, Con.h, nn_64, eq_self, true_and, and_true]
      repeat' with_reducible apply And.intro
      all_goals repeat' (first | exact hd _ (by decide) | exact hm _ | apply Wd.ixor | apply Wd.ior)
    · refine small_drop (small_of (R := R60b x x0 x1 x2 x3 x4 x5 x6 x7 g ow) eU64_ok hmS (f := 60) (fn := f60) (by kernel_rfl) (by kernel_rfl) FnOrc.nil rfl (R60b_ok ?_) R60b_val R60b_tab)
      simp only [allP, Con.h, nn_64, eq_self, true_and, and_true]
      repeat' with_reducible apply And.intro
      all_goals repeat' (first | exact hd _ (by decide) | exact hm _ | apply Wd.ixor | apply Wd.ior)
  · exact absurd hc nofail
def S60 : Summary := callR sm60 []
theorem S60_ok : SumOk prog glS 60 S60 := callR_ok sm60_ok []
end Go.Abs
