/- What functions of the given program come to, by the abstract machine: one text of a proof. -/
import Derived.Test.YtlnflmjgnmljeaaBA5
import Derived.Test.YtlnflmjgnmljeaaAbs2
set_option linter.unusedVariables false
set_option linter.unusedSimpArgs false
set_option maxRecDepth 8000
namespace Go.Abs
open Go.Proofs.Try
noncomputable def R66t (x : Int) : Res := runF (eA []) f66 [] 100 [.int .u8 x] [] [some true]
theorem R66t_ok {x : Int} (h : allP [Con.nn IntKind.u8 x, Con.p ((iand x 128 != 0) = true), Con.nn IntKind.u8 (x * 2 % 256)]) : OkR (R66t x) := OkR.dem (fl := [true, false, true, false, false, true]) (by kernel_rfl) (by kernel_rfl) (by kernel_rfl) h
theorem R66t_val {x : Int} : (R66t x).val = AVal.int IntKind.u8 (ixor (x * 2 % 256) 27) := by kernel_rfl
theorem R66t_tab {x : Int} : (R66t x).tab = [] := by kernel_rfl
noncomputable def R66f (x : Int) : Res := runF (eA []) f66 [] 100 [.int .u8 x] [] [some false]
theorem R66f_ok {x : Int} (h : allP [Con.nn IntKind.u8 x, Con.p ((iand x 128 != 0) = false)]) : OkR (R66f x) := OkR.dem (fl := [true, false, true, false]) (by kernel_rfl) (by kernel_rfl) (by kernel_rfl) h
theorem R66f_val {x : Int} : (R66f x).val = AVal.int IntKind.u8 (x * 2 % 256) := by kernel_rfl
theorem R66f_tab {x : Int} : (R66f x).tab = [] := by kernel_rfl
def dblLaw (x : Int) : Int := if iand x 128 ≠ 0 then ixor (x * 2 % 256) 27 else x * 2 % 256
theorem dblLaw_lt {x : Int} : 0 ≤ dblLaw x ∧ dblLaw x < 256 := by
  unfold dblLaw
  split
  · exact ixor_lt8 (by omega) (by omega)
  · omega
def sm66 : Summary := fun args T => match args, T with
  | [.int .u8 x], [] => ⟨[.rng 0 x 255], .int .u8 (dblLaw x), []⟩
  | _, _ => fail
theorem sm66_ok : SmOk prog (fun _ => none) 66 sm66 := by
  intro args T hc
  unfold sm66 at hc ⊢
  split at hc
  · rename_i x
    obtain ⟨h1, _⟩ := hc
    simp only [Con.h] at h1
    simp only
    have hx : nonneg .u8 x := by rw [nn8]; omega
    have hx2 : nonneg .u8 (x * 2 % 256) := by rw [nn8]; omega
    unfold dblLaw
    by_cases h : iand x 128 = 0
    · rw [if_neg (by simpa using h)]
      exact small_of (R := R66f x) eA0_ok hmA (f := 66) (fn := f66) (by kernel_rfl) (by kernel_rfl) FnOrc.nil rfl (R66f_ok (by simp [allP, Con.h, h, hx])) R66f_val R66f_tab
    · rw [if_pos h]
      exact small_of (R := R66t x) eA0_ok hmA (f := 66) (fn := f66) (by kernel_rfl) (by kernel_rfl) FnOrc.nil rfl (R66t_ok (by simp [allP, Con.h, h, hx, hx2])) R66t_val R66t_tab
  · exact absurd hc nofail
def S66 : Summary := callR sm66 []
theorem S66_ok : SumOk prog (fun _ => none) 66 S66 := callR_ok sm66_ok []
/-! ### newTable -/
noncomputable def eG : Env := eA [(15, S15)]
theorem eG_ok : EnvOk eG := envOf_ok tysA_ok (SumsOk.cons (fn := f15) S15_ok (by kernel_rfl) (by kernel_rfl) (by kernel_rfl) trivial)
noncomputable def A40 (i : Int) (xs : List Int) : Out := trim 1 1 [1,6] (run eG 27 ⟨1, []⟩ 100 (roundOf 0 f40) [(1, .var 0 0), (6, .int .i64 i)] [some ⟨.ints .u8 xs, 0, true, 72⟩] [some true])
theorem A40_ok {i : Int} {xs : List Int} (h : allP [Con.p (decide (i < 256) = true), Con.rng 0 (i % 256) 255, Con.leI 0 i, Con.leI (i + 1) 256,
    Con.leN (i.toNat + 1) xs.length, Con.leI 0 (boxLaw (i % 256)), Con.leI (boxLaw (i % 256) + 1) 256,
    Con.leN (256 + (boxLaw (i % 256)).toNat + 1) (xs.set i.toNat (boxLaw (i % 256))).length,
    Con.rng (-9223372036854775808) (i + 1) 9223372036854775807]) : Ok (A40 i xs) := Ok.dem (fl := [false, false, false, false, false, false, false, true, true, false, false, true, true, true, false, true, false, true,
    true, false, true, true, false, false, false, true, true, true, false, true, false, false]) (by kernel_rfl) (by kernel_rfl) (by kernel_rfl) h
theorem A40_ex {i : Int} {xs : List Int} : (A40 i xs).ex = AExit.normal := by kernel_rfl
theorem A40_fm {i : Int} {xs : List Int} : (A40 i xs).fm = [(1, AVal.var 0 0), (6, AVal.int IntKind.i64 (i + 1))] := by kernel_rfl
theorem A40_tab {i : Int} {xs : List Int} : (A40 i xs).tab = [some
      {
        data :=
          AVal.ints IntKind.u8 ((xs.set i.toNat (boxLaw (i % 256))).set (256 + (boxLaw (i % 256)).toNat) (i % 256)),
        g := 0, own := true, et := 72 }] := by kernel_rfl
noncomputable def B40 (i : Int) (xs : List Int) : Out := trim 1 1 [1] (run eG 27 ⟨1, []⟩ 100 (roundOf 0 f40) [(1, .var 0 0), (6, .int .i64 i)] [some ⟨.ints .u8 xs, 0, true, 72⟩] [some false])
theorem B40_ok {i : Int} {xs : List Int} (h : allP [Con.p (decide (i < 256) = false)]) : Ok (B40 i xs) := Ok.dem (fl := [false]) (by kernel_rfl) (by kernel_rfl) (by kernel_rfl) h
theorem B40_ex {i : Int} {xs : List Int} : (B40 i xs).ex = AExit.exit 0 := by kernel_rfl
theorem B40_fm {i : Int} {xs : List Int} : (B40 i xs).fm = [(1, AVal.var 0 0)] := by kernel_rfl
theorem B40_tab {i : Int} {xs : List Int} : (B40 i xs).tab = [some { data := AVal.ints IntKind.u8 xs, g := 0, own := true, et := 72 }] := by kernel_rfl
def UNBOXLaw : List Int := [82, 9, 106, 213, 48, 54, 165, 56, 191, 64, 163, 158, 129, 243, 215, 251, 124, 227, 57, 130, 155, 47, 255, 135, 52, 142, 67, 68, 196, 222, 233, 203, 84, 123, 148, 50, 166, 194, 35, 61, 238, 76, 149, 11, 66, 250, 195, 78, 8, 46, 161, 102, 40, 217, 36, 178, 118, 91, 162, 73, 109, 139, 209, 37, 114, 248, 246, 100, 134, 104, 152, 22, 212, 164, 92, 204, 93, 101, 182, 146, 108, 112, 72, 80, 253, 237, 185, 218, 94, 21, 70, 87, 167, 141, 157, 132, 144, 216, 171, 0, 140, 188, 211, 10, 247, 228, 88, 5, 184, 179, 69, 6, 208, 44, 30, 143, 202, 63, 15, 2, 193, 175, 189, 3, 1, 19, 138, 107, 58, 145, 17, 65, 79, 103, 220, 234, 151, 242, 207, 206, 240, 180, 230, 115, 150, 172, 116, 34, 231, 173, 53, 133, 226, 249, 55, 232, 28, 117, 223, 110, 71, 241, 26, 113, 29, 41, 197, 137, 111, 183, 98, 14, 170, 24, 190, 27, 252, 86, 62, 75, 198, 210, 121, 32, 154, 219, 192, 254, 120, 205, 90, 244, 31, 221, 168, 51, 136, 7, 199, 49, 177, 18, 16, 89, 39, 128, 236, 95, 96, 81, 127, 169, 25, 181, 74, 13, 45, 229, 122, 159, 147, 201, 156, 239, 160, 224, 59, 77, 174, 42, 245, 176, 200, 235, 187, 60, 131, 83, 153, 97, 23, 43, 4, 126, 186, 119, 214, 38, 225, 105, 20, 99, 85, 33, 12, 125]
def TABLaw : List Int := BOXLaw ++ UNBOXLaw
def tabLaw : Nat → List Int
  | 0 => List.replicate 512 0
  | i + 1 => ((tabLaw i).set i (boxLaw i)).set (256 + (boxLaw i).toNat) i
theorem tabLaw_len : ∀ i, (tabLaw i).length = 512
  | 0 => by simp [tabLaw]
  | i + 1 => by simp [tabLaw, tabLaw_len i]
theorem tabLaw_eq : tabLaw 256 = TABLaw := by kernel_rfl
theorem boxLaw_rng {x : Int} (h : 0 ≤ x ∧ x < 256) : 0 ≤ boxLaw x ∧ boxLaw x < 256 := by
  have : ((List.range 256).all fun i => decide (0 ≤ BOXLaw.getD i 0) && decide (BOXLaw.getD i 0 < 256)) = true := by kernel_rfl
  have := List.all_eq_true.1 this x.toNat (List.mem_range.2 (by omega))
  simpa [boxLaw] using this
def F40 (i : Nat) : Fm := [(1, .var 0 0), (6, .int .i64 i)]
theorem loop40 : To eG 27 1 (.block 0 (.loop (roundOf 0 f40))) (F40 0) [some ⟨.ints .u8 (tabLaw 0), 0, true, 72⟩] .normal [(1, .var 0 0)] [some ⟨.ints .u8 TABLaw, 0, true, 72⟩] := by
  rw [← tabLaw_eq]
  refine To.rounds F40 (fun i => [some ⟨.ints .u8 (tabLaw i), 0, true, 72⟩]) 256 (fun i hi => ?_) ?_
  · have hl := tabLaw_len i
    have hm : (i : Int) % 256 = i := by omega
    have hb := boxLaw_rng (x := i) (by omega)
    refine To.of (o := A40 i (tabLaw i)) eG_ok hmA (Nat.le_refl 1) OrcOk.nil rfl (A40_ok ?_) A40_ex A40_fm ?_
    · rw [hm]
      generalize boxLaw i = b at hb
      simp only [allP, Con.h, nonneg, Int.toNat_natCast, decide_eq_true_eq, decide_eq_false_iff_not, eq_self, true_and, and_true, Bool.true_eq, addO_eq, mulO_eq, Nat.zero_add, hl, List.length_set]
      omega
    · rw [A40_tab, hm, Int.toNat_natCast]; rfl
  · exact To.of (o := B40 (256 : Nat) (tabLaw 256)) eG_ok hmA (Nat.le_refl 1) OrcOk.nil rfl (B40_ok (by simp [allP, Con.h])) B40_ex B40_fm B40_tab
def g40 : List AVal → Tab → Out := fun vs T => match vs, T with
  | [.var 0 0, .int .i64 i], [some ⟨.ints .u8 xs, 0, true, 72⟩] => ⟨[.rng 0 i 0, .p (xs = tabLaw 0)], .normal, [(1, .var 0 0)], [some ⟨.ints .u8 TABLaw, 0, true, 72⟩], []⟩
  | _, _ => failO
theorem g40_ok : BlkOk eG f40 0 (.loop (roundOf 0 f40)) (blkS 1 [1,6] g40) := by
  refine blkS_ok fun vs T h => ?_
  unfold g40 at h ⊢
  split at h
  · rename_i i xs
    obtain ⟨h1, h2, _⟩ := h.h
    simp only [Con.h] at h1 h2
    obtain rfl : i = 0 := by omega
    subst h2
    exact loop40
  · exact absurd h nofailO
noncomputable def orc40 : OrcL := [(0, blkS 1 [1,6] g40)]
theorem orc40_ok : FnOrc eG f40 orc40 := FnOrc.cons g40_ok (by kernel_rfl) FnOrc.nil
noncomputable def R40  : Res := runF eG f40 orc40 100 [] [] []
theorem R40_ok  (h : allP [Con.p
      ([0, 0, 0, 0, 0, 0, 0, 0, 0, 0, 0, 0, 0, 0, 0, 0, 0, 0, 0, 0, 0, 0, 0, 0, 0, 0, 0, 0, 0, 0, 0, 0, 0, 0, 0, 0, 0,
          0, 0, 0, 0, 0, 0, 0, 0, 0, 0, 0, 0, 0, 0, 0, 0, 0, 0, 0, 0, 0, 0, 0, 0, 0, 0, 0, 0, 0, 0, 0, 0, 0, 0, 0, 0, 0,
          0, 0, 0, 0, 0, 0, 0, 0, 0, 0, 0, 0, 0, 0, 0, 0, 0, 0, 0, 0, 0, 0, 0, 0, 0, 0, 0, 0, 0, 0, 0, 0, 0, 0, 0, 0, 0,
          0, 0, 0, 0, 0, 0, 0, 0, 0, 0, 0, 0, 0, 0, 0, 0, 0, 0, 0, 0, 0, 0, 0, 0, 0, 0, 0, 0, 0, 0, 0, 0, 0, 0, 0, 0, 0,
          0, 0, 0, 0, 0, 0, 0, 0, 0, 0, 0, 0, 0, 0, 0, 0, 0, 0, 0, 0, 0, 0, 0, 0, 0, 0, 0, 0, 0, 0, 0, 0, 0, 0, 0, 0, 0,
          0, 0, 0, 0, 0, 0, 0, 0, 0, 0, 0, 0, 0, 0, 0, 0, 0, 0, 0, 0, 0, 0, 0, 0, 0, 0, 0, 0, 0, 0, 0, 0, 0, 0, 0, 0, 0,
          0, 0, 0, 0, 0, 0, 0, 0, 0, 0, 0, 0, 0, 0, 0, 0, 0, 0, 0, 0, 0, 0, 0, 0, 0, 0, 0, 0, 0, 0, 0, 0, 0, 0, 0, 0, 0,
          0, 0, 0, 0, 0, 0, 0, 0, 0, 0, 0, 0, 0, 0, 0, 0, 0, 0, 0, 0, 0, 0, 0, 0, 0, 0, 0, 0, 0, 0, 0, 0, 0, 0, 0, 0, 0,
          0, 0, 0, 0, 0, 0, 0, 0, 0, 0, 0, 0, 0, 0, 0, 0, 0, 0, 0, 0, 0, 0, 0, 0, 0, 0, 0, 0, 0, 0, 0, 0, 0, 0, 0, 0, 0,
          0, 0, 0, 0, 0, 0, 0, 0, 0, 0, 0, 0, 0, 0, 0, 0, 0, 0, 0, 0, 0, 0, 0, 0, 0, 0, 0, 0, 0, 0, 0, 0, 0, 0, 0, 0, 0,
          0, 0, 0, 0, 0, 0, 0, 0, 0, 0, 0, 0, 0, 0, 0, 0, 0, 0, 0, 0, 0, 0, 0, 0, 0, 0, 0, 0, 0, 0, 0, 0, 0, 0, 0, 0, 0,
          0, 0, 0, 0, 0, 0, 0, 0, 0, 0, 0, 0, 0, 0, 0, 0, 0, 0, 0, 0, 0, 0, 0, 0, 0, 0, 0, 0, 0, 0, 0, 0, 0, 0, 0, 0, 0,
          0, 0, 0, 0, 0, 0, 0, 0, 0, 0, 0, 0, 0, 0, 0, 0, 0, 0, 0, 0, 0, 0, 0, 0, 0, 0, 0, 0, 0, 0, 0, 0, 0, 0, 0, 0, 0,
          0, 0, 0, 0, 0, 0, 0, 0, 0, 0, 0, 0, 0, 0, 0, 0, 0, 0, 0, 0, 0, 0, 0, 0, 0, 0, 0, 0, 0, 0, 0] =
        tabLaw 0)]) : OkR (R40 ) := OkR.dem (fl := [true, false]) (by kernel_rfl) (by kernel_rfl) (by kernel_rfl) h
theorem R40_val  : (R40 ).val = AVal.var 0 0 := by kernel_rfl
theorem R40_tab  : (R40 ).tab = [some { data := AVal.ints IntKind.u8 TABLaw, g := 0, own := true, et := 72 }] := by kernel_rfl
def sm40 : Summary := fun args T => match args, T with
  | [], [] => ⟨[], .var 0 0, [some ⟨.ints .u8 TABLaw, 0, true, 72⟩]⟩
  | _, _ => fail
theorem sm40_ok : SmOk prog (fun _ => none) 40 sm40 := by
  intro args T hc
  unfold sm40 at hc ⊢
  split at hc
  · exact small_of (R := R40) eG_ok hmA (f := 40) (fn := f40) (by kernel_rfl) (by kernel_rfl) orc40_ok rfl (R40_ok ⟨(by show _ = _; kernel_rfl), trivial⟩) R40_val R40_tab
  · exact absurd hc nofail
def S40 : Summary := callR sm40 []
theorem S40_ok : SumOk prog (fun _ => none) 40 S40 := callR_ok sm40_ok []
end Go.Abs
