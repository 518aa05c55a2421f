/- What functions of the given program come to, by the abstract machine: one text of a proof. -/
import Derived.Test.YtlnflmjgnmljeaaBA2
set_option linter.unusedVariables false
set_option linter.unusedSimpArgs false
set_option maxRecDepth 8000
namespace Go.Abs
open Go.Proofs.Try
/-! ### boxes, of the document -/
noncomputable def eC : Env := eA [(67, S67), (65, S65)]
theorem eC_ok : EnvOk eC := envOf_ok tysA_ok (SumsOk.cons (fn := f67) S67_ok (by kernel_rfl) (by kernel_rfl) (by kernel_rfl) (SumsOk.cons (fn := f65) S65_ok (by kernel_rfl) (by kernel_rfl) (by kernel_rfl) trivial))
noncomputable def A39 (v xs : List Int) (i : Int) (g n : Nat) : Out := trim 2 2 [1,2,3] (run eC 39 ⟨2, []⟩ 400 (roundOf 0 f39) [(1, .slice 1 0 0 0 256 (some 256)), (2, .slice 1 1 g 0 n none), (3, .int .i64 i)] [some ⟨.ints .u8 v, 0, true, 5⟩, some ⟨.ints .u8 xs, g, true, 5⟩] [some true])
theorem A39_ok {v xs : List Int} {i : Int} {g n : Nat} (h : allP [Con.p (decide (i < 256) = true), Con.leI 0 i, Con.leI (i + 1) 256, Con.leN (i.toNat + 1) v.length,
    Con.nn IntKind.u8 (v.getD i.toNat 0), Con.nn IntKind.u8 (v.getD i.toNat 0 * 2 % 256),
    Con.nn IntKind.u8 (v.getD i.toNat 0 / 128), Con.nn IntKind.u8 (ixor (v.getD i.toNat 0) 99),
    Con.nn IntKind.u8 (ior (v.getD i.toNat 0 * 2 % 256) (v.getD i.toNat 0 / 128)),
    Con.nn IntKind.u8 (v.getD i.toNat 0 * 4 % 256), Con.nn IntKind.u8 (v.getD i.toNat 0 / 64),
    Con.nn IntKind.u8 (ixor (ixor (v.getD i.toNat 0) 99) (ior (v.getD i.toNat 0 * 2 % 256) (v.getD i.toNat 0 / 128))),
    Con.nn IntKind.u8 (ior (v.getD i.toNat 0 * 4 % 256) (v.getD i.toNat 0 / 64)),
    Con.nn IntKind.u8 (v.getD i.toNat 0 * 8 % 256), Con.nn IntKind.u8 (v.getD i.toNat 0 / 32),
    Con.nn IntKind.u8
      (ixor (ixor (ixor (v.getD i.toNat 0) 99) (ior (v.getD i.toNat 0 * 2 % 256) (v.getD i.toNat 0 / 128)))
        (ior (v.getD i.toNat 0 * 4 % 256) (v.getD i.toNat 0 / 64))),
    Con.nn IntKind.u8 (ior (v.getD i.toNat 0 * 8 % 256) (v.getD i.toNat 0 / 32)),
    Con.nn IntKind.u8 (v.getD i.toNat 0 * 16 % 256), Con.nn IntKind.u8 (v.getD i.toNat 0 / 16),
    Con.nn IntKind.u8
      (ixor
        (ixor (ixor (ixor (v.getD i.toNat 0) 99) (ior (v.getD i.toNat 0 * 2 % 256) (v.getD i.toNat 0 / 128)))
          (ior (v.getD i.toNat 0 * 4 % 256) (v.getD i.toNat 0 / 64)))
        (ior (v.getD i.toNat 0 * 8 % 256) (v.getD i.toNat 0 / 32))),
    Con.nn IntKind.u8 (ior (v.getD i.toNat 0 * 16 % 256) (v.getD i.toNat 0 / 16)), Con.eqN g g,
    Con.leN (0 + n) xs.length, Con.leN (addO n 1) 140737488355328,
    Con.rng (-9223372036854775808) (i + 1) 9223372036854775807]) : Ok (A39 v xs i g n) := Ok.dem (fl := [false, true, false, false, true, false, false, true, true, true, true, true, true, false, false, false, false, true,
    true, true, true, true, true, false, false, false, false, true, true, true, true, true, true, false, false, false,
    false, true, true, true, true, true, true, false, false, false, false, true, true, true, true, false, false, false,
    true, true, true, false]) (by kernel_rfl) (by kernel_rfl) (by kernel_rfl) h
theorem A39_ex {v xs : List Int} {i : Int} {g n : Nat} : (A39 v xs i g n).ex = AExit.normal := by kernel_rfl
theorem A39_fm {v xs : List Int} {i : Int} {g n : Nat} : (A39 v xs i g n).fm = [(1, AVal.slice 1 0 0 0 256 (some 256)), (2, AVal.slice 1 1 (g + 1) 0 (addO n 1) none),
    (3, AVal.int IntKind.i64 (i + 1))] := by kernel_rfl
theorem A39_tab {v xs : List Int} {i : Int} {g n : Nat} : (A39 v xs i g n).tab = [some { data := AVal.ints IntKind.u8 v, g := 0, own := true, et := 5 },
    some
      {
        data :=
          AVal.ints IntKind.u8
            (List.take n (dropO 0 xs) ++
              [ixor
                  (ixor
                    (ixor
                      (ixor (ixor (v.getD i.toNat 0) 99) (ior (v.getD i.toNat 0 * 2 % 256) (v.getD i.toNat 0 / 128)))
                      (ior (v.getD i.toNat 0 * 4 % 256) (v.getD i.toNat 0 / 64)))
                    (ior (v.getD i.toNat 0 * 8 % 256) (v.getD i.toNat 0 / 32)))
                  (ior (v.getD i.toNat 0 * 16 % 256) (v.getD i.toNat 0 / 16))]),
        g := g + 1, own := true, et := 5 }] := by kernel_rfl
noncomputable def B39 (v xs : List Int) (i : Int) (g n : Nat) : Out := trim 2 2 [2] (run eC 39 ⟨2, []⟩ 400 (roundOf 0 f39) [(1, .slice 1 0 0 0 256 (some 256)), (2, .slice 1 1 g 0 n none), (3, .int .i64 i)] [some ⟨.ints .u8 v, 0, true, 5⟩, some ⟨.ints .u8 xs, g, true, 5⟩] [some false])
theorem B39_ok {v xs : List Int} {i : Int} {g n : Nat} (h : allP [Con.p (decide (i < 256) = false)]) : Ok (B39 v xs i g n) := Ok.dem (fl := [false]) (by kernel_rfl) (by kernel_rfl) (by kernel_rfl) h
theorem B39_ex {v xs : List Int} {i : Int} {g n : Nat} : (B39 v xs i g n).ex = AExit.exit 0 := by kernel_rfl
theorem B39_fm {v xs : List Int} {i : Int} {g n : Nat} : (B39 v xs i g n).fm = [(2, AVal.slice 1 1 g 0 n none)] := by kernel_rfl
theorem B39_tab {v xs : List Int} {i : Int} {g n : Nat} : (B39 v xs i g n).tab = [some { data := AVal.ints IntKind.u8 v, g := 0, own := true, et := 5 },
    some { data := AVal.ints IntKind.u8 xs, g := g, own := true, et := 5 }] := by kernel_rfl
def bxLaw (y : Int) : Int := ixor (ixor (ixor (ixor (ixor y 99) (ior (y * 2 % 256) (y / 128))) (ior (y * 4 % 256) (y / 64))) (ior (y * 8 % 256) (y / 32))) (ior (y * 16 % 256) (y / 16))
def bxsLaw (v : List Int) (i : Nat) : List Int := (List.range i).map fun j => bxLaw (v.getD j 0)
theorem bxsLaw_len (v : List Int) (i : Nat) : (bxsLaw v i).length = i := by simp [bxsLaw]
theorem bxsLaw_succ (v : List Int) (i : Nat) : bxsLaw v (i + 1) = bxsLaw v i ++ [bxLaw (v.getD i 0)] := by simp [bxsLaw, List.range_succ]
def F39 (i : Nat) : Fm := [(1, .slice 1 0 0 0 256 (some 256)), (2, .slice 1 1 i 0 i none), (3, .int .i64 i)]
theorem loop39 {v : List Int} (hv : v.length = 256) (hr : ∀ i, i < 256 → 0 ≤ v.getD i 0 ∧ v.getD i 0 < 256) :
    To eC 39 2 (.block 0 (.loop (roundOf 0 f39))) (F39 0) [some ⟨.ints .u8 v, 0, true, 5⟩, some ⟨.ints .u8 [], 0, true, 5⟩] .normal [(2, .slice 1 1 256 0 256 none)] [some ⟨.ints .u8 v, 0, true, 5⟩, some ⟨.ints .u8 (bxsLaw v 256), 256, true, 5⟩] := by
  refine To.rounds F39 (fun i => [some ⟨.ints .u8 v, 0, true, 5⟩, some ⟨.ints .u8 (bxsLaw v i), i, true, 5⟩]) 256 (fun i hi => ?_) ?_
  · have hy := hr i hi
    have hl := bxsLaw_len v i
    refine To.of (o := A39 v (bxsLaw v i) i i i) eC_ok hmA (Nat.le_refl 2) OrcOk.nil rfl (A39_ok ?_) A39_ex ?_ ?_
    · simp only [Int.toNat_natCast]
      generalize v.getD i 0 = y at hy ⊢
      simp only [allP, Con.h, hl, hv, addO_eq]
      have hy' : nonneg .u8 y := hy
      repeat' with_reducible apply And.intro
      all_goals first | trivial | rfl | omega | (simp only [decide_eq_true_eq]; omega) | skip
      all_goals repeat' (first | exact hy' | (rw [nn8]; omega) | apply nn_xor | apply nn_or)
    · rw [A39_fm, addO_eq]; rfl
    · rw [A39_tab, dropO_eq, List.drop_zero, List.take_of_length_le (by omega), bxsLaw_succ, Int.toNat_natCast]; rfl
  · exact To.of (o := B39 v (bxsLaw v 256) (256 : Nat) 256 256) eC_ok hmA (Nat.le_refl 2) OrcOk.nil rfl (B39_ok (by simp [allP, Con.h])) B39_ex B39_fm B39_tab
theorem INVLaw_len : INVLaw.length = 256 := by kernel_rfl
theorem INVLaw_rng : ∀ i, i < 256 → 0 ≤ INVLaw.getD i 0 ∧ INVLaw.getD i 0 < 256 := by
  have : ((List.range 256).all fun i => decide (0 ≤ INVLaw.getD i 0) && decide (INVLaw.getD i 0 < 256)) = true := by kernel_rfl
  intro i hi
  have := List.all_eq_true.1 this i (List.mem_range.2 hi)
  simpa using this
def BOXLaw : List Int := [99, 124, 119, 123, 242, 107, 111, 197, 48, 1, 103, 43, 254, 215, 171, 118, 202, 130, 201, 125, 250, 89, 71, 240, 173, 212, 162, 175, 156, 164, 114, 192, 183, 253, 147, 38, 54, 63, 247, 204, 52, 165, 229, 241, 113, 216, 49, 21, 4, 199, 35, 195, 24, 150, 5, 154, 7, 18, 128, 226, 235, 39, 178, 117, 9, 131, 44, 26, 27, 110, 90, 160, 82, 59, 214, 179, 41, 227, 47, 132, 83, 209, 0, 237, 32, 252, 177, 91, 106, 203, 190, 57, 74, 76, 88, 207, 208, 239, 170, 251, 67, 77, 51, 133, 69, 249, 2, 127, 80, 60, 159, 168, 81, 163, 64, 143, 146, 157, 56, 245, 188, 182, 218, 33, 16, 255, 243, 210, 205, 12, 19, 236, 95, 151, 68, 23, 196, 167, 126, 61, 100, 93, 25, 115, 96, 129, 79, 220, 34, 42, 144, 136, 70, 238, 184, 20, 222, 94, 11, 219, 224, 50, 58, 10, 73, 6, 36, 92, 194, 211, 172, 98, 145, 149, 228, 121, 231, 200, 55, 109, 141, 213, 78, 169, 108, 86, 244, 234, 101, 122, 174, 8, 186, 120, 37, 46, 28, 166, 180, 198, 232, 221, 116, 31, 75, 189, 139, 138, 112, 62, 181, 102, 72, 3, 246, 14, 97, 53, 87, 185, 134, 193, 29, 158, 225, 248, 152, 17, 105, 217, 142, 148, 155, 30, 135, 233, 206, 85, 40, 223, 140, 161, 137, 13, 191, 230, 66, 104, 65, 153, 45, 15, 176, 84, 187, 22]
theorem BOXLaw_eq : bxsLaw INVLaw 256 = BOXLaw := by kernel_rfl
def g39 : List AVal → Tab → Out := fun vs T => match vs, T with
  | [.slice 1 0 0 0 256 (some 256), .nilSlice, .int .i64 i], [some ⟨.ints .u8 v, 0, true, 5⟩] =>
    ⟨[.rng 0 i 0, .p (v = INVLaw)], .normal, [(2, .slice 1 1 256 0 256 none)], [some ⟨.ints .u8 v, 0, true, 5⟩, some ⟨.ints .u8 BOXLaw, 256, true, 5⟩], []⟩
  | _, _ => failO
theorem g39_ok : BlkOk eC f39 0 (.loop (roundOf 0 f39)) (blkS 1 [1,2,3] g39) := by
  refine blkS_ok fun vs T h => ?_
  unfold g39 at h ⊢
  split at h
  · rename_i i v
    obtain ⟨h1, h2, _⟩ := h.h
    simp only [Con.h] at h1 h2
    obtain rfl : i = 0 := by omega
    subst h2
    have := loop39 INVLaw_len INVLaw_rng
    rw [BOXLaw_eq] at this
    refine AWp.nilTo (F39 0) .u8 5 (fun t v hv => ?_) (To.base (by decide) this)
    simp only [F39, look, zipF] at hv ⊢
    repeat' split at hv
    all_goals first | cases hv | skip
    all_goals first | rfl | simp_all [look]
  · exact absurd h nofailO
noncomputable def orc39 : OrcL := [(0, blkS 1 [1,2,3] g39)]
theorem orc39_ok : FnOrc eC f39 orc39 := FnOrc.cons g39_ok (by kernel_rfl) FnOrc.nil
noncomputable def R39  : Res := runF eC f39 orc39 100 [] [] []
theorem R39_ok  (h : allP [Con.p (INVLaw = INVLaw)]) : OkR (R39 ) := OkR.dem (fl := [true, false]) (by kernel_rfl) (by kernel_rfl) (by kernel_rfl) h
theorem R39_val  : (R39 ).val = AVal.slice 1 1 256 0 256 none := by kernel_rfl
theorem R39_tab  : (R39 ).tab = [some { data := AVal.ints IntKind.u8 INVLaw, g := 0, own := true, et := 5 },
    some { data := AVal.ints IntKind.u8 BOXLaw, g := 256, own := true, et := 5 }] := by kernel_rfl
def sm39 : Summary := fun args T => match args, T with
  | [], [] => ⟨[], .slice 1 1 256 0 256 none, [some ⟨.ints .u8 INVLaw, 0, true, 5⟩, some ⟨.ints .u8 BOXLaw, 256, true, 5⟩]⟩
  | _, _ => fail
theorem sm39_ok : SmOk prog (fun _ => none) 39 sm39 := by
  intro args T hc
  unfold sm39 at hc ⊢
  split at hc
  · exact small_of (R := R39) eC_ok hmA (f := 39) (fn := f39) (by kernel_rfl) (by kernel_rfl) orc39_ok rfl (R39_ok ⟨rfl, trivial⟩) R39_val R39_tab
  · exact absurd hc nofail
def S39 : Summary := callR sm39 []
theorem S39_ok : SumOk prog (fun _ => none) 39 S39 := callR_ok sm39_ok []
end Go.Abs
