/- What functions of the given program come to, by the abstract machine: one text of a proof. -/
import Derived.Test.YtlnflmjgnmljeaaBA1
set_option linter.unusedVariables false
set_option linter.unusedSimpArgs false
set_option maxRecDepth 8000
namespace Go.Abs
open Go.Proofs.Try
/-! ### inverses, of the document -/
noncomputable def eB : Env := eA [(67, S67)]
theorem eB_ok : EnvOk eB := envOf_ok tysA_ok (SumsOk.cons (fn := f67) S67_ok (by kernel_rfl) (by kernel_rfl) (by kernel_rfl) trivial)
noncomputable def A65 (x i : Int) (xs : List Int) (g n : Nat) : Out := trim 1 1 [1,2,3] (run eB 34 ⟨1, []⟩ 100 (roundOf 0 f65) [(1, .slice 1 0 g 0 n none), (2, .int .u8 x), (3, .int .i64 i)] [some ⟨.ints .u8 xs, g, true, 5⟩] [some true])
theorem A65_ok {x i : Int} {xs : List Int} {g n : Nat} (h : allP [Con.p (decide (i < 255) = true), Con.eqN g g, Con.leN (0 + n) xs.length, Con.leN (addO n 1) 140737488355328,
    Con.rng 0 x 255, Con.rng (-9223372036854775808) (i + 1) 9223372036854775807]) : Ok (A65 x i xs g n) := Ok.dem (fl := [false, true, true, true, false, false, false, true, true, true, false, true, false]) (by kernel_rfl) (by kernel_rfl) (by kernel_rfl) h
theorem A65_ex {x i : Int} {xs : List Int} {g n : Nat} : (A65 x i xs g n).ex = AExit.normal := by kernel_rfl
theorem A65_fm {x i : Int} {xs : List Int} {g n : Nat} : (A65 x i xs g n).fm = [(1, AVal.slice 1 0 (g + 1) 0 (addO n 1) none), (2, AVal.int IntKind.u8 (timesLaw x 3)),
    (3, AVal.int IntKind.i64 (i + 1))] := by kernel_rfl
theorem A65_tab {x i : Int} {xs : List Int} {g n : Nat} : (A65 x i xs g n).tab = [some { data := AVal.ints IntKind.u8 (List.take n (dropO 0 xs) ++ [x]), g := g + 1, own := true, et := 5 }] := by kernel_rfl
noncomputable def B65 (x i : Int) (xs : List Int) (g n : Nat) : Out := trim 1 1 [1] (run eB 34 ⟨1, []⟩ 100 (roundOf 0 f65) [(1, .slice 1 0 g 0 n none), (2, .int .u8 x), (3, .int .i64 i)] [some ⟨.ints .u8 xs, g, true, 5⟩] [some false])
theorem B65_ok {x i : Int} {xs : List Int} {g n : Nat} (h : allP [Con.p (decide (i < 255) = false)]) : Ok (B65 x i xs g n) := Ok.dem (fl := [false]) (by kernel_rfl) (by kernel_rfl) (by kernel_rfl) h
theorem B65_ex {x i : Int} {xs : List Int} {g n : Nat} : (B65 x i xs g n).ex = AExit.exit 0 := by kernel_rfl
theorem B65_fm {x i : Int} {xs : List Int} {g n : Nat} : (B65 x i xs g n).fm = [(1, AVal.slice 1 0 g 0 n none)] := by kernel_rfl
theorem B65_tab {x i : Int} {xs : List Int} {g n : Nat} : (B65 x i xs g n).tab = [some { data := AVal.ints IntKind.u8 xs, g := g, own := true, et := 5 }] := by kernel_rfl
noncomputable def C65 (i : Int) (xs ys : List Int) : Out := trim 2 2 [1,4,5] (run eB 34 ⟨2, []⟩ 100 (roundOf 2 f65) [(1, .slice 1 0 255 0 255 none), (4, .slice 1 1 0 0 256 (some 256)), (5, .int .i64 i)] [some ⟨.ints .u8 xs, 255, true, 5⟩, some ⟨.ints .u8 ys, 0, true, 5⟩] [some true])
theorem C65_ok {i : Int} {xs ys : List Int} (h : allP [Con.p (decide (i < 255) = true), Con.leI 0 i, Con.leI (i + 1) 255, Con.leN (i.toNat + 1) xs.length,
    Con.rng (-9223372036854775808) (255 - i) 9223372036854775807, Con.leI 0 ((255 - i).tmod 255),
    Con.leI ((255 - i).tmod 255 + 1) 255, Con.leN (((255 - i).tmod 255).toNat + 1) xs.length,
    Con.leI 0 (xs.getD i.toNat 0), Con.leI (xs.getD i.toNat 0 + 1) 256,
    Con.leN ((xs.getD i.toNat 0).toNat + 1) ys.length, Con.rng (-9223372036854775808) (i + 1) 9223372036854775807]) : Ok (C65 i xs ys) := Ok.dem (fl := [false, false, true, false, false, true, false, false, true, true, false, false, true, false, true, false, false, true,
    true, false, true, false, false]) (by kernel_rfl) (by kernel_rfl) (by kernel_rfl) h
theorem C65_ex {i : Int} {xs ys : List Int} : (C65 i xs ys).ex = AExit.normal := by kernel_rfl
theorem C65_fm {i : Int} {xs ys : List Int} : (C65 i xs ys).fm = [(1, AVal.slice 1 0 255 0 255 none), (4, AVal.slice 1 1 0 0 256 (some 256)), (5, AVal.int IntKind.i64 (i + 1))] := by kernel_rfl
theorem C65_tab {i : Int} {xs ys : List Int} : (C65 i xs ys).tab = [some { data := AVal.ints IntKind.u8 xs, g := 255, own := true, et := 5 },
    some
      { data := AVal.ints IntKind.u8 (ys.set (xs.getD i.toNat 0).toNat (xs.getD ((255 - i).tmod 255).toNat 0)), g := 0,
        own := true, et := 5 }] := by kernel_rfl
noncomputable def D65 (i : Int) (xs ys : List Int) : Out := trim 2 2 [4] (run eB 34 ⟨2, []⟩ 100 (roundOf 2 f65) [(1, .slice 1 0 255 0 255 none), (4, .slice 1 1 0 0 256 (some 256)), (5, .int .i64 i)] [some ⟨.ints .u8 xs, 255, true, 5⟩, some ⟨.ints .u8 ys, 0, true, 5⟩] [some false])
theorem D65_ok {i : Int} {xs ys : List Int} (h : allP [Con.p (decide (i < 255) = false)]) : Ok (D65 i xs ys) := Ok.dem (fl := [false]) (by kernel_rfl) (by kernel_rfl) (by kernel_rfl) h
theorem D65_ex {i : Int} {xs ys : List Int} : (D65 i xs ys).ex = AExit.exit 2 := by kernel_rfl
theorem D65_fm {i : Int} {xs ys : List Int} : (D65 i xs ys).fm = [(4, AVal.slice 1 1 0 0 256 (some 256))] := by kernel_rfl
theorem D65_tab {i : Int} {xs ys : List Int} : (D65 i xs ys).tab = [some { data := AVal.ints IntKind.u8 xs, g := 255, own := true, et := 5 },
    some { data := AVal.ints IntKind.u8 ys, g := 0, own := true, et := 5 }] := by kernel_rfl
def pwLaw : Nat → Int
  | 0 => 1
  | i + 1 => timesLaw (pwLaw i) 3
def pwsLaw (i : Nat) : List Int := (List.range i).map pwLaw
theorem pwLaw_lt : ∀ i, 0 ≤ pwLaw i ∧ pwLaw i < 256
  | 0 => by decide
  | i + 1 => timesLaw_lt (pwLaw_lt i)
theorem pwsLaw_len (i : Nat) : (pwsLaw i).length = i := by simp [pwsLaw]
theorem pwsLaw_succ (i : Nat) : pwsLaw (i + 1) = pwsLaw i ++ [pwLaw i] := by simp [pwsLaw, List.range_succ]
theorem pwsLaw_get {i n : Nat} (h : i < n) : (pwsLaw n).getD i 0 = pwLaw i := by simp [pwsLaw, List.getD, h]
def F65 (i : Nat) : Fm := [(1, .slice 1 0 i 0 i none), (2, .int .u8 (pwLaw i)), (3, .int .i64 i)]
theorem loop65 : To eB 34 1 (.block 0 (.loop (roundOf 0 f65))) (F65 0) [some ⟨.ints .u8 [], 0, true, 5⟩] .normal [(1, .slice 1 0 255 0 255 none)] [some ⟨.ints .u8 (pwsLaw 255), 255, true, 5⟩] := by
  refine To.rounds F65 (fun i => [some ⟨.ints .u8 (pwsLaw i), i, true, 5⟩]) 255 (fun i hi => ?_) ?_
  · have hx := pwLaw_lt i
    have hl := pwsLaw_len i
    refine To.of (o := A65 (pwLaw i) i (pwsLaw i) i i) eB_ok hmA (Nat.le_refl 1) OrcOk.nil rfl (A65_ok (by simp only [allP, Con.h, nonneg, Int.toNat_natCast, decide_eq_true_eq, decide_eq_false_iff_not, eq_self, true_and, and_true, Bool.true_eq, addO_eq, mulO_eq, Nat.zero_add, hl]; omega)) A65_ex ?_ ?_
    · rw [A65_fm, addO_eq]; rfl
    · rw [A65_tab, dropO_eq, List.drop_zero, List.take_of_length_le (by omega), pwsLaw_succ]
  · exact To.of (o := B65 (pwLaw 255) (255 : Nat) (pwsLaw 255) 255 255) eB_ok hmA (Nat.le_refl 1) OrcOk.nil rfl (B65_ok (by simp [allP, Con.h])) B65_ex B65_fm B65_tab
def invLaw (xs : List Int) : Nat → List Int
  | 0 => List.replicate 256 0
  | i + 1 => (invLaw xs i).set (xs.getD i 0).toNat (xs.getD ((255 - i) % 255) 0)
theorem invLaw_len (xs : List Int) : ∀ i, (invLaw xs i).length = 256
  | 0 => by simp [invLaw]
  | i + 1 => by simp [invLaw, invLaw_len xs i]
def G65 (i : Nat) : Fm := [(1, .slice 1 0 255 0 255 none), (4, .slice 1 1 0 0 256 (some 256)), (5, .int .i64 i)]
theorem loop65b {xs : List Int} (hl : xs.length = 255) (hx : ∀ i, i < 255 → 0 ≤ xs.getD i 0 ∧ xs.getD i 0 < 256) :
    To eB 34 2 (.block 2 (.loop (roundOf 2 f65))) (G65 0) [some ⟨.ints .u8 xs, 255, true, 5⟩, some ⟨.ints .u8 (invLaw xs 0), 0, true, 5⟩] .normal [(4, .slice 1 1 0 0 256 (some 256))] [some ⟨.ints .u8 xs, 255, true, 5⟩, some ⟨.ints .u8 (invLaw xs 255), 0, true, 5⟩] := by
  refine To.rounds G65 (fun i => [some ⟨.ints .u8 xs, 255, true, 5⟩, some ⟨.ints .u8 (invLaw xs i), 0, true, 5⟩]) 255 (fun i hi => ?_) ?_
  · have h1 := hx i hi
    have h2 := invLaw_len xs i
    have e : ((255 - (i : Int)).tmod 255) = (((255 - i) % 255 : Nat) : Int) := by
      rw [Int.tmod_eq_emod_of_nonneg (by omega)]; omega
    have h3 : (255 - i) % 255 < 255 := Nat.mod_lt _ (by decide)
    refine To.of (o := C65 i xs (invLaw xs i)) eB_ok hmA (Nat.le_refl 2) OrcOk.nil rfl (C65_ok ?_) C65_ex C65_fm ?_
    · rw [e]
      generalize (255 - i) % 255 = k at h3 ⊢
      simp only [allP, Con.h, nonneg, Int.toNat_natCast, decide_eq_true_eq, decide_eq_false_iff_not, eq_self, true_and, and_true, Bool.true_eq, addO_eq, mulO_eq, Nat.zero_add, hl, h2]
      omega
    · rw [C65_tab, e, Int.toNat_natCast, Int.toNat_natCast]; rfl
  · exact To.of (o := D65 (255 : Nat) xs (invLaw xs 255)) eB_ok hmA (Nat.le_refl 2) OrcOk.nil rfl (D65_ok (by simp [allP, Con.h])) D65_ex D65_fm D65_tab
def g65 : List AVal → Tab → Out := fun vs T => match vs, T with
  | [.nilSlice, .int .u8 x, .int .i64 i], [] => ⟨[.rng 1 x 1, .rng 0 i 0], .normal, [(1, .slice 1 0 255 0 255 none)], [some ⟨.ints .u8 (pwsLaw 255), 255, true, 5⟩], []⟩
  | _, _ => failO
theorem g65_ok : BlkOk eB f65 0 (.loop (roundOf 0 f65)) (blkS 0 [1,2,3] g65) := by
  refine blkS_ok fun vs T h => ?_
  unfold g65 at h ⊢
  split at h
  · rename_i x i
    obtain ⟨h1, h2, _⟩ := h.h
    simp only [Con.h] at h1 h2
    obtain rfl : x = 1 := by omega
    obtain rfl : i = 0 := by omega
    refine AWp.nilTo (F65 0) .u8 5 (fun t v hv => ?_) (To.base (Nat.zero_le 1) loop65)
    simp only [F65, look, zipF] at hv ⊢
    repeat' split at hv
    all_goals first | cases hv | skip
    all_goals first | rfl | simp_all [look]
    all_goals rfl
  · exact absurd h nofailO
def PW : List Int := [1, 3, 5, 15, 17, 51, 85, 255, 26, 46, 114, 150, 161, 248, 19, 53, 95, 225, 56, 72, 216, 115, 149, 164, 247, 2, 6, 10, 30, 34, 102, 170, 229, 52, 92, 228, 55, 89, 235, 38, 106, 190, 217, 112, 144, 171, 230, 49, 83, 245, 4, 12, 20, 60, 68, 204, 79, 209, 104, 184, 211, 110, 178, 205, 76, 212, 103, 169, 224, 59, 77, 215, 98, 166, 241, 8, 24, 40, 120, 136, 131, 158, 185, 208, 107, 189, 220, 127, 129, 152, 179, 206, 73, 219, 118, 154, 181, 196, 87, 249, 16, 48, 80, 240, 11, 29, 39, 105, 187, 214, 97, 163, 254, 25, 43, 125, 135, 146, 173, 236, 47, 113, 147, 174, 233, 32, 96, 160, 251, 22, 58, 78, 210, 109, 183, 194, 93, 231, 50, 86, 250, 21, 63, 65, 195, 94, 226, 61, 71, 201, 64, 192, 91, 237, 44, 116, 156, 191, 218, 117, 159, 186, 213, 100, 172, 239, 42, 126, 130, 157, 188, 223, 122, 142, 137, 128, 155, 182, 193, 88, 232, 35, 101, 175, 234, 37, 111, 177, 200, 67, 197, 84, 252, 31, 33, 99, 165, 244, 7, 9, 27, 45, 119, 153, 176, 203, 70, 202, 69, 207, 74, 222, 121, 139, 134, 145, 168, 227, 62, 66, 198, 81, 243, 14, 18, 54, 90, 238, 41, 123, 141, 140, 143, 138, 133, 148, 167, 242, 13, 23, 57, 75, 221, 124, 132, 151, 162, 253, 28, 36, 108, 180, 199, 82, 246]
def INVLaw : List Int := [0, 1, 141, 246, 203, 82, 123, 209, 232, 79, 41, 192, 176, 225, 229, 199, 116, 180, 170, 75, 153, 43, 96, 95, 88, 63, 253, 204, 255, 64, 238, 178, 58, 110, 90, 241, 85, 77, 168, 201, 193, 10, 152, 21, 48, 68, 162, 194, 44, 69, 146, 108, 243, 57, 102, 66, 242, 53, 32, 111, 119, 187, 89, 25, 29, 254, 55, 103, 45, 49, 245, 105, 167, 100, 171, 19, 84, 37, 233, 9, 237, 92, 5, 202, 76, 36, 135, 191, 24, 62, 34, 240, 81, 236, 97, 23, 22, 94, 175, 211, 73, 166, 54, 67, 244, 71, 145, 223, 51, 147, 33, 59, 121, 183, 151, 133, 16, 181, 186, 60, 182, 112, 208, 6, 161, 250, 129, 130, 131, 126, 127, 128, 150, 115, 190, 86, 155, 158, 149, 217, 247, 2, 185, 164, 222, 106, 50, 109, 216, 138, 132, 114, 42, 20, 159, 136, 249, 220, 137, 154, 251, 124, 46, 195, 143, 184, 101, 72, 38, 200, 18, 74, 206, 231, 210, 98, 12, 224, 31, 239, 17, 117, 120, 113, 165, 142, 118, 61, 189, 188, 134, 87, 11, 40, 47, 163, 218, 212, 228, 15, 169, 39, 83, 4, 27, 252, 172, 230, 122, 7, 174, 99, 197, 219, 226, 234, 148, 139, 196, 213, 157, 248, 144, 107, 177, 13, 214, 235, 198, 14, 207, 173, 8, 78, 215, 227, 93, 80, 30, 179, 91, 35, 56, 52, 104, 70, 3, 140, 221, 156, 125, 160, 205, 26, 65, 28]
theorem PW_eq : pwsLaw 255 = PW := by kernel_rfl
theorem INV_eq : invLaw (pwsLaw 255) 255 = INVLaw := by kernel_rfl
def h65 : List AVal → Tab → Out := fun vs T => match vs, T with
  | [.slice 1 0 255 0 255 none, .slice 1 1 0 0 256 (some 256), .int .i64 i], [some ⟨.ints .u8 xs, 255, true, 5⟩, some ⟨.ints .u8 ys, 0, true, 5⟩] =>
    ⟨[.rng 0 i 0, .p (xs = pwsLaw 255 ∧ ys = invLaw xs 0)], .normal, [(4, .slice 1 1 0 0 256 (some 256))], [some ⟨.ints .u8 xs, 255, true, 5⟩, some ⟨.ints .u8 INVLaw, 0, true, 5⟩], []⟩
  | _, _ => failO
theorem h65_ok : BlkOk eB f65 2 (.loop (roundOf 2 f65)) (blkS 2 [1,4,5] h65) := by
  refine blkS_ok fun vs T h => ?_
  unfold h65 at h ⊢
  split at h
  · rename_i i xs ys
    obtain ⟨h1, h2, _⟩ := h.h
    simp only [Con.h] at h1 h2
    obtain rfl : i = 0 := by omega
    obtain ⟨rfl, rfl⟩ := h2
    have := loop65b (xs := pwsLaw 255) (pwsLaw_len _) (fun i hi => by rw [pwsLaw_get hi]; exact pwLaw_lt i)
    rw [INV_eq] at this
    exact this
  · exact absurd h nofailO
noncomputable def orc65 : OrcL := [(0, blkS 0 [1,2,3] g65), (2, blkS 2 [1,4,5] h65)]
theorem orc65_ok : FnOrc eB f65 orc65 := FnOrc.cons g65_ok (by kernel_rfl) (FnOrc.cons h65_ok (by kernel_rfl) FnOrc.nil)
noncomputable def R65  : Res := runF eB f65 orc65 100 [] [] []
theorem R65_ok  (h : allP [Con.p
      (pwsLaw 255 = pwsLaw 255 ∧
        [0, 0, 0, 0, 0, 0, 0, 0, 0, 0, 0, 0, 0, 0, 0, 0, 0, 0, 0, 0, 0, 0, 0, 0, 0, 0, 0, 0, 0, 0, 0, 0, 0, 0, 0, 0, 0,
            0, 0, 0, 0, 0, 0, 0, 0, 0, 0, 0, 0, 0, 0, 0, 0, 0, 0, 0, 0, 0, 0, 0, 0, 0, 0, 0, 0, 0, 0, 0, 0, 0, 0, 0, 0,
            0, 0, 0, 0, 0, 0, 0, 0, 0, 0, 0, 0, 0, 0, 0, 0, 0, 0, 0, 0, 0, 0, 0, 0, 0, 0, 0, 0, 0, 0, 0, 0, 0, 0, 0, 0,
            0, 0, 0, 0, 0, 0, 0, 0, 0, 0, 0, 0, 0, 0, 0, 0, 0, 0, 0, 0, 0, 0, 0, 0, 0, 0, 0, 0, 0, 0, 0, 0, 0, 0, 0, 0,
            0, 0, 0, 0, 0, 0, 0, 0, 0, 0, 0, 0, 0, 0, 0, 0, 0, 0, 0, 0, 0, 0, 0, 0, 0, 0, 0, 0, 0, 0, 0, 0, 0, 0, 0, 0,
            0, 0, 0, 0, 0, 0, 0, 0, 0, 0, 0, 0, 0, 0, 0, 0, 0, 0, 0, 0, 0, 0, 0, 0, 0, 0, 0, 0, 0, 0, 0, 0, 0, 0, 0, 0,
            0, 0, 0, 0, 0, 0, 0, 0, 0, 0, 0, 0, 0, 0, 0, 0, 0, 0, 0, 0, 0, 0, 0, 0, 0, 0, 0, 0, 0, 0, 0, 0, 0, 0, 0, 0,
            0, 0, 0] =
          invLaw (pwsLaw 255) 0)]) : OkR (R65 ) := OkR.dem (fl := [true, true, true, true, true, true, true, false]) (by kernel_rfl) (by kernel_rfl) (by kernel_rfl) h
theorem R65_val  : (R65 ).val = AVal.slice 1 1 0 0 256 (some 256) := by kernel_rfl
theorem R65_tab  : (R65 ).tab = [some { data := AVal.ints IntKind.u8 (pwsLaw 255), g := 255, own := true, et := 5 },
    some
      {
        data :=
          AVal.ints IntKind.u8
            [0, 1, 141, 246, 203, 82, 123, 209, 232, 79, 41, 192, 176, 225, 229, 199, 116, 180, 170, 75, 153, 43, 96,
              95, 88, 63, 253, 204, 255, 64, 238, 178, 58, 110, 90, 241, 85, 77, 168, 201, 193, 10, 152, 21, 48, 68,
              162, 194, 44, 69, 146, 108, 243, 57, 102, 66, 242, 53, 32, 111, 119, 187, 89, 25, 29, 254, 55, 103, 45,
              49, 245, 105, 167, 100, 171, 19, 84, 37, 233, 9, 237, 92, 5, 202, 76, 36, 135, 191, 24, 62, 34, 240, 81,
              236, 97, 23, 22, 94, 175, 211, 73, 166, 54, 67, 244, 71, 145, 223, 51, 147, 33, 59, 121, 183, 151, 133,
              16, 181, 186, 60, 182, 112, 208, 6, 161, 250, 129, 130, 131, 126, 127, 128, 150, 115, 190, 86, 155, 158,
              149, 217, 247, 2, 185, 164, 222, 106, 50, 109, 216, 138, 132, 114, 42, 20, 159, 136, 249, 220, 137, 154,
              251, 124, 46, 195, 143, 184, 101, 72, 38, 200, 18, 74, 206, 231, 210, 98, 12, 224, 31, 239, 17, 117, 120,
              113, 165, 142, 118, 61, 189, 188, 134, 87, 11, 40, 47, 163, 218, 212, 228, 15, 169, 39, 83, 4, 27, 252,
              172, 230, 122, 7, 174, 99, 197, 219, 226, 234, 148, 139, 196, 213, 157, 248, 144, 107, 177, 13, 214, 235,
              198, 14, 207, 173, 8, 78, 215, 227, 93, 80, 30, 179, 91, 35, 56, 52, 104, 70, 3, 140, 221, 156, 125, 160,
              205, 26, 65, 28],
        g := 0, own := true, et := 5 }] := by kernel_rfl
def sm65 : Summary := fun args T => match args, T with
  | [], [] => ⟨[], .slice 1 1 0 0 256 (some 256), [some ⟨.ints .u8 (pwsLaw 255), 255, true, 5⟩, some ⟨.ints .u8 INVLaw, 0, true, 5⟩]⟩
  | _, _ => fail
theorem sm65_ok : SmOk prog (fun _ => none) 65 sm65 := by
  intro args T hc
  unfold sm65 at hc ⊢
  split at hc
  · exact small_of (R := R65) eB_ok hmA (f := 65) (fn := f65) (by kernel_rfl) (by kernel_rfl) orc65_ok rfl (R65_ok ⟨⟨rfl, by kernel_rfl⟩, trivial⟩) R65_val R65_tab
  · exact absurd hc nofail
def S65 : Summary := callR sm65 []
theorem S65_ok : SumOk prog (fun _ => none) 65 S65 := callR_ok sm65_ok []
end Go.Abs
