/- What functions of the given program come to, by the abstract machine: one text of a proof. -/
import Derived.Test.YtkbfjfookfmobaaDoorDC4
set_option linter.unusedVariables false
set_option linter.unusedSimpArgs false
set_option maxRecDepth 8000
set_option maxHeartbeats 2000000
namespace Go.Abs
open Go.Proofs Go.Proofs.Tryd
/-! ### the document's words of a block: the schedule -/
theorem getD_drop_ {l : List Int} : True := trivial
/-! width 32 -/
def FO56_32 (g4 off : Nat) (i : Nat) : Fm := [(1, .slice 1 4 g4 off 64 none), (2, .var 5 0), (5, .int .i64 4), (6, .slice 1 6 i 0 i none), (7, .int .i64 i)]
theorem loopO56_32 {zs : List Int} {g4 : Nat} {ow : Bool} {off : Nat} (hz : off + 64 ≤ zs.length) (hb : BsLaw zs) :
    To eR32 82 7 (.block 0 (.loop (roundOf 0 f56))) (FO56_32 g4 off 0) (TC56_32 zs (wordsLaw 4 zs off 0) g4 0 ow) .normal [(2, .var 5 0), (6, .slice 1 6 16 0 16 none)] (TC56_32 zs (wordsLaw 4 zs off 16) g4 16 ow) := by
  have hO : OrcOk eR32 82 ⟨7, [(2, blkS 7 [1,2,5,6,7,8,9] gC56_32)]⟩ (roundOf 0 f56) := OrcOk.cons (fn := f56) gC56_32_ok (by kernel_rfl) OrcOk.nil
  refine To.rounds (FO56_32 g4 off) (fun i => TC56_32 zs (wordsLaw 4 zs off i) g4 i ow) 16 (fun i hi => ?_)
    (To.of (o := P56_32 (16 : Nat) off 16 zs (wordsLaw 4 zs off 16) g4 16 ow) eR32_ok hmS (Nat.le_refl 7) hO rfl (P56_32_ok (by simp [allP, Con.h])) P56_32_ex P56_32_fm P56_32_tab)
  have hl := wordsLaw_len 4 zs off i
  refine To.of (o := O56_32 i off i zs (wordsLaw 4 zs off i) g4 i ow) eR32_ok hmS (Nat.le_refl 7) hO rfl (O56_32_ok ?_) O56_32_ex ?_ ?_
  · have hz' := zz32
    simp only [allP, Con.h, addO_eq, hl, hb, hz', decide_eq_true_eq, eq_self, true_and, and_true]
    omega
  · rw [O56_32_fm]
    simp only [addO_eq]
    rfl
  · rw [O56_32_tab, Int.toNat_natCast, List.take_of_length_le (by omega), wordsLaw_succ]
    rfl
noncomputable def gO56_32 : List AVal → Tab → Out := fun vs T => match vs, T with
  | [.slice 1 4 g4' off b none, .var 5 0, .int .i64 c, .nilSlice, .int .i64 i], [some ⟨.ints .i64 a0, 0, false, 3⟩, some ⟨.ints .i64 a1, 0, false, 3⟩, some ⟨.ints .i64 a2, 0, false, 3⟩, some ⟨.ints .i64 a3, 0, false, 3⟩, some ⟨.ints .u8 zs, g4, ow, 5⟩, some ⟨.agg [.int .i64 bb, .int .i64 bk, .int .i64 br, .slice 1 0 0 0 3 (some 3), .slice 1 1 0 0 3 (some 3), .slice 1 2 0 0 3 (some 3), .slice 1 3 0 0 3 (some 3)], 0, true, 54⟩] =>
    ⟨[.rng 32 bb 32, .rng 64 bk 64, .rng 64 br 64, .p (zz32Law a0 a1 a2 a3), .eqN g4' g4, .eqN b 64, .rng 4 c 4, .rng 0 i 0, .leN (off + 64) zs.length, .p (BsLaw zs)], .normal,
      [(2, .var 5 0), (6, .slice 1 6 16 0 16 none)], [some ⟨.ints .i64 a0, 0, false, 3⟩, some ⟨.ints .i64 a1, 0, false, 3⟩, some ⟨.ints .i64 a2, 0, false, 3⟩, some ⟨.ints .i64 a3, 0, false, 3⟩, some ⟨.ints .u8 zs, g4, ow, 5⟩, some ⟨.agg [.int .i64 bb, .int .i64 bk, .int .i64 br, .slice 1 0 0 0 3 (some 3), .slice 1 1 0 0 3 (some 3), .slice 1 2 0 0 3 (some 3), .slice 1 3 0 0 3 (some 3)], 0, true, 54⟩, some ⟨.ints .u64 (wordsLaw 4 zs off 16), 16, true, 56⟩], []⟩
  | _, _ => failO
theorem gO56_32_ok : BlkOk eR32 f56 0 (.loop (roundOf 0 f56)) (blkS 6 [1,2,5,6,7] gO56_32) := by
  refine blkS_ok fun vs T h => ?_
  unfold gO56_32 at h ⊢
  split at h
  · rename_i g4' off b c i a0 a1 a2 a3 zs g4 ow bb bk br
    obtain ⟨z1, z2, z3, z4, h1, h2, h3, h4, h5, h6, _⟩ := h.h
    simp only [Con.h] at z1 z2 z3 z4 h1 h2 h3 h4 h5 h6
    obtain rfl : bb = 32 := by omega
    obtain rfl : bk = 64 := by omega
    obtain rfl : br = 64 := by omega
    obtain ⟨z4, z5, z6, z7⟩ := z4
    subst z4 z5 z6 z7
    obtain rfl : c = 4 := by omega
    obtain rfl : i = 0 := by omega
    subst h1 h2
    refine AWp.nilTo (FO56_32 g4' off 0) .u64 56 (fun t v hv => ?_) (To.base (by decide) (loopO56_32 h5 h6))
    simp only [FO56_32, look, zipF] at hv ⊢
    repeat' split at hv
    all_goals first | cases hv | skip
    all_goals first | rfl | simp_all [look]
  · exact absurd h nofailO
def FE56_32 (g6 m : Nat) (t : Nat) : Fm := [(2, .var 5 0), (6, .slice 1 6 g6 0 m none), (10, .int .i64 t)]
theorem next32_eq {a b c e : Int} : iand (((((a + b) % 18446744073709551616 + c) % 18446744073709551616) + e) % 18446744073709551616) 4294967295 = (((a + b) % 4294967296 + c) % 4294967296 + e) % 4294967296 := by rw [iand_mask (by omega)]; omega
theorem loopE56_32 {zs ws : List Int} {g4 g6 : Nat} {ow : Bool} (hl : ws.length = 16) (hw : Wds 32 ws) :
    To eR32 82 7 (.block 4 (.loop (roundOf 4 f56))) (FE56_32 g6 16 16) (TC56_32 zs ws g4 g6 ow) .normal [(2, .var 5 0), (6, .slice 1 6 (g6 + 48) 0 64 none)] (TC56_32 zs (schLaw 32 4294967296 [7, 18, 3] [17, 19, 10] ws 48) g4 (g6 + 48) ow) := by
  refine To.rounds (fun i => FE56_32 (g6 + i) (16 + i) (16 + i)) (fun i => TC56_32 zs (schLaw 32 4294967296 [7, 18, 3] [17, 19, 10] ws i) g4 (g6 + i) ow) 48 (fun i hi => ?_)
    (To.of (o := F56_32 (64 : Nat) 64 zs (schLaw 32 4294967296 [7, 18, 3] [17, 19, 10] ws 48) g4 (g6 + 48) ow) eR32_ok hmS (Nat.le_refl 7) OrcOk.nil rfl (F56_32_ok (by simp [allP, Con.h])) F56_32_ex F56_32_fm F56_32_tab)
  have hsl := schLaw_len (W := 32) (m := 4294967296) (l0 := [7, 18, 3]) (l1 := [17, 19, 10]) hl i
  have hsw := schLaw_wds (W := 32) (m := 4294967296) (by decide) (l0 := [7, 18, 3]) (l1 := [17, 19, 10]) hw i
  have e2 : (((16 + i : Nat) : Int) - 2).toNat = 16 + i - 2 := by omega
  have e7 : (((16 + i : Nat) : Int) - 7).toNat = 16 + i - 7 := by omega
  have e15 : (((16 + i : Nat) : Int) - 15).toNat = 16 + i - 15 := by omega
  have e16 : (((16 + i : Nat) : Int) - 16).toNat = 16 + i - 16 := by omega
  refine To.of (o := E56_32 (16 + i : Nat) (16 + i) zs (schLaw 32 4294967296 [7, 18, 3] [17, 19, 10] ws i) g4 (g6 + i) ow) eR32_ok hmS (Nat.le_refl 7) OrcOk.nil rfl (E56_32_ok ?_) E56_32_ex ?_ ?_
  · simp only [e2, e7, e15, e16]
    have q2 := hsw (16 + i - 2)
    have q15 := hsw (16 + i - 15)
    have hz' := zz32
    have i0 : lowIxLaw 0 := .inl rfl
    have i1 : lowIxLaw 1 := .inr rfl
    simp only [allP, Con.h, addO_eq, hsl, hz', i0, i1, decide_eq_true_eq, eq_self, true_and, and_true]
    have hm := fun y => Wd.mod 64 y
    rw [show (2 : Int) ^ 64 = 18446744073709551616 by decide] at hm
    repeat' with_reducible apply And.intro
    all_goals first | omega | exact q2 | exact q15 | exact q2.1 | exact q2.2 | exact q15.1 | exact q15.2 | exact hm _ | skip
  · rw [E56_32_fm]
    simp only [addO_eq]
    rfl
  · rw [E56_32_tab]
    simp only [e2, e7, e15, e16]
    rw [List.take_of_length_le (by omega)]
    show _ = TC56_32 zs (schLaw 32 4294967296 [7, 18, 3] [17, 19, 10] ws i ++ [nextLaw 32 4294967296 [7, 18, 3] [17, 19, 10] (schLaw 32 4294967296 [7, 18, 3] [17, 19, 10] ws i) (16 + i)]) g4 (g6 + i + 1) ow
    rw [show nextLaw _ _ _ _ _ _ = _ from (next32_eq).symm]
    rfl
noncomputable def gE56_32 : List AVal → Tab → Out := fun vs T => match vs, T with
  | [.var 5 0, .slice 1 6 g6' 0 m none, .int .i64 t], [some ⟨.ints .i64 a0, 0, false, 3⟩, some ⟨.ints .i64 a1, 0, false, 3⟩, some ⟨.ints .i64 a2, 0, false, 3⟩, some ⟨.ints .i64 a3, 0, false, 3⟩, some ⟨.ints .u8 zs, g4, ow, 5⟩, some ⟨.agg [.int .i64 bb, .int .i64 bk, .int .i64 br, .slice 1 0 0 0 3 (some 3), .slice 1 1 0 0 3 (some 3), .slice 1 2 0 0 3 (some 3), .slice 1 3 0 0 3 (some 3)], 0, true, 54⟩, some ⟨.ints .u64 ws, g6, true, 56⟩] =>
    ⟨[.rng 32 bb 32, .rng 64 bk 64, .rng 64 br 64, .p (zz32Law a0 a1 a2 a3), .eqN g6' g6, .eqN m 16, .rng 16 t 16, .eqN ws.length 16, .p (WdsLaw 32 ws)], .normal,
      [(2, .var 5 0), (6, .slice 1 6 (g6 + 48) 0 64 none)], [some ⟨.ints .i64 a0, 0, false, 3⟩, some ⟨.ints .i64 a1, 0, false, 3⟩, some ⟨.ints .i64 a2, 0, false, 3⟩, some ⟨.ints .i64 a3, 0, false, 3⟩, some ⟨.ints .u8 zs, g4, ow, 5⟩, some ⟨.agg [.int .i64 bb, .int .i64 bk, .int .i64 br, .slice 1 0 0 0 3 (some 3), .slice 1 1 0 0 3 (some 3), .slice 1 2 0 0 3 (some 3), .slice 1 3 0 0 3 (some 3)], 0, true, 54⟩, some ⟨.ints .u64 (schLaw 32 4294967296 [7, 18, 3] [17, 19, 10] ws 48), g6 + 48, true, 56⟩], []⟩
  | _, _ => failO
theorem gE56_32_ok : BlkOk eR32 f56 4 (.loop (roundOf 4 f56)) (blkS 7 [2,6,10] gE56_32) := by
  refine blkS_ok fun vs T h => ?_
  unfold gE56_32 at h ⊢
  split at h
  · rename_i g6' m t a0 a1 a2 a3 zs g4 ow bb bk br ws g6
    obtain ⟨z1, z2, z3, z4, h1, h2, h3, h4, h5, _⟩ := h.h
    simp only [Con.h] at z1 z2 z3 z4 h1 h2 h3 h4 h5
    obtain rfl : bb = 32 := by omega
    obtain rfl : bk = 64 := by omega
    obtain rfl : br = 64 := by omega
    obtain ⟨z4, z5, z6, z7⟩ := z4
    subst z4 z5 z6 z7
    obtain rfl : t = 16 := by omega
    subst h1 h2
    exact loopE56_32 h4 h5
  · exact absurd h nofailO
noncomputable def orc56_32 : OrcL := [(0, blkS 6 [1,2,5,6,7] gO56_32), (4, blkS 7 [2,6,10] gE56_32)]
theorem orc56_32_ok : FnOrc eR32 f56 orc56_32 := FnOrc.cons gO56_32_ok (by kernel_rfl) (FnOrc.cons gE56_32_ok (by kernel_rfl) FnOrc.nil)
noncomputable def R56_32 (off : Nat) (zs : List Int) (g4 : Nat) (ow : Bool) : Res := resG 5 [0, 1, 2, 3, 4, 6] (runF eR32 f56 orc56_32 1000 [.agg [.int .i64 32, .int .i64 64, .int .i64 64, .slice 1 0 0 0 3 (some 3), .slice 1 1 0 0 3 (some 3), .slice 1 2 0 0 3 (some 3), .slice 1 3 0 0 3 (some 3)], .slice 1 4 g4 off 64 none] [some ⟨.ints .i64 [7, 18, 3], 0, false, 3⟩, some ⟨.ints .i64 [17, 19, 10], 0, false, 3⟩, some ⟨.ints .i64 [2, 13, 22], 0, false, 3⟩, some ⟨.ints .i64 [6, 11, 25], 0, false, 3⟩, some ⟨.ints .u8 zs, g4, ow, 5⟩] [])
theorem R56_32_ok {off : Nat} {zs : List Int} {g4 : Nat} {ow : Bool} (h : allP [.p (zz32Law [7, 18, 3] [17, 19, 10] [2, 13, 22] [6, 11, 25]), .eqN g4 g4, .leN (off + 64) zs.length, .p (BsLaw zs), .p (zz32Law [7, 18, 3] [17, 19, 10] [2, 13, 22] [6, 11, 25]), .p (WdsLaw 32 (wordsLaw 4 zs off 16))]) : OkR (R56_32 off zs g4 ow) := OkR.dem (fl := bitsF 24 8101119) (by kernel_rfl) (by kernel_rfl) (by
 kernel_rfl) h
theorem R56_32_val {off : Nat} {zs : List Int} {g4 : Nat} {ow : Bool} : (R56_32 off zs g4 ow).val = .slice 1 5 64 0 64 none := by kernel_rfl
theorem R56_32_tab {off : Nat} {zs : List Int} {g4 : Nat} {ow : Bool} : (R56_32 off zs g4 ow).tab = [some ⟨.ints .i64 [7, 18, 3], 0, false, 3⟩, some ⟨.ints .i64 [17, 19, 10], 0, false, 3⟩, some ⟨.ints .i64 [2, 13, 22], 0, false, 3⟩, some ⟨.ints .i64 [6, 11, 25], 0, false, 3⟩, some ⟨.ints .u8 zs, g4, ow, 5⟩, some ⟨.ints .u64 (schLaw 32 4294967296 [7, 18, 3] [17, 19, 10] (wordsLaw 4 zs off 16) 48),
 64, true, 56⟩] := by kernel_rfl
/-! width 64 -/
def FO56_64 (g4 off : Nat) (i : Nat) : Fm := [(1, .slice 1 4 g4 off 128 none), (2, .var 5 0), (5, .int .i64 8), (6, .slice 1 6 i 0 i none), (7, .int .i64 i)]
theorem loopO56_64 {zs : List Int} {g4 : Nat} {ow : Bool} {off : Nat} (hz : off + 128 ≤ zs.length) (hb : BsLaw zs) :
    To eR64 82 7 (.block 0 (.loop (roundOf 0 f56))) (FO56_64 g4 off 0) (TC56_64 zs (wordsLaw 8 zs off 0) g4 0 ow) .normal [(2, .var 5 0), (6, .slice 1 6 16 0 16 none)] (TC56_64 zs (wordsLaw 8 zs off 16) g4 16 ow) := by
  have hO : OrcOk eR64 82 ⟨7, [(2, blkS 7 [1,2,5,6,7,8,9] gC56_64)]⟩ (roundOf 0 f56) := OrcOk.cons (fn := f56) gC56_64_ok (by kernel_rfl) OrcOk.nil
  refine To.rounds (FO56_64 g4 off) (fun i => TC56_64 zs (wordsLaw 8 zs off i) g4 i ow) 16 (fun i hi => ?_)
    (To.of (o := P56_64 (16 : Nat) off 16 zs (wordsLaw 8 zs off 16) g4 16 ow) eR64_ok hmS (Nat.le_refl 7) hO rfl (P56_64_ok (by simp [allP, Con.h])) P56_64_ex P56_64_fm P56_64_tab)
  have hl := wordsLaw_len 8 zs off i
  refine To.of (o := O56_64 i off i zs (wordsLaw 8 zs off i) g4 i ow) eR64_ok hmS (Nat.le_refl 7) hO rfl (O56_64_ok ?_) O56_64_ex ?_ ?_
  · have hz' := zz64
    simp only [allP, Con.h, addO_eq, hl, hb, hz', decide_eq_true_eq, eq_self, true_and, and_true]
    omega
  · rw [O56_64_fm]
    simp only [addO_eq]
    rfl
  · rw [O56_64_tab, Int.toNat_natCast, List.take_of_length_le (by omega), wordsLaw_succ]
    rfl
noncomputable def gO56_64 : List AVal → Tab → Out := fun vs T => match vs, T with
  | [.slice 1 4 g4' off b none, .var 5 0, .int .i64 c, .nilSlice, .int .i64 i], [some ⟨.ints .i64 a0, 0, false, 3⟩, some ⟨.ints .i64 a1, 0, false, 3⟩, some ⟨.ints .i64 a2, 0, false, 3⟩, some ⟨.ints .i64 a3, 0, false, 3⟩, some ⟨.ints .u8 zs, g4, ow, 5⟩, some ⟨.agg [.int .i64 bb, .int .i64 bk, .int .i64 br, .slice 1 0 0 0 3 (some 3), .slice 1 1 0 0 3 (some 3), .slice 1 2 0 0 3 (some 3), .slice 1 3 0 0 3 (some 3)], 0, true, 54⟩] =>
    ⟨[.rng 64 bb 64, .rng 128 bk 128, .rng 80 br 80, .p (zz64Law a0 a1 a2 a3), .eqN g4' g4, .eqN b 128, .rng 8 c 8, .rng 0 i 0, .leN (off + 128) zs.length, .p (BsLaw zs)], .normal,
      [(2, .var 5 0), (6, .slice 1 6 16 0 16 none)], [some ⟨.ints .i64 a0, 0, false, 3⟩, some ⟨.ints .i64 a1, 0, false, 3⟩, some ⟨.ints .i64 a2, 0, false, 3⟩, some ⟨.ints .i64 a3, 0, false, 3⟩, some ⟨.ints .u8 zs, g4, ow, 5⟩, some ⟨.agg [.int .i64 bb, .int .i64 bk, .int .i64 br, .slice 1 0 0 0 3 (some 3), .slice 1 1 0 0 3 (some 3), .slice 1 2 0 0 3 (some 3), .slice 1 3 0 0 3 (some 3)], 0, true, 54⟩, some ⟨.ints .u64 (wordsLaw 8 zs off 16), 16, true, 56⟩], []⟩
  | _, _ => failO
theorem gO56_64_ok : BlkOk eR64 f56 0 (.loop (roundOf 0 f56)) (blkS 6 [1,2,5,6,7] gO56_64) := by
  refine blkS_ok fun vs T h => ?_
  unfold gO56_64 at h ⊢
  split at h
  · rename_i g4' off b c i a0 a1 a2 a3 zs g4 ow bb bk br
    obtain ⟨z1, z2, z3, z4, h1, h2, h3, h4, h5, h6, _⟩ := h.h
    simp only [Con.h] at z1 z2 z3 z4 h1 h2 h3 h4 h5 h6
    obtain rfl : bb = 64 := by omega
    obtain rfl : bk = 128 := by omega
    obtain rfl : br = 80 := by omega
    obtain ⟨z4, z5, z6, z7⟩ := z4
    subst z4 z5 z6 z7
    obtain rfl : c = 8 := by omega
    obtain rfl : i = 0 := by omega
    subst h1 h2
    refine AWp.nilTo (FO56_64 g4' off 0) .u64 56 (fun t v hv => ?_) (To.base (by decide) (loopO56_64 h5 h6))
    simp only [FO56_64, look, zipF] at hv ⊢
    repeat' split at hv
    all_goals first | cases hv | skip
    all_goals first | rfl | simp_all [look]
  · exact absurd h nofailO
def FE56_64 (g6 m : Nat) (t : Nat) : Fm := [(2, .var 5 0), (6, .slice 1 6 g6 0 m none), (10, .int .i64 t)]
theorem next64_eq {a b c e : Int} : True := trivial
theorem loopE56_64 {zs ws : List Int} {g4 g6 : Nat} {ow : Bool} (hl : ws.length = 16) (hw : Wds 64 ws) :
    To eR64 82 7 (.block 4 (.loop (roundOf 4 f56))) (FE56_64 g6 16 16) (TC56_64 zs ws g4 g6 ow) .normal [(2, .var 5 0), (6, .slice 1 6 (g6 + 64) 0 80 none)] (TC56_64 zs (schLaw 64 18446744073709551616 [1, 8, 7] [19, 61, 6] ws 64) g4 (g6 + 64) ow) := by
  refine To.rounds (fun i => FE56_64 (g6 + i) (16 + i) (16 + i)) (fun i => TC56_64 zs (schLaw 64 18446744073709551616 [1, 8, 7] [19, 61, 6] ws i) g4 (g6 + i) ow) 64 (fun i hi => ?_)
    (To.of (o := F56_64 (80 : Nat) 80 zs (schLaw 64 18446744073709551616 [1, 8, 7] [19, 61, 6] ws 64) g4 (g6 + 64) ow) eR64_ok hmS (Nat.le_refl 7) OrcOk.nil rfl (F56_64_ok (by simp [allP, Con.h])) F56_64_ex F56_64_fm F56_64_tab)
  have hsl := schLaw_len (W := 64) (m := 18446744073709551616) (l0 := [1, 8, 7]) (l1 := [19, 61, 6]) hl i
  have hsw := schLaw_wds (W := 64) (m := 18446744073709551616) (by decide) (l0 := [1, 8, 7]) (l1 := [19, 61, 6]) hw i
  have e2 : (((16 + i : Nat) : Int) - 2).toNat = 16 + i - 2 := by omega
  have e7 : (((16 + i : Nat) : Int) - 7).toNat = 16 + i - 7 := by omega
  have e15 : (((16 + i : Nat) : Int) - 15).toNat = 16 + i - 15 := by omega
  have e16 : (((16 + i : Nat) : Int) - 16).toNat = 16 + i - 16 := by omega
  refine To.of (o := E56_64 (16 + i : Nat) (16 + i) zs (schLaw 64 18446744073709551616 [1, 8, 7] [19, 61, 6] ws i) g4 (g6 + i) ow) eR64_ok hmS (Nat.le_refl 7) OrcOk.nil rfl (E56_64_ok ?_) E56_64_ex ?_ ?_
  · simp only [e2, e7, e15, e16]
    have q2 := hsw (16 + i - 2)
    have q15 := hsw (16 + i - 15)
    have hz' := zz64
    have i0 : lowIxLaw 0 := .inl rfl
    have i1 : lowIxLaw 1 := .inr rfl
    simp only [allP, Con.h, addO_eq, hsl, hz', i0, i1, decide_eq_true_eq, eq_self, true_and, and_true]
    have hm := fun y => Wd.mod 64 y
    rw [show (2 : Int) ^ 64 = 18446744073709551616 by decide] at hm
    repeat' with_reducible apply And.intro
    all_goals first | omega | exact q2 | exact q15 | exact q2.1 | exact q2.2 | exact q15.1 | exact q15.2 | exact hm _ | skip
  · rw [E56_64_fm]
    simp only [addO_eq]
    rfl
  · rw [E56_64_tab]
    simp only [e2, e7, e15, e16]
    rw [List.take_of_length_le (by omega)]
    show _ = TC56_64 zs (schLaw 64 18446744073709551616 [1, 8, 7] [19, 61, 6] ws i ++ [nextLaw 64 18446744073709551616 [1, 8, 7] [19, 61, 6] (schLaw 64 18446744073709551616 [1, 8, 7] [19, 61, 6] ws i) (16 + i)]) g4 (g6 + i + 1) ow
    skip
    rfl
noncomputable def gE56_64 : List AVal → Tab → Out := fun vs T => match vs, T with
  | [.var 5 0, .slice 1 6 g6' 0 m none, .int .i64 t], [some ⟨.ints .i64 a0, 0, false, 3⟩, some ⟨.ints .i64 a1, 0, false, 3⟩, some ⟨.ints .i64 a2, 0, false, 3⟩, some ⟨.ints .i64 a3, 0, false, 3⟩, some ⟨.ints .u8 zs, g4, ow, 5⟩, some ⟨.agg [.int .i64 bb, .int .i64 bk, .int .i64 br, .slice 1 0 0 0 3 (some 3), .slice 1 1 0 0 3 (some 3), .slice 1 2 0 0 3 (some 3), .slice 1 3 0 0 3 (some 3)], 0, true, 54⟩, some ⟨.ints .u64 ws, g6, true, 56⟩] =>
    ⟨[.rng 64 bb 64, .rng 128 bk 128, .rng 80 br 80, .p (zz64Law a0 a1 a2 a3), .eqN g6' g6, .eqN m 16, .rng 16 t 16, .eqN ws.length 16, .p (WdsLaw 64 ws)], .normal,
      [(2, .var 5 0), (6, .slice 1 6 (g6 + 64) 0 80 none)], [some ⟨.ints .i64 a0, 0, false, 3⟩, some ⟨.ints .i64 a1, 0, false, 3⟩, some ⟨.ints .i64 a2, 0, false, 3⟩, some ⟨.ints .i64 a3, 0, false, 3⟩, some ⟨.ints .u8 zs, g4, ow, 5⟩, some ⟨.agg [.int .i64 bb, .int .i64 bk, .int .i64 br, .slice 1 0 0 0 3 (some 3), .slice 1 1 0 0 3 (some 3), .slice 1 2 0 0 3 (some 3), .slice 1 3 0 0 3 (some 3)], 0, true, 54⟩, some ⟨.ints .u64 (schLaw 64 18446744073709551616 [1, 8, 7] [19, 61, 6] ws 64), g6 + 64, true, 56⟩], []⟩
  | _, _ => failO
theorem gE56_64_ok : BlkOk eR64 f56 4 (.loop (roundOf 4 f56)) (blkS 7 [2,6,10] gE56_64) := by
  refine blkS_ok fun vs T h => ?_
  unfold gE56_64 at h ⊢
  split at h
  · rename_i g6' m t a0 a1 a2 a3 zs g4 ow bb bk br ws g6
    obtain ⟨z1, z2, z3, z4, h1, h2, h3, h4, h5, _⟩ := h.h
    simp only [Con.h] at z1 z2 z3 z4 h1 h2 h3 h4 h5
    obtain rfl : bb = 64 := by omega
    obtain rfl : bk = 128 := by omega
    obtain rfl : br = 80 := by omega
    obtain ⟨z4, z5, z6, z7⟩ := z4
    subst z4 z5 z6 z7
    obtain rfl : t = 16 := by omega
    subst h1 h2
    exact loopE56_64 h4 h5
  · exact absurd h nofailO
noncomputable def orc56_64 : OrcL := [(0, blkS 6 [1,2,5,6,7] gO56_64), (4, blkS 7 [2,6,10] gE56_64)]
theorem orc56_64_ok : FnOrc eR64 f56 orc56_64 := FnOrc.cons gO56_64_ok (by kernel_rfl) (FnOrc.cons gE56_64_ok (by kernel_rfl) FnOrc.nil)
noncomputable def R56_64 (off : Nat) (zs : List Int) (g4 : Nat) (ow : Bool) : Res := resG 5 [0, 1, 2, 3, 4, 6] (runF eR64 f56 orc56_64 1000 [.agg [.int .i64 64, .int .i64 128, .int .i64 80, .slice 1 0 0 0 3 (some 3), .slice 1 1 0 0 3 (some 3), .slice 1 2 0 0 3 (some 3), .slice 1 3 0 0 3 (some 3)], .slice 1 4 g4 off 128 none] [some ⟨.ints .i64 [1, 8, 7], 0, false, 3⟩, some ⟨.ints .i64 [19, 61, 6], 0, false, 3⟩, some ⟨.ints .i64 [28, 34, 39], 0, false, 3⟩, some ⟨.ints .i64 [14, 18, 41], 0, false, 3⟩, some ⟨.ints .u8 zs, g4, ow, 5⟩] [])
theorem R56_64_ok {off : Nat} {zs : List Int} {g4 : Nat} {ow : Bool} (h : allP [.p (zz64Law [1, 8, 7] [19, 61, 6] [28, 34, 39] [14, 18, 41]), .eqN g4 g4, .leN (off + 128) zs.length, .p (BsLaw zs), .p (zz64Law [1, 8, 7] [19, 61, 6] [28, 34, 39] [14, 18, 41]), .p (WdsLaw 64 (wordsLaw 8 zs off 16))]) : OkR (R56_64 off zs g4 ow) := OkR.dem (fl := bitsF 24 8101119) (by kernel_rfl) (by kernel_rfl) (by
 kernel_rfl) h
theorem R56_64_val {off : Nat} {zs : List Int} {g4 : Nat} {ow : Bool} : (R56_64 off zs g4 ow).val = .slice 1 5 80 0 80 none := by kernel_rfl
theorem R56_64_tab {off : Nat} {zs : List Int} {g4 : Nat} {ow : Bool} : (R56_64 off zs g4 ow).tab = [some ⟨.ints .i64 [1, 8, 7], 0, false, 3⟩, some ⟨.ints .i64 [19, 61, 6], 0, false, 3⟩, some ⟨.ints .i64 [28, 34, 39], 0, false, 3⟩, some ⟨.ints .i64 [14, 18, 41], 0, false, 3⟩, some ⟨.ints .u8 zs, g4, ow, 5⟩, some ⟨.ints .u64 (schLaw 64 18446744073709551616 [1, 8, 7] [19, 61, 6] (wordsLaw 8 zs off
 16) 64), 80, true, 56⟩] := by kernel_rfl
end Go.Abs
