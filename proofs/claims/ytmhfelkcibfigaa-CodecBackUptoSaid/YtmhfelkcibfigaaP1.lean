/- What functions of the given program come to, by the abstract machine: texts of a proof. -/
import Derived.Test.YtmhfelkcibfigaaP0
import Derived.Test.YtmhfelkcibfigaaAbs2
set_option linter.unusedVariables false
set_option linter.unusedSimpArgs false
set_option maxRecDepth 100000
set_option maxHeartbeats 4000000
namespace Go.Abs
open Go.Proofs Go.Proofs.Try
/-! ### the document: the reader: what it answers -/
noncomputable def sm26c (args : List AVal) (T : Tab) (B : List Int) (g : Nat) (gR : Nat) (off : Nat) (nB : Nat) (e : Int) (size : Int) : Res := ⟨[.tab T [some ⟨.agg [.slice 1 1 g 0 nB none, .int .i64 (off : Nat), .int .i64 e], gR, true, 57⟩, some ⟨.ints .u8 B, g, false, 5⟩], .val (.tuple args) (.tuple [.var 0 gR, .int .i64 size]), .eqN nB B.length, .leN off B.length, .p (ByLaw B), .leN B.length 140737488355000], .int .i64 (rnVLaw B off e size), [some ⟨.agg [.slice 1 1 g 0 nB none, .int .i64 (rnOLaw B off e size : Nat), .int .i64 (rnELaw B off e size)], gR, true, 57⟩, some ⟨.ints .u8 B, g, false, 5⟩]⟩
theorem sm26c_ok {args : List AVal} {T : Tab} {B : List Int} {g : Nat} {gR : Nat} {off : Nat} {nB : Nat} {e : Int} {size : Int} (h : allP (sm26c args T B g gR off nB e size).cs) : Small prog (fun _ => none) 26 args T (sm26c args T B g gR off nB e size).val (sm26c args T B g gR off nB e size).tab := by
  obtain ⟨hT, hv, h1, h2, h3, h4, _⟩ := h
  simp only [Con.h] at hT hv h1 h2 h3 h4
  injection hv with hv
  subst hT hv
  show Small prog (fun _ => none) 26 [.var 0 gR, .int .i64 size] [some ⟨.agg [.slice 1 1 g 0 nB none, .int .i64 (off : Nat), .int .i64 e], gR, true, 57⟩, some ⟨.ints .u8 B, g, false, 5⟩] (.int .i64 (rnVLaw B off e size)) [some ⟨.agg [.slice 1 1 g 0 nB none, .int .i64 (rnOLaw B off e size : Nat), .int .i64 (rnELaw B off e size)], gR, true, 57⟩, some ⟨.ints .u8 B, g, false, 5⟩]
  have hb : ByLaw B := h3
  subst h1
  by_cases he : e = 0
  rotate_left
  · have hr := rn_e (B := B) (off := off) size he
    have hne : (e != 0) = true := bne_iff_ne.2 he
    simp only [rnVLaw, rnOLaw, rnELaw, hr]
    refine small_of (R := R26e B g gR off B.length e size) eQ1_ok hmC (f := 26) (fn := f26) (by kernel_rfl) (by kernel_rfl) FnOrc.nil rfl (R26e_ok ?_) R26e_val R26e_tab
    simp only [allP, Con.h, hne, not_false_eq_true, eq_self, true_and, and_true]
  subst he
  by_cases hs : sizedLaw size
  rotate_left
  · have hr := rn_x (B := B) (off := off) hs
    obtain ⟨u1, u2, u3, u4⟩ := unsz hs
    simp only [rnVLaw, rnOLaw, rnELaw, hr]
    refine small_of (R := R26x B g gR off B.length size) eQ1x_ok hmC (f := 26) (fn := f26) (by kernel_rfl) (by kernel_rfl) FnOrc.nil rfl (R26x_ok ?_) R26x_val R26x_tab
    simp only [allP, Con.h, u1, u2, u3, u4, not_false_eq_true, eq_self, true_and, and_true]
  by_cases hl : ((B.length - off : Nat) : Int) < size
  · have hr := rn_s hs hl
    simp only [rnVLaw, rnOLaw, rnELaw, hr]
    rcases hs with rfl | rfl | rfl | rfl
    · refine small_of (R := R26s1 B g gR off B.length) eQ1_ok hmC (f := 26) (fn := f26) (by kernel_rfl) (by kernel_rfl) FnOrc.nil rfl (R26s1_ok ?_) R26s1_val R26s1_tab
      simp only [allP, Con.h, decide_eq_true_eq, decide_eq_false_iff_not, not_false_eq_true, eq_self, true_and, and_true]
      omega
    · refine small_of (R := R26s2 B g gR off B.length) eQ1_ok hmC (f := 26) (fn := f26) (by kernel_rfl) (by kernel_rfl) FnOrc.nil rfl (R26s2_ok ?_) R26s2_val R26s2_tab
      simp only [allP, Con.h, decide_eq_true_eq, decide_eq_false_iff_not, not_false_eq_true, eq_self, true_and, and_true]
      omega
    · refine small_of (R := R26s4 B g gR off B.length) eQ1_ok hmC (f := 26) (fn := f26) (by kernel_rfl) (by kernel_rfl) FnOrc.nil rfl (R26s4_ok ?_) R26s4_val R26s4_tab
      simp only [allP, Con.h, decide_eq_true_eq, decide_eq_false_iff_not, not_false_eq_true, eq_self, true_and, and_true]
      omega
    · refine small_of (R := R26s8 B g gR off B.length) eQ1_ok hmC (f := 26) (fn := f26) (by kernel_rfl) (by kernel_rfl) FnOrc.nil rfl (R26s8_ok ?_) R26s8_val R26s8_tab
      simp only [allP, Con.h, decide_eq_true_eq, decide_eq_false_iff_not, not_false_eq_true, eq_self, true_and, and_true]
      omega
  by_cases hr8 : size = 8 ∧ 64 ≤ B.getD off 0
  · obtain ⟨rfl, h8⟩ := hr8
    have hr := rn_r hl h8
    simp only [rnVLaw, rnOLaw, rnELaw, hr]
    refine small_of (R := R26r B g gR off B.length) eQ1_ok hmC (f := 26) (fn := f26) (by kernel_rfl) (by kernel_rfl) FnOrc.nil rfl (R26r_ok ?_) R26r_val R26r_tab
    simp only [allP, Con.h, h8, decide_eq_true_eq, decide_eq_false_iff_not, not_false_eq_true, eq_self, true_and, and_true]
    omega
  have hlow : LowLaw B off size := fun h => by omega
  have hr := rn_g hs hl hlow
  simp only [rnVLaw, rnOLaw, rnELaw, hr]
  rcases hs with rfl | rfl | rfl | rfl
  · have hz : sizedLaw (OfNat.ofNat 1) := by unfold sizedLaw; decide
    have hlow' : LowLaw B off (OfNat.ofNat 1) := hlow
    refine small_of (R := R26g1 B g gR off B.length) eQ1_ok hmC (f := 26) (fn := f26) (by kernel_rfl) (by kernel_rfl) FnOrc.nil rfl (R26g1_ok ?_) R26g1_val R26g1_tab
    simp only [allP, Con.h, hb, hz, hlow', decide_eq_true_eq, decide_eq_false_iff_not, not_false_eq_true, eq_self, true_and, and_true]
    omega
  · have hz : sizedLaw (OfNat.ofNat 2) := by unfold sizedLaw; decide
    have hlow' : LowLaw B off (OfNat.ofNat 2) := hlow
    refine small_of (R := R26g2 B g gR off B.length) eQ1_ok hmC (f := 26) (fn := f26) (by kernel_rfl) (by kernel_rfl) FnOrc.nil rfl (R26g2_ok ?_) R26g2_val R26g2_tab
    simp only [allP, Con.h, hb, hz, hlow', decide_eq_true_eq, decide_eq_false_iff_not, not_false_eq_true, eq_self, true_and, and_true]
    omega
  · have hz : sizedLaw (OfNat.ofNat 4) := by unfold sizedLaw; decide
    have hlow' : LowLaw B off (OfNat.ofNat 4) := hlow
    refine small_of (R := R26g4 B g gR off B.length) eQ1_ok hmC (f := 26) (fn := f26) (by kernel_rfl) (by kernel_rfl) FnOrc.nil rfl (R26g4_ok ?_) R26g4_val R26g4_tab
    simp only [allP, Con.h, hb, hz, hlow', decide_eq_true_eq, decide_eq_false_iff_not, not_false_eq_true, eq_self, true_and, and_true]
    omega
  · have hz : sizedLaw (OfNat.ofNat 8) := by unfold sizedLaw; decide
    have hlow' : LowLaw B off (OfNat.ofNat 8) := hlow
    have h8 : ¬ 64 ≤ B.getD off 0 := by have := hlow rfl; omega
    refine small_of (R := R26g8 B g gR off B.length) eQ1_ok hmC (f := 26) (fn := f26) (by kernel_rfl) (by kernel_rfl) FnOrc.nil rfl (R26g8_ok ?_) R26g8_val R26g8_tab
    simp only [allP, Con.h, hb, hz, hlow', h8, decide_eq_true_eq, decide_eq_false_iff_not, not_false_eq_true, eq_self, true_and, and_true]
    omega
noncomputable def sm26 : Summary := fun args T => sm26c args T (xsAt T 1) (gAt T 1) (gAt T 0) ((iOf (cAt T 0 1)).toNat) (lenOf (cAt T 0 0)) (iOf (cAt T 0 2)) (iOf (vAt args 1))
theorem sm26_ok : SmOk prog (fun _ => none) 26 sm26 := fun args T h => sm26c_ok h
noncomputable def S26r : Summary := callR sm26 [true]
theorem S26r_ok : SumOk prog (fun _ => none) 26 S26r := callR_ok sm26_ok [true]
noncomputable def sm28c (args : List AVal) (T : Tab) (B : List Int) (g : Nat) (gR : Nat) (off : Nat) (nB : Nat) (e : Int) : Res := ⟨[.tab T [some ⟨.agg [.slice 1 1 g 0 nB none, .int .i64 (off : Nat), .int .i64 e], gR, true, 57⟩, some ⟨.ints .u8 B, g, false, 5⟩], .val (.tuple args) (.tuple [.var 0 gR]), .eqN nB B.length, .leN off B.length, .p (ByLaw B), .leN B.length 140737488355000], .int .i64 (rlVLaw B off e), [some ⟨.agg [.slice 1 1 g 0 nB none, .int .i64 (rlOLaw B off e : Nat), .int .i64 (rlELaw B off e)], gR, true, 57⟩, some ⟨.ints .u8 B, g, false, 5⟩]⟩
theorem sm28c_ok {args : List AVal} {T : Tab} {B : List Int} {g : Nat} {gR : Nat} {off : Nat} {nB : Nat} {e : Int} (h : allP (sm28c args T B g gR off nB e).cs) : Small prog (fun _ => none) 28 args T (sm28c args T B g gR off nB e).val (sm28c args T B g gR off nB e).tab := by
  obtain ⟨hT, hv, h1, h2, h3, h4, _⟩ := h
  simp only [Con.h] at hT hv h1 h2 h3 h4
  injection hv with hv
  subst hT hv
  show Small prog (fun _ => none) 28 [.var 0 gR] [some ⟨.agg [.slice 1 1 g 0 nB none, .int .i64 (off : Nat), .int .i64 e], gR, true, 57⟩, some ⟨.ints .u8 B, g, false, 5⟩] (.int .i64 (rlVLaw B off e)) [some ⟨.agg [.slice 1 1 g 0 nB none, .int .i64 (rlOLaw B off e : Nat), .int .i64 (rlELaw B off e)], gR, true, 57⟩, some ⟨.ints .u8 B, g, false, 5⟩]
  have hb : ByLaw B := h3
  subst h1
  by_cases he : e = 0
  rotate_left
  · have hr := rl_e (B := B) (off := off) he
    have hne : (e != 0) = true := bne_iff_ne.2 he
    simp only [rlVLaw, rlOLaw, rlELaw, hr]
    refine small_of (R := R28e B g gR off B.length e) eQ1_ok hmC (f := 28) (fn := f28) (by kernel_rfl) (by kernel_rfl) FnOrc.nil rfl (R28e_ok ?_) R28e_val R28e_tab
    simp only [allP, Con.h, hne, not_false_eq_true, eq_self, true_and, and_true]
  subst he
  have hB := hb off
  by_cases hn : B.length - off = 0
  · have hr := rl_z hn
    have hq : (((B.length - off : Nat) : Int) == 0) = true := by rw [beq_iff_eq]; omega
    simp only [rlVLaw, rlOLaw, rlELaw, hr]
    refine small_of (R := R28z B g gR off B.length) eQ1_ok hmC (f := 28) (fn := f28) (by kernel_rfl) (by kernel_rfl) FnOrc.nil rfl (R28z_ok ?_) R28z_val R28z_tab
    simp only [allP, Con.h, hq, h2, h4, Nat.le_refl, not_false_eq_true, eq_self, true_and, and_true]
  have hq : (((B.length - off : Nat) : Int) == 0) = false := by rw [beq_eq_false_iff_ne]; omega
  by_cases ht : B.getD off 0 / 64 = 3
  · have hr := rl_f hn ht
    simp only [rlVLaw, rlOLaw, rlELaw, hr]
    refine small_of (R := R28f B g gR off B.length) eQ1_ok hmC (f := 28) (fn := f28) (by kernel_rfl) (by kernel_rfl) FnOrc.nil rfl (R28f_ok ?_) R28f_val R28f_tab
    simp only [allP, Con.h, ht, nonneg, hq, Int.reduceMul, Int.reducePow, Int.reduceSub, Int.reduceAdd, Int.reduceToNat, Nat.reducePow, Nat.reduceMul, Nat.reduceSub, Int.reduceLT, Int.reduceLE, Nat.reduceLT, Nat.reduceLeDiff, Int.one_mul, Nat.one_mul, decide_true, decide_false, decide_eq_true_eq, decide_eq_false_iff_not, beq_iff_eq, beq_eq_false_iff_ne, ne_eq, not_false_eq_true, eq_self, true_and, and_true]
    omega
  have htt : B.getD off 0 / 64 = 0 ∨ B.getD off 0 / 64 = 1 ∨ B.getD off 0 / 64 = 2 := by omega
  clear ht
  rcases htt with ht | ht | ht
  · have hz : sizedLaw 1 := by unfold sizedLaw; decide
    have hlow : LowLaw B off 1 := fun h => absurd h (by decide)
    have hrg := beN_rng hb off 1
    have hrg1 : 0 ≤ numAtLaw 1 B off := hrg.1
    have hrg2 : numAtLaw 1 B off < 256 := hrg.2
    have hip := iand_pos (numAtLaw 1 B off) 63
    by_cases hl : B.length - off < 1
    · have hr := (rl_0 hn ht).trans (rlT_s hl)
      simp only [rlVLaw, rlOLaw, rlELaw, hr]
      refine small_of (R := R28s B g gR off B.length) eQ1_ok hmC (f := 28) (fn := f28) (by kernel_rfl) (by kernel_rfl) FnOrc.nil rfl (R28s_ok ?_) R28s_val R28s_tab
      simp only [allP, Con.h, ht, nonneg, hq, Int.reduceMul, Int.reducePow, Int.reduceSub, Int.reduceAdd, Int.reduceToNat, Nat.reducePow, Nat.reduceMul, Nat.reduceSub, Int.reduceLT, Int.reduceLE, Nat.reduceLT, Nat.reduceLeDiff, Int.one_mul, Nat.one_mul, decide_true, decide_false, decide_eq_true_eq, decide_eq_false_iff_not, beq_iff_eq, beq_eq_false_iff_ne, ne_eq, not_false_eq_true, eq_self, true_and, and_true]
      omega
    have hv : ¬ iand (numAtLaw 1 B off) 63 < 0 := by omega
    have hr := (rl_0 hn ht).trans (rlT_g hl hv)
    simp only [rlVLaw, rlOLaw, rlELaw, hr]
    refine small_of (R := R28g B g gR off B.length) eQ1_ok hmC (f := 28) (fn := f28) (by kernel_rfl) (by kernel_rfl) FnOrc.nil rfl (R28g_ok ?_) (by rw [R28g_val]; simp only [ht]; rfl) (by rw [R28g_tab]; simp only [ht]; rfl)
    simp only [allP, Con.h, ht, nonneg, hq, hz, hb, hlow, hv, Int.reduceMul, Int.reducePow, Int.reduceSub, Int.reduceAdd, Int.reduceToNat, Nat.reducePow, Nat.reduceMul, Nat.reduceSub, Int.reduceLT, Int.reduceLE, Nat.reduceLT, Nat.reduceLeDiff, Int.one_mul, Nat.one_mul, decide_true, decide_false, decide_eq_true_eq, decide_eq_false_iff_not, beq_iff_eq, beq_eq_false_iff_ne, ne_eq, not_false_eq_true, eq_self, true_and, and_true]
    omega
  · have hz : sizedLaw 2 := by unfold sizedLaw; decide
    have hlow : LowLaw B off 2 := fun h => absurd h (by decide)
    have hrg := beN_rng hb off 2
    have hrg1 : 0 ≤ numAtLaw 2 B off := hrg.1
    have hrg2 : numAtLaw 2 B off < 65536 := hrg.2
    have hip := iand_pos (numAtLaw 2 B off) 16383
    by_cases hl : B.length - off < 2
    · have hr := (rl_1 hn ht).trans (rlT_s hl)
      simp only [rlVLaw, rlOLaw, rlELaw, hr]
      refine small_of (R := R28s B g gR off B.length) eQ1_ok hmC (f := 28) (fn := f28) (by kernel_rfl) (by kernel_rfl) FnOrc.nil rfl (R28s_ok ?_) R28s_val R28s_tab
      simp only [allP, Con.h, ht, nonneg, hq, Int.reduceMul, Int.reducePow, Int.reduceSub, Int.reduceAdd, Int.reduceToNat, Nat.reducePow, Nat.reduceMul, Nat.reduceSub, Int.reduceLT, Int.reduceLE, Nat.reduceLT, Nat.reduceLeDiff, Int.one_mul, Nat.one_mul, decide_true, decide_false, decide_eq_true_eq, decide_eq_false_iff_not, beq_iff_eq, beq_eq_false_iff_ne, ne_eq, not_false_eq_true, eq_self, true_and, and_true]
      omega
    by_cases hv : iand (numAtLaw 2 B off) 16383 < 64
    · have hr := (rl_1 hn ht).trans (rlT_b hl hv)
      simp only [rlVLaw, rlOLaw, rlELaw, hr]
      refine small_of (R := R28b1 B g gR off B.length) eQ1_ok hmC (f := 28) (fn := f28) (by kernel_rfl) (by kernel_rfl) FnOrc.nil rfl (R28b1_ok ?_) R28b1_val R28b1_tab
      simp only [allP, Con.h, ht, nonneg, hq, hz, hb, hlow, hv, Int.reduceMul, Int.reducePow, Int.reduceSub, Int.reduceAdd, Int.reduceToNat, Nat.reducePow, Nat.reduceMul, Nat.reduceSub, Int.reduceLT, Int.reduceLE, Nat.reduceLT, Nat.reduceLeDiff, Int.one_mul, Nat.one_mul, decide_true, decide_false, decide_eq_true_eq, decide_eq_false_iff_not, beq_iff_eq, beq_eq_false_iff_ne, ne_eq, not_false_eq_true, eq_self, true_and, and_true]
      omega
    have hr := (rl_1 hn ht).trans (rlT_g hl hv)
    simp only [rlVLaw, rlOLaw, rlELaw, hr]
    refine small_of (R := R28g1 B g gR off B.length) eQ1_ok hmC (f := 28) (fn := f28) (by kernel_rfl) (by kernel_rfl) FnOrc.nil rfl (R28g1_ok ?_) (by rw [R28g1_val]; simp only [ht]; rfl) (by rw [R28g1_tab]; simp only [ht]; rfl)
    simp only [allP, Con.h, ht, nonneg, hq, hz, hb, hlow, hv, Int.reduceMul, Int.reducePow, Int.reduceSub, Int.reduceAdd, Int.reduceToNat, Nat.reducePow, Nat.reduceMul, Nat.reduceSub, Int.reduceLT, Int.reduceLE, Nat.reduceLT, Nat.reduceLeDiff, Int.one_mul, Nat.one_mul, decide_true, decide_false, decide_eq_true_eq, decide_eq_false_iff_not, beq_iff_eq, beq_eq_false_iff_ne, ne_eq, not_false_eq_true, eq_self, true_and, and_true]
    omega
  · have hz : sizedLaw 4 := by unfold sizedLaw; decide
    have hlow : LowLaw B off 4 := fun h => absurd h (by decide)
    have hrg := beN_rng hb off 4
    have hrg1 : 0 ≤ numAtLaw 4 B off := hrg.1
    have hrg2 : numAtLaw 4 B off < 4294967296 := hrg.2
    have hip := iand_pos (numAtLaw 4 B off) 1073741823
    by_cases hl : B.length - off < 4
    · have hr := (rl_2 hn ht).trans (rlT_s hl)
      simp only [rlVLaw, rlOLaw, rlELaw, hr]
      refine small_of (R := R28s B g gR off B.length) eQ1_ok hmC (f := 28) (fn := f28) (by kernel_rfl) (by kernel_rfl) FnOrc.nil rfl (R28s_ok ?_) R28s_val R28s_tab
      simp only [allP, Con.h, ht, nonneg, hq, Int.reduceMul, Int.reducePow, Int.reduceSub, Int.reduceAdd, Int.reduceToNat, Nat.reducePow, Nat.reduceMul, Nat.reduceSub, Int.reduceLT, Int.reduceLE, Nat.reduceLT, Nat.reduceLeDiff, Int.one_mul, Nat.one_mul, decide_true, decide_false, decide_eq_true_eq, decide_eq_false_iff_not, beq_iff_eq, beq_eq_false_iff_ne, ne_eq, not_false_eq_true, eq_self, true_and, and_true]
      omega
    by_cases hv : iand (numAtLaw 4 B off) 1073741823 < 16384
    · have hr := (rl_2 hn ht).trans (rlT_b hl hv)
      simp only [rlVLaw, rlOLaw, rlELaw, hr]
      refine small_of (R := R28b2 B g gR off B.length) eQ1_ok hmC (f := 28) (fn := f28) (by kernel_rfl) (by kernel_rfl) FnOrc.nil rfl (R28b2_ok ?_) R28b2_val R28b2_tab
      simp only [allP, Con.h, ht, nonneg, hq, hz, hb, hlow, hv, Int.reduceMul, Int.reducePow, Int.reduceSub, Int.reduceAdd, Int.reduceToNat, Nat.reducePow, Nat.reduceMul, Nat.reduceSub, Int.reduceLT, Int.reduceLE, Nat.reduceLT, Nat.reduceLeDiff, Int.one_mul, Nat.one_mul, decide_true, decide_false, decide_eq_true_eq, decide_eq_false_iff_not, beq_iff_eq, beq_eq_false_iff_ne, ne_eq, not_false_eq_true, eq_self, true_and, and_true]
      omega
    have hr := (rl_2 hn ht).trans (rlT_g hl hv)
    simp only [rlVLaw, rlOLaw, rlELaw, hr]
    refine small_of (R := R28g2 B g gR off B.length) eQ1_ok hmC (f := 28) (fn := f28) (by kernel_rfl) (by kernel_rfl) FnOrc.nil rfl (R28g2_ok ?_) (by rw [R28g2_val]; simp only [ht]; rfl) (by rw [R28g2_tab]; simp only [ht]; rfl)
    simp only [allP, Con.h, ht, nonneg, hq, hz, hb, hlow, hv, Int.reduceMul, Int.reducePow, Int.reduceSub, Int.reduceAdd, Int.reduceToNat, Nat.reducePow, Nat.reduceMul, Nat.reduceSub, Int.reduceLT, Int.reduceLE, Nat.reduceLT, Nat.reduceLeDiff, Int.one_mul, Nat.one_mul, decide_true, decide_false, decide_eq_true_eq, decide_eq_false_iff_not, beq_iff_eq, beq_eq_false_iff_ne, ne_eq, not_false_eq_true, eq_self, true_and, and_true]
    omega
noncomputable def sm28 : Summary := fun args T => sm28c args T (xsAt T 1) (gAt T 1) (gAt T 0) ((iOf (cAt T 0 1)).toNat) (lenOf (cAt T 0 0)) (iOf (cAt T 0 2))
theorem sm28_ok : SmOk prog (fun _ => none) 28 sm28 := fun args T h => sm28c_ok h
noncomputable def S28r : Summary := callR sm28 [true]
theorem S28r_ok : SumOk prog (fun _ => none) 28 S28r := callR_ok sm28_ok [true]
noncomputable def sm32c (args : List AVal) (T : Tab) (B : List Int) (g : Nat) (gR : Nat) (off : Nat) (nB : Nat) (e : Int) (m : Int) : Res := ⟨[.tab T [some ⟨.agg [.slice 1 1 g 0 nB none, .int .i64 (off : Nat), .int .i64 e], gR, true, 57⟩, some ⟨.ints .u8 B, g, false, 5⟩], .val (.tuple args) (.tuple [.var 0 gR, .int .i64 m]), .eqN nB B.length, .leN off B.length, .p (ByLaw B), .leN B.length 140737488355000], .slice 1 2 1 0 (rtVLaw B off e m).length none, [some ⟨.agg [.slice 1 1 g 0 nB none, .int .i64 (rtOLaw B off e m : Nat), .int .i64 (rtELaw B off e m)], gR, true, 57⟩, some ⟨.ints .u8 B, g, false, 5⟩, some ⟨.ints .u8 (rtVLaw B off e m), 1, true, 5⟩]⟩
theorem sm32c_ok {args : List AVal} {T : Tab} {B : List Int} {g : Nat} {gR : Nat} {off : Nat} {nB : Nat} {e : Int} {m : Int} (h : allP (sm32c args T B g gR off nB e m).cs) : Small prog (fun _ => none) 32 args T (sm32c args T B g gR off nB e m).val (sm32c args T B g gR off nB e m).tab := by
  obtain ⟨hT, hv, h1, h2, h3, h4, _⟩ := h
  simp only [Con.h] at hT hv h1 h2 h3 h4
  injection hv with hv
  subst hT hv
  show Small prog (fun _ => none) 32 [.var 0 gR, .int .i64 m] [some ⟨.agg [.slice 1 1 g 0 nB none, .int .i64 (off : Nat), .int .i64 e], gR, true, 57⟩, some ⟨.ints .u8 B, g, false, 5⟩] (.slice 1 2 1 0 (rtVLaw B off e m).length none) [some ⟨.agg [.slice 1 1 g 0 nB none, .int .i64 (rtOLaw B off e m : Nat), .int .i64 (rtELaw B off e m)], gR, true, 57⟩, some ⟨.ints .u8 B, g, false, 5⟩, some ⟨.ints .u8 (rtVLaw B off e m), 1, true, 5⟩]
  have hb : ByLaw B := h3
  subst h1
  by_cases he : e = 0
  rotate_left
  · have hr := rt_e (B := B) (off := off) m he
    have hne : (e != 0) = true := bne_iff_ne.2 he
    simp only [rtVLaw, rtOLaw, rtELaw, hr]
    have hc : Small prog (fun _ => none) 32 [.var 0 gR, .int .i64 m] [some ⟨.agg [.slice 1 1 g 0 B.length none, .int .i64 (off : Nat), .int .i64 e], gR, true, 57⟩, some ⟨.ints .u8 B, g, false, 5⟩] .nilSlice [some ⟨.agg [.slice 1 1 g 0 B.length none, .int .i64 (off : Nat), .int .i64 e], gR, true, 57⟩, some ⟨.ints .u8 B, g, false, 5⟩] := by
      refine small_of (R := R32e B g gR off B.length e m) eQ1_ok hmC (f := 32) (fn := f32) (by kernel_rfl) (by kernel_rfl) FnOrc.nil rfl (R32e_ok ?_) R32e_val R32e_tab
      simp only [allP, Con.h, hne, not_false_eq_true, eq_self, true_and, and_true]
    exact small_nilG .u8 5 1 hc (Nat.le_refl 2)
  subst he
  by_cases hm : m < 0
  · have hr := rt_a (B := B) (off := off) hm
    simp only [rtVLaw, rtOLaw, rtELaw, hr]
    have hc : Small prog (fun _ => none) 32 [.var 0 gR, .int .i64 m] [some ⟨.agg [.slice 1 1 g 0 B.length none, .int .i64 (off : Nat), .int .i64 0], gR, true, 57⟩, some ⟨.ints .u8 B, g, false, 5⟩] .nilSlice [some ⟨.agg [.slice 1 1 g 0 B.length none, .int .i64 (off : Nat), .int .i64 1], gR, true, 57⟩, some ⟨.ints .u8 B, g, false, 5⟩] := by
      refine small_of (R := R32a B g gR off B.length m) eQ1_ok hmC (f := 32) (fn := f32) (by kernel_rfl) (by kernel_rfl) FnOrc.nil rfl (R32a_ok ?_) R32a_val R32a_tab
      simp only [allP, Con.h, hm, decide_eq_true_eq, decide_eq_false_iff_not, not_false_eq_true, eq_self, true_and, and_true]
    exact small_nilG .u8 5 1 hc (Nat.le_refl 2)
  by_cases hl : ((B.length - off : Nat) : Int) < m
  · have hr := rt_s hm hl
    simp only [rtVLaw, rtOLaw, rtELaw, hr]
    have hc : Small prog (fun _ => none) 32 [.var 0 gR, .int .i64 m] [some ⟨.agg [.slice 1 1 g 0 B.length none, .int .i64 (off : Nat), .int .i64 0], gR, true, 57⟩, some ⟨.ints .u8 B, g, false, 5⟩] .nilSlice [some ⟨.agg [.slice 1 1 g 0 B.length none, .int .i64 (off : Nat), .int .i64 20], gR, true, 57⟩, some ⟨.ints .u8 B, g, false, 5⟩] := by
      refine small_of (R := R32s B g gR off B.length m) eQ1_ok hmC (f := 32) (fn := f32) (by kernel_rfl) (by kernel_rfl) FnOrc.nil rfl (R32s_ok ?_) R32s_val R32s_tab
      simp only [allP, Con.h, hm, hl, h2, h4, decide_eq_true_eq, decide_eq_false_iff_not, not_false_eq_true, eq_self, true_and, and_true]
    exact small_nilG .u8 5 1 hc (Nat.le_refl 2)
  obtain ⟨k, rfl⟩ : ∃ k : Nat, m = (k : Nat) := ⟨m.toNat, by omega⟩
  have hr := rt_g hl
  have hk : (subLaw B off k).length = k := subLaw_len (by omega)
  have e1 : ((off : Int) + (k : Int) - (k : Int)).toNat = off := by omega
  have e2 : off + k - off = k := by omega
  have e3 : (off : Int) + (k : Int) = ((off + k : Nat) : Int) := by omega
  simp only [rtVLaw, rtOLaw, rtELaw, hr]
  refine small_ofG (R := R32g B g gR off B.length k) (keep := [0,1,2]) eQ1_ok hmC (f := 32) (fn := f32) (by kernel_rfl) (by kernel_rfl) FnOrc.nil rfl (R32g_ok ?_) (by rw [R32g_val, e1, subO_eq, e2, hk]) (by rw [R32g_tab, e1, subO_eq, e2, dropO_eq, e3]; rfl)
  rw [e1]
  simp only [allP, Con.h, subO_eq, e2, hl, h2, h4, decide_eq_true_eq, decide_eq_false_iff_not, not_false_eq_true, eq_self, true_and, and_true]
  omega
noncomputable def sm32 : Summary := fun args T => sm32c args T (xsAt T 1) (gAt T 1) (gAt T 0) ((iOf (cAt T 0 1)).toNat) (lenOf (cAt T 0 0)) (iOf (cAt T 0 2)) (iOf (vAt args 1))
theorem sm32_ok : SmOk prog (fun _ => none) 32 sm32 := fun args T h => sm32c_ok h
noncomputable def S32r : Summary := callR sm32 [true]
theorem S32r_ok : SumOk prog (fun _ => none) 32 S32r := callR_ok sm32_ok [true]
noncomputable def sm37c (args : List AVal) (T : Tab) (B : List Int) (g : Nat) (gR : Nat) (off : Nat) (nB : Nat) (e : Int) : Res := ⟨[.tab T [some ⟨.agg [.slice 1 1 g 0 nB none, .int .i64 (off : Nat), .int .i64 e], gR, true, 57⟩, some ⟨.ints .u8 B, g, false, 5⟩], .val (.tuple args) (.tuple [.var 0 gR]), .eqN nB B.length, .leN off B.length, .p (ByLaw B), .leN B.length 140737488355000], .int .i64 (reLaw B off e), [some ⟨.agg [.slice 1 1 g 0 nB none, .int .i64 (off : Nat), .int .i64 e], gR, true, 57⟩, some ⟨.ints .u8 B, g, false, 5⟩]⟩
theorem sm37c_ok {args : List AVal} {T : Tab} {B : List Int} {g : Nat} {gR : Nat} {off : Nat} {nB : Nat} {e : Int} (h : allP (sm37c args T B g gR off nB e).cs) : Small prog (fun _ => none) 37 args T (sm37c args T B g gR off nB e).val (sm37c args T B g gR off nB e).tab := by
  obtain ⟨hT, hv, h1, h2, h3, h4, _⟩ := h
  simp only [Con.h] at hT hv h1 h2 h3 h4
  injection hv with hv
  subst hT hv
  show Small prog (fun _ => none) 37 [.var 0 gR] [some ⟨.agg [.slice 1 1 g 0 nB none, .int .i64 (off : Nat), .int .i64 e], gR, true, 57⟩, some ⟨.ints .u8 B, g, false, 5⟩] (.int .i64 (reLaw B off e)) [some ⟨.agg [.slice 1 1 g 0 nB none, .int .i64 (off : Nat), .int .i64 e], gR, true, 57⟩, some ⟨.ints .u8 B, g, false, 5⟩]
  subst h1
  by_cases he : e = 0
  rotate_left
  · have hne : (e == 0) = false := beq_eq_false_iff_ne.2 he
    rw [show reLaw B off e = e from if_pos he]
    refine small_of (R := R37e B g gR off B.length e) eQ1_ok hmC (f := 37) (fn := f37) (by kernel_rfl) (by kernel_rfl) FnOrc.nil rfl (R37e_ok ?_) R37e_val R37e_tab
    simp only [allP, Con.h, hne, not_false_eq_true, eq_self, true_and, and_true]
  subst he
  by_cases hl : 0 < B.length - off
  · rw [show reLaw B off 0 = 21 by unfold reLaw; rw [if_neg (by decide), if_pos hl]]
    refine small_of (R := R37m B g gR off B.length) eQ1_ok hmC (f := 37) (fn := f37) (by kernel_rfl) (by kernel_rfl) FnOrc.nil rfl (R37m_ok ?_) R37m_val R37m_tab
    simp only [allP, Con.h, decide_eq_true_eq, decide_eq_false_iff_not, not_false_eq_true, eq_self, true_and, and_true]
    omega
  · rw [show reLaw B off 0 = 0 by unfold reLaw; rw [if_neg (by decide), if_neg hl]]
    refine small_of (R := R37z B g gR off B.length) eQ1_ok hmC (f := 37) (fn := f37) (by kernel_rfl) (by kernel_rfl) FnOrc.nil rfl (R37z_ok ?_) R37z_val R37z_tab
    simp only [allP, Con.h, decide_eq_true_eq, decide_eq_false_iff_not, not_false_eq_true, eq_self, true_and, and_true]
    omega
noncomputable def sm37 : Summary := fun args T => sm37c args T (xsAt T 1) (gAt T 1) (gAt T 0) ((iOf (cAt T 0 1)).toNat) (lenOf (cAt T 0 0)) (iOf (cAt T 0 2))
theorem sm37_ok : SmOk prog (fun _ => none) 37 sm37 := fun args T h => sm37c_ok h
noncomputable def S37r : Summary := callR sm37 [true]
theorem S37r_ok : SumOk prog (fun _ => none) 37 S37r := callR_ok sm37_ok [true]
end Go.Abs

set_option linter.unusedVariables false
set_option linter.unusedSimpArgs false
set_option maxRecDepth 100000
set_option maxHeartbeats 4000000
namespace Go.Abs
open Go.Proofs Go.Proofs.Try
/-! ### the document: the reader: Vector -/
noncomputable def eQ2 : Env := eC0 [(28, S28r), (32, S32r)]
theorem eQ2_ok : EnvOk eQ2 := envOf_ok tysC_ok (SumsOk.cons (fn := f28) S28r_ok (by kernel_rfl) (by kernel_rfl) (by kernel_rfl) (SumsOk.cons (fn := f32) S32r_ok (by kernel_rfl) (by kernel_rfl) (by kernel_rfl) trivial))
noncomputable def R30a (B : List Int) (g gR off nB : Nat) (e : Int) : Res := resG 2 [0,1] (runF eQ2 f30 [] 400 [.var 0 gR] [some ⟨.agg [.slice 1 1 g 0 nB none, .int .i64 (off : Nat), .int .i64 e], gR, true, 57⟩, some ⟨.ints .u8 B, g, false, 5⟩] [some false, some true])
theorem R30a_ok {B : List Int} {g gR off nB : Nat} {e : Int} (h : allP [.eqN gR gR, .eqN gR gR, .eqN gR gR, .eqN g g, .eqN nB B.length, .leN off B.length, .p (ByLaw B), .leN B.length 140737488355000, .eqN gR gR, .eqN gR gR, .eqN gR gR, .p ((rlELaw B off e == 0) = false), .eqN g g, .eqN nB B.length, .leN (rlOLaw B off e) B.length, .p (ByLaw B), .leN B.length 140737488355000, .eqN gR gR, .eqN gR gR,
 .eqN gR gR, .p ((rtELaw B (rlOLaw B off e) (rlELaw B off e) (rlVLaw B off e) != 0) = true), .eqN gR gR, .eqN gR gR, .eqN gR gR]) : OkR (R30a B g gR off nB e) := OkR.dem (fl := bitsF 34 15099510792) (by kernel_rfl) (by kernel_rfl) (by kernel_rfl) h
theorem R30a_val {B : List Int} {g gR off nB : Nat} {e : Int} : (R30a B g gR off nB e).val = .nilSlice := by kernel_rfl
theorem R30a_tab {B : List Int} {g gR off nB : Nat} {e : Int} : (R30a B g gR off nB e).tab = [some ⟨.agg [.slice 1 1 g 0 nB none, .int .i64 (↑off : Int), .int .i64 (rtELaw B (rlOLaw B off e) (rlELaw B off e) (rlVLaw B off e))], gR, true, 57⟩, some ⟨.ints .u8 B, g, false, 5⟩] := by kernel_rfl
noncomputable def R30b (B : List Int) (g gR off nB : Nat) : Res := resG 2 [0,1] (runF eQ2 f30 [] 400 [.var 0 gR] [some ⟨.agg [.slice 1 1 g 0 nB none, .int .i64 (off : Nat), .int .i64 0], gR, true, 57⟩, some ⟨.ints .u8 B, g, false, 5⟩] [some true, some true, some true])
theorem R30b_ok {B : List Int} {g gR off nB : Nat} (h : allP [.eqN gR gR, .eqN gR gR, .eqN gR gR, .eqN g g, .eqN nB B.length, .leN off B.length, .p (ByLaw B), .leN B.length 140737488355000, .eqN gR gR, .eqN gR gR, .eqN gR gR, .p ((rlELaw B off (OfNat.ofNat 0) == 0) = true), .p (decide (65536 < rlVLaw B off (OfNat.ofNat 0)) = true), .eqN gR gR, .eqN gR gR, .eqN gR gR, .eqN g g, .eqN nB B.length,
 .leN (rlOLaw B off (OfNat.ofNat 0)) B.length, .p (ByLaw B), .leN B.length 140737488355000, .eqN gR gR, .eqN gR gR, .eqN gR gR, .p (true = true), .eqN gR gR, .eqN gR gR, .eqN gR gR]) : OkR (R30b B g gR off nB) := OkR.dem (fl := bitsF 41 1932742639624) (by kernel_rfl) (by kernel_rfl) (by kernel_rfl) h
theorem R30b_val {B : List Int} {g gR off nB : Nat} : (R30b B g gR off nB).val = .nilSlice := by kernel_rfl
theorem R30b_tab {B : List Int} {g gR off nB : Nat} : (R30b B g gR off nB).tab = [some ⟨.agg [.slice 1 1 g 0 nB none, .int .i64 (↑off : Int), .int .i64 (rtELaw B (rlOLaw B off (OfNat.ofNat 0)) (OfNat.ofNat 21) (rlVLaw B off (OfNat.ofNat 0)))], gR, true, 57⟩, some ⟨.ints .u8 B, g, false, 5⟩] := by kernel_rfl
noncomputable def R30c (B : List Int) (g gR off nB : Nat) : Res := resG 2 [0,1] (runF eQ2 f30 [] 400 [.var 0 gR] [some ⟨.agg [.slice 1 1 g 0 nB none, .int .i64 (off : Nat), .int .i64 0], gR, true, 57⟩, some ⟨.ints .u8 B, g, false, 5⟩] [some true, some false, some true])
theorem R30c_ok {B : List Int} {g gR off nB : Nat} (h : allP [.eqN gR gR, .eqN gR gR, .eqN gR gR, .eqN g g, .eqN nB B.length, .leN off B.length, .p (ByLaw B), .leN B.length 140737488355000, .eqN gR gR, .eqN gR gR, .eqN gR gR, .p ((rlELaw B off (OfNat.ofNat 0) == 0) = true), .p (decide (65536 < rlVLaw B off (OfNat.ofNat 0)) = false), .eqN g g, .eqN nB B.length, .leN (rlOLaw B off (OfNat.ofNat 0))
 B.length, .p (ByLaw B), .leN B.length 140737488355000, .eqN gR gR, .eqN gR gR, .eqN gR gR, .p ((rtELaw B (rlOLaw B off (OfNat.ofNat 0)) (rlELaw B off (OfNat.ofNat 0)) (rlVLaw B off (OfNat.ofNat 0)) != 0) = true), .eqN gR gR, .eqN gR gR, .eqN gR gR]) : OkR (R30c B g gR off nB) := OkR.dem (fl := bitsF 35 30199005192) (by kernel_rfl) (by kernel_rfl) (by kernel_rfl) h
theorem R30c_val {B : List Int} {g gR off nB : Nat} : (R30c B g gR off nB).val = .nilSlice := by kernel_rfl
theorem R30c_tab {B : List Int} {g gR off nB : Nat} : (R30c B g gR off nB).tab = [some ⟨.agg [.slice 1 1 g 0 nB none, .int .i64 (↑off : Int), .int .i64 (rtELaw B (rlOLaw B off (OfNat.ofNat 0)) (rlELaw B off (OfNat.ofNat 0)) (rlVLaw B off (OfNat.ofNat 0)))], gR, true, 57⟩, some ⟨.ints .u8 B, g, false, 5⟩] := by kernel_rfl
noncomputable def R30d (B : List Int) (g gR off nB : Nat) : Res := resG 2 [0,1,2] (runF eQ2 f30 [] 400 [.var 0 gR] [some ⟨.agg [.slice 1 1 g 0 nB none, .int .i64 (off : Nat), .int .i64 0], gR, true, 57⟩, some ⟨.ints .u8 B, g, false, 5⟩] [some true, some false, some false])
theorem R30d_ok {B : List Int} {g gR off nB : Nat} (h : allP [.eqN gR gR, .eqN gR gR, .eqN gR gR, .eqN g g, .eqN nB B.length, .leN off B.length, .p (ByLaw B), .leN B.length 140737488355000, .eqN gR gR, .eqN gR gR, .eqN gR gR, .p ((rlELaw B off (OfNat.ofNat 0) == 0) = true), .p (decide (65536 < rlVLaw B off (OfNat.ofNat 0)) = false), .eqN g g, .eqN nB B.length, .leN (rlOLaw B off (OfNat.ofNat 0))
 B.length, .p (ByLaw B), .leN B.length 140737488355000, .eqN gR gR, .eqN gR gR, .eqN gR gR, .p ((rtELaw B (rlOLaw B off (OfNat.ofNat 0)) (rlELaw B off (OfNat.ofNat 0)) (rlVLaw B off (OfNat.ofNat 0)) != 0) = false)]) : OkR (R30d B g gR off nB) := OkR.dem (fl := bitsF 29 134234120) (by kernel_rfl) (by kernel_rfl) (by kernel_rfl) h
theorem R30d_val {B : List Int} {g gR off nB : Nat} : (R30d B g gR off nB).val = .slice 1 2 1 0 (rtVLaw B (rlOLaw B off (OfNat.ofNat 0)) (rlELaw B off (OfNat.ofNat 0)) (rlVLaw B off (OfNat.ofNat 0))).length none := by kernel_rfl
theorem R30d_tab {B : List Int} {g gR off nB : Nat} : (R30d B g gR off nB).tab = [some ⟨.agg [.slice 1 1 g 0 nB none, .int .i64 (↑(rtOLaw B (rlOLaw B off (OfNat.ofNat 0)) (rlELaw B off (OfNat.ofNat 0)) (rlVLaw B off (OfNat.ofNat 0))) : Int), .int .i64 (rtELaw B (rlOLaw B off (OfNat.ofNat 0)) (rlELaw B off (OfNat.ofNat 0)) (rlVLaw B off (OfNat.ofNat 0)))], gR, true, 57⟩, some ⟨.ints .u8 B, g, false,
 5⟩, some ⟨.ints .u8 (rtVLaw B (rlOLaw B off (OfNat.ofNat 0)) (rlELaw B off (OfNat.ofNat 0)) (rlVLaw B off (OfNat.ofNat 0))), 1, true, 5⟩] := by kernel_rfl
end Go.Abs

set_option linter.unusedVariables false
set_option linter.unusedSimpArgs false
set_option maxRecDepth 100000
set_option maxHeartbeats 4000000
namespace Go.Abs
open Go.Proofs Go.Proofs.Try
/-! ### the document: the reader: Vector answers -/
theorem rtV_err {B : List Int} {off : Nat} {e m : Int} (h : rtELaw B off e m ≠ 0) : rtVLaw B off e m = [] := by
  unfold rtELaw at h
  unfold rtVLaw
  unfold rtP at h ⊢
  split
  · rfl
  split
  · rfl
  split
  · rfl
  · rename_i a b c
    rw [if_neg a, if_neg b, if_neg c] at h
    exact absurd rfl h
noncomputable def sm30c (args : List AVal) (T : Tab) (B : List Int) (g : Nat) (gR : Nat) (off : Nat) (nB : Nat) (e : Int) : Res := ⟨[.tab T [some ⟨.agg [.slice 1 1 g 0 nB none, .int .i64 (off : Nat), .int .i64 e], gR, true, 57⟩, some ⟨.ints .u8 B, g, false, 5⟩], .val (.tuple args) (.tuple [.var 0 gR]), .eqN nB B.length, .leN off B.length, .p (ByLaw B), .leN B.length 140737488355000], .slice 1 2 1 0 (rvVLaw B off e).length none, [some ⟨.agg [.slice 1 1 g 0 nB none, .int .i64 (rvOLaw B off e : Nat), .int .i64 (rvELaw B off e)], gR, true, 57⟩, some ⟨.ints .u8 B, g, false, 5⟩, some ⟨.ints .u8 (rvVLaw B off e), 1, true, 5⟩]⟩
theorem sm30c_ok {args : List AVal} {T : Tab} {B : List Int} {g : Nat} {gR : Nat} {off : Nat} {nB : Nat} {e : Int} (h : allP (sm30c args T B g gR off nB e).cs) : Small prog (fun _ => none) 30 args T (sm30c args T B g gR off nB e).val (sm30c args T B g gR off nB e).tab := by
  obtain ⟨hT, hv, h1, h2, h3, h4, _⟩ := h
  simp only [Con.h] at hT hv h1 h2 h3 h4
  injection hv with hv
  subst hT hv
  show Small prog (fun _ => none) 30 [.var 0 gR] [some ⟨.agg [.slice 1 1 g 0 nB none, .int .i64 (off : Nat), .int .i64 e], gR, true, 57⟩, some ⟨.ints .u8 B, g, false, 5⟩] (.slice 1 2 1 0 (rvVLaw B off e).length none) [some ⟨.agg [.slice 1 1 g 0 nB none, .int .i64 (rvOLaw B off e : Nat), .int .i64 (rvELaw B off e)], gR, true, 57⟩, some ⟨.ints .u8 B, g, false, 5⟩, some ⟨.ints .u8 (rvVLaw B off e), 1, true, 5⟩]
  have hb : ByLaw B := h3
  subst h1
  by_cases he : e = 0
  rotate_left
  · have hr := rv_e (B := B) (off := off) he
    have hl := rl_e (B := B) (off := off) he
    have q0 : rlELaw B off e = e := by unfold rlELaw; rw [hl]
    have q3 : rlOLaw B off e = off := by unfold rlOLaw; rw [hl]
    have q4 := rtE_e (B := B) (off := off) (rlVLaw B off e) he
    have q1 : (e == 0) = false := beq_eq_false_iff_ne.2 he
    have q2 : (e != 0) = true := bne_iff_ne.2 he
    simp only [rvVLaw, rvOLaw, rvELaw, hr]
    have hc : Small prog (fun _ => none) 30 [.var 0 gR] [some ⟨.agg [.slice 1 1 g 0 B.length none, .int .i64 (off : Nat), .int .i64 e], gR, true, 57⟩, some ⟨.ints .u8 B, g, false, 5⟩] .nilSlice [some ⟨.agg [.slice 1 1 g 0 B.length none, .int .i64 (off : Nat), .int .i64 e], gR, true, 57⟩, some ⟨.ints .u8 B, g, false, 5⟩] := by
      refine small_ofG (R := R30a B g gR off B.length e) (keep := [0,1]) eQ2_ok hmC (f := 30) (fn := f30) (by kernel_rfl) (by kernel_rfl) FnOrc.nil rfl (R30a_ok ?_) R30a_val (by rw [R30a_tab, q0, q3, q4])
      simp only [allP, Con.h, hb, q0, q1, q3, q4, q2, h2, h4, not_false_eq_true, eq_self, true_and, and_true]
    exact small_nilG .u8 5 1 hc (Nat.le_refl 2)
  subst he
  have ho := rl_off h2 0
  by_cases h0 : rlELaw B off 0 = 0
  rotate_left
  · have e1 : rvE1 B off = rlELaw B off 0 := if_neg (fun k => h0 k.1)
    have hE := rtE_e (B := B) (off := rlOLaw B off 0) (rlVLaw B off 0) h0
    have hN : rtELaw B (rlOLaw B off 0) (rlELaw B off 0) (rlVLaw B off 0) ≠ 0 := by rw [hE]; exact h0
    have hr := rv_w e1 hN
    have hn := rtV_err hN
    have q1 : (rlELaw B off 0 == 0) = false := beq_eq_false_iff_ne.2 h0
    have q2 : (rlELaw B off 0 != 0) = true := bne_iff_ne.2 h0
    simp only [rvVLaw, rvOLaw, rvELaw, hr]
    rw [hn]
    have hc : Small prog (fun _ => none) 30 [.var 0 gR] [some ⟨.agg [.slice 1 1 g 0 B.length none, .int .i64 (off : Nat), .int .i64 0], gR, true, 57⟩, some ⟨.ints .u8 B, g, false, 5⟩] .nilSlice [some ⟨.agg [.slice 1 1 g 0 B.length none, .int .i64 (off : Nat), .int .i64 (rtELaw B (rlOLaw B off 0) (rlELaw B off 0) (rlVLaw B off 0))], gR, true, 57⟩, some ⟨.ints .u8 B, g, false, 5⟩] := by
      refine small_ofG (R := R30a B g gR off B.length 0) (keep := [0,1]) eQ2_ok hmC (f := 30) (fn := f30) (by kernel_rfl) (by kernel_rfl) FnOrc.nil rfl (R30a_ok ?_) R30a_val R30a_tab
      simp only [allP, Con.h, hb, q1, hE, q2, ho.2, h2, h4, not_false_eq_true, eq_self, true_and, and_true]
    exact small_nilG .u8 5 1 hc (Nat.le_refl 2)
  have q1 : (rlELaw B off 0 == 0) = true := beq_iff_eq.2 h0
  by_cases hv : 65536 < rlVLaw B off 0
  · have e1 : rvE1 B off = 21 := if_pos ⟨h0, hv⟩
    have hE := rtE_e (B := B) (off := rlOLaw B off 0) (e := 21) (rlVLaw B off 0) (by decide)
    have hN : rtELaw B (rlOLaw B off 0) 21 (rlVLaw B off 0) ≠ 0 := by rw [hE]; decide
    have hr := rv_w e1 hN
    have hn := rtV_err hN
    simp only [rvVLaw, rvOLaw, rvELaw, hr]
    rw [hn]
    have hc : Small prog (fun _ => none) 30 [.var 0 gR] [some ⟨.agg [.slice 1 1 g 0 B.length none, .int .i64 (off : Nat), .int .i64 0], gR, true, 57⟩, some ⟨.ints .u8 B, g, false, 5⟩] .nilSlice [some ⟨.agg [.slice 1 1 g 0 B.length none, .int .i64 (off : Nat), .int .i64 (rtELaw B (rlOLaw B off 0) 21 (rlVLaw B off 0))], gR, true, 57⟩, some ⟨.ints .u8 B, g, false, 5⟩] := by
      refine small_ofG (R := R30b B g gR off B.length) (keep := [0,1]) eQ2_ok hmC (f := 30) (fn := f30) (by kernel_rfl) (by kernel_rfl) FnOrc.nil rfl (R30b_ok ?_) R30b_val R30b_tab
      simp only [allP, Con.h, hb, q1, hv, ho.2, h2, h4, decide_eq_true_eq, not_false_eq_true, eq_self, true_and, and_true]
    exact small_nilG .u8 5 1 hc (Nat.le_refl 2)
  have e1 : rvE1 B off = rlELaw B off 0 := if_neg (fun k => hv k.2)
  by_cases hE : rtELaw B (rlOLaw B off 0) (rlELaw B off 0) (rlVLaw B off 0) = 0
  · have hr := rv_g e1 hE
    have q2 : (rtELaw B (rlOLaw B off 0) (rlELaw B off 0) (rlVLaw B off 0) != 0) = false := bne_eq_false_iff_eq.2 hE
    simp only [rvVLaw, rvOLaw, rvELaw, hr]
    refine small_ofG (R := R30d B g gR off B.length) (keep := [0,1,2]) eQ2_ok hmC (f := 30) (fn := f30) (by kernel_rfl) (by kernel_rfl) FnOrc.nil rfl (R30d_ok ?_) R30d_val R30d_tab
    simp only [allP, Con.h, hb, q1, q2, hv, ho.2, h2, h4, decide_eq_true_eq, decide_eq_false_iff_not, not_false_eq_true, eq_self, true_and, and_true]
  · have hr := rv_w e1 hE
    have hn := rtV_err hE
    have q2 : (rtELaw B (rlOLaw B off 0) (rlELaw B off 0) (rlVLaw B off 0) != 0) = true := bne_iff_ne.2 hE
    simp only [rvVLaw, rvOLaw, rvELaw, hr]
    rw [hn]
    have hc : Small prog (fun _ => none) 30 [.var 0 gR] [some ⟨.agg [.slice 1 1 g 0 B.length none, .int .i64 (off : Nat), .int .i64 0], gR, true, 57⟩, some ⟨.ints .u8 B, g, false, 5⟩] .nilSlice [some ⟨.agg [.slice 1 1 g 0 B.length none, .int .i64 (off : Nat), .int .i64 (rtELaw B (rlOLaw B off 0) (rlELaw B off 0) (rlVLaw B off 0))], gR, true, 57⟩, some ⟨.ints .u8 B, g, false, 5⟩] := by
      refine small_ofG (R := R30c B g gR off B.length) (keep := [0,1]) eQ2_ok hmC (f := 30) (fn := f30) (by kernel_rfl) (by kernel_rfl) FnOrc.nil rfl (R30c_ok ?_) R30c_val R30c_tab
      simp only [allP, Con.h, hb, q1, q2, hv, ho.2, h2, h4, decide_eq_true_eq, decide_eq_false_iff_not, not_false_eq_true, eq_self, true_and, and_true]
    exact small_nilG .u8 5 1 hc (Nat.le_refl 2)
noncomputable def sm30 : Summary := fun args T => sm30c args T (xsAt T 1) (gAt T 1) (gAt T 0) ((iOf (cAt T 0 1)).toNat) (lenOf (cAt T 0 0)) (iOf (cAt T 0 2))
theorem sm30_ok : SmOk prog (fun _ => none) 30 sm30 := fun args T h => sm30c_ok h
noncomputable def S30r : Summary := callR sm30 [true]
theorem S30r_ok : SumOk prog (fun _ => none) 30 S30r := callR_ok sm30_ok [true]
end Go.Abs

set_option linter.unusedVariables false
set_option linter.unusedSimpArgs false
set_option maxRecDepth 100000
set_option maxHeartbeats 4000000
namespace Go.Abs
open Go.Proofs Go.Proofs.Try
/-! ### CodecReads -/
noncomputable def eW : Env := eC0 [(12, S12), (13, S13), (15, S15), (23, S23r), (24, S24r), (25, S25r), (26, S26r), (27, S27r), (28, S28r), (29, S29r), (30, S30r), (31, S31r), (32, S32r), (33, S33), (34, S34r), (35, S35), (36, S36r), (37, S37r)]
theorem eW_ok : EnvOk eW := envOf_ok tysC_ok (SumsOk.cons (fn := f12) S12_ok (by kernel_rfl) (by kernel_rfl) (by kernel_rfl) (SumsOk.cons (fn := f13) S13_ok (by kernel_rfl) (by kernel_rfl) (by kernel_rfl) (SumsOk.cons (fn := f15) S15_ok (by kernel_rfl) (by kernel_rfl) (by kernel_rfl) (SumsOk.cons (fn := f23) S23r_ok (by kernel_rfl) (by kernel_rfl) (by kernel_rfl) (SumsOk.cons (fn := f24) S24r_ok (by kernel_rfl) (by kernel_rfl) (by kernel_rfl) (SumsOk.cons (fn := f25) S25r_ok (by kernel_rfl) (by kernel_rfl) (by kernel_rfl) (SumsOk.cons (fn := f26) S26r_ok (by kernel_rfl) (by kernel_rfl) (by kernel_rfl) (SumsOk.cons (fn := f27) S27r_ok (by kernel_rfl) (by kernel_rfl) (by kernel_rfl) (SumsOk.cons (fn := f28) S28r_ok (by kernel_rfl) (by kernel_rfl) (by kernel_rfl) (SumsOk.cons (fn := f29) S29r_ok (by kernel_rfl) (by kernel_rfl) (by kernel_rfl) (SumsOk.cons (fn := f30) S30r_ok (by kernel_rfl) (by kernel_rfl) (by kernel_rfl) (SumsOk.cons (fn := f31) S31r_ok (by kernel_rfl) (by kernel_rfl) (by kernel_rfl) (SumsOk.cons (fn := f32) S32r_ok (by kernel_rfl) (by kernel_rfl) (by kernel_rfl) (SumsOk.cons (fn := f33) S33_ok (by kernel_rfl) (by kernel_rfl) (by kernel_rfl) (SumsOk.cons (fn := f34) S34r_ok (by kernel_rfl) (by kernel_rfl) (by kernel_rfl) (SumsOk.cons (fn := f35) S35_ok (by kernel_rfl) (by kernel_rfl) (by kernel_rfl) (SumsOk.cons (fn := f36) S36r_ok (by kernel_rfl) (by kernel_rfl) (by kernel_rfl) (SumsOk.cons (fn := f37) S37r_ok (by kernel_rfl) (by kernel_rfl) (by kernel_rfl) trivial))))))))))))))))))
end Go.Abs

set_option linter.unusedVariables false
set_option linter.unusedSimpArgs false
set_option maxRecDepth 100000
set_option maxHeartbeats 4000000
namespace Go.Abs
open Go.Proofs Go.Proofs.Try
end Go.Abs

set_option linter.unusedVariables false
set_option linter.unusedSimpArgs false
set_option maxRecDepth 100000
set_option maxHeartbeats 4000000
namespace Go.Abs
open Go.Proofs Go.Proofs.Try
/-! ### CodecReads: the law -/
theorem AWp.cutTG {E : Env} (hE : EnvOk E) (hm : E.P.follows .mixedOrders = true) {n k m : Nat} {f : Nat} {post : AExit → Fm → Tab → Prop} {c : Code} (j : Nat) {fm : Fm} {T : Tab} {ds : List (Option Bool)} {slots : List Nat} {o : Out} (ho : Abs.trim k m slots (runs E n ⟨k, []⟩ f (frontC j c) fm T ds) = o) (hc : Ok o) (hx : o.ex = .normal) (h : AWp E n k (backC j c) o.fm o.tab post) : AWp E n k c fm T post := by
  generalize hr : runs E n ⟨k, []⟩ f (frontC j c) fm T ds = r at ho
  obtain ⟨cs, ex, fm1, T1, ds1⟩ := r
  unfold Abs.trim at ho
  simp only at ho
  split at ho
  · rename_i g hp hb
    subst ho
    exact AWp.cut hE hm j hr ⟨hc.h⟩ hx (AWp.enter hp hb h)
  · subst ho
    exact absurd hc.h failO_no
end Go.Abs

set_option linter.unusedVariables false
set_option linter.unusedSimpArgs false
set_option maxRecDepth 100000
namespace Go.Abs
open Go.Proofs Go.Proofs.Try
/-! ### CodecNumbers: what was written is read back -/
theorem mid_get {P x S : List Int} {i : Nat} (h : i < x.length) : (P ++ x ++ S).getD (P.length + i) 0 = x.getD i 0 := by
  rw [List.getD_eq_getElem?_getD, List.getD_eq_getElem?_getD, List.append_assoc, List.getElem?_append_right (by omega), show P.length + i - P.length = i by omega, List.getElem?_append_left h]
theorem iand_mod {a : Int} (k : Nat) (ha : 0 ≤ a) : iand a ((2 : Int) ^ k - 1) = a % 2 ^ k := by
  obtain ⟨n, rfl⟩ := Int.eq_ofNat_of_zero_le ha
  have e : ((2 : Int) ^ k - 1) = ((2 ^ k - 1 : Nat) : Int) := by
    have : 1 ≤ 2 ^ k := Nat.one_le_two_pow
    rw [Int.ofNat_sub this]
    simp
  unfold iand
  rw [e, Int.toNat_natCast, Int.toNat_natCast, Nat.and_two_pow_sub_one_eq_mod]
  simp
theorem rl_back {P S : List Int} {n : Int} (h0 : 0 ≤ n) (h1 : n < 1073741824) : rlP (P ++ lenLaw n ++ S) P.length 0 = (n, P.length + (lenLaw n).length, 0) := by
  by_cases ha : n < 64
  · rw [(len_a h0 ha).1]
    have g0 : (P ++ [n / 1 % 256] ++ S).getD (P.length + 0) 0 = n / 1 % 256 := mid_get (by show 0 < 1; decide)
    rw [Nat.add_zero] at g0
    have hl : (P ++ [n / 1 % 256] ++ S).length = P.length + 1 + S.length := by simp; omega
    have hv : iand (numAtLaw 1 (P ++ [n / 1 % 256] ++ S) P.length) 63 = n := by
      have e : numAtLaw 1 (P ++ [n / 1 % 256] ++ S) P.length = n := by
        show beN 1 _ _ = n
        unfold beN beN
        rw [Nat.add_zero, g0]
        omega
      rw [e]
      have := iand_mod 6 h0
      rw [show ((2 : Int) ^ 6 - 1) = 63 by decide, show ((2 : Int) ^ 6) = 64 by decide] at this
      rw [this]
      omega
    rw [rl_0 (by rw [hl]; omega) (by rw [g0]; omega), rlT_g (by rw [hl]; omega) (by rw [hv]; omega), hv]
    rfl
  by_cases hb : n < 16384
  · rw [(len_b (by omega) hb).1]
    have g0 : (P ++ [(n + 16384) / 256 % 256, (n + 16384) / 1 % 256] ++ S).getD (P.length + 0) 0 = (n + 16384) / 256 % 256 := mid_get (by show 0 < 2; decide)
    have g1 : (P ++ [(n + 16384) / 256 % 256, (n + 16384) / 1 % 256] ++ S).getD (P.length + 1) 0 = (n + 16384) / 1 % 256 := mid_get (by show 1 < 2; decide)
    rw [Nat.add_zero] at g0
    have hl : (P ++ [(n + 16384) / 256 % 256, (n + 16384) / 1 % 256] ++ S).length = P.length + 2 + S.length := by simp; omega
    have hv : iand (numAtLaw 2 (P ++ [(n + 16384) / 256 % 256, (n + 16384) / 1 % 256] ++ S) P.length) 16383 = n := by
      have e : numAtLaw 2 (P ++ [(n + 16384) / 256 % 256, (n + 16384) / 1 % 256] ++ S) P.length = n + 16384 := by
        show beN 2 _ _ = n + 16384
        unfold beN beN beN
        rw [Nat.add_zero, g0, g1]
        omega
      rw [e]
      have := iand_mod (a := n + 16384) 14 (by omega)
      rw [show ((2 : Int) ^ 14 - 1) = 16383 by decide, show ((2 : Int) ^ 14) = 16384 by decide] at this
      rw [this]
      omega
    rw [rl_1 (by rw [hl]; omega) (by rw [g0]; omega), rlT_g (by rw [hl]; omega) (by rw [hv]; omega), hv]
    rfl
  · rw [(len_c (by omega) h1).1]
    have g0 : (P ++ [(n + 2147483648) / 16777216 % 256, (n + 2147483648) / 65536 % 256, (n + 2147483648) / 256 % 256, (n + 2147483648) / 1 % 256] ++ S).getD (P.length + 0) 0 = (n + 2147483648) / 16777216 % 256 := mid_get (by show 0 < 4; decide)
    have g1 : (P ++ [(n + 2147483648) / 16777216 % 256, (n + 2147483648) / 65536 % 256, (n + 2147483648) / 256 % 256, (n + 2147483648) / 1 % 256] ++ S).getD (P.length + 1) 0 = (n + 2147483648) / 65536 % 256 := mid_get (by show 1 < 4; decide)
    have g2 : (P ++ [(n + 2147483648) / 16777216 % 256, (n + 2147483648) / 65536 % 256, (n + 2147483648) / 256 % 256, (n + 2147483648) / 1 % 256] ++ S).getD (P.length + 2) 0 = (n + 2147483648) / 256 % 256 := mid_get (by show 2 < 4; decide)
    have g3 : (P ++ [(n + 2147483648) / 16777216 % 256, (n + 2147483648) / 65536 % 256, (n + 2147483648) / 256 % 256, (n + 2147483648) / 1 % 256] ++ S).getD (P.length + 3) 0 = (n + 2147483648) / 1 % 256 := mid_get (by show 3 < 4; decide)
    rw [Nat.add_zero] at g0
    have hl : (P ++ [(n + 2147483648) / 16777216 % 256, (n + 2147483648) / 65536 % 256, (n + 2147483648) / 256 % 256, (n + 2147483648) / 1 % 256] ++ S).length = P.length + 4 + S.length := by simp; omega
    have hv : iand (numAtLaw 4 (P ++ [(n + 2147483648) / 16777216 % 256, (n + 2147483648) / 65536 % 256, (n + 2147483648) / 256 % 256, (n + 2147483648) / 1 % 256] ++ S) P.length) 1073741823 = n := by
      have e : numAtLaw 4 (P ++ [(n + 2147483648) / 16777216 % 256, (n + 2147483648) / 65536 % 256, (n + 2147483648) / 256 % 256, (n + 2147483648) / 1 % 256] ++ S) P.length = n + 2147483648 := by
        show beN 4 _ _ = n + 2147483648
        unfold beN beN beN beN beN
        rw [Nat.add_zero, g0, g1, g2, g3]
        omega
      rw [e]
      have := iand_mod (a := n + 2147483648) 30 (by omega)
      rw [show ((2 : Int) ^ 30 - 1) = 1073741823 by decide, show ((2 : Int) ^ 30) = 1073741824 by decide] at this
      rw [this]
      omega
    rw [rl_2 (by rw [hl]; omega) (by rw [g0]; omega), rlT_g (by rw [hl]; omega) (by rw [hv]; omega), hv]
    rfl
end Go.Abs

set_option linter.unusedVariables false
set_option linter.unusedSimpArgs false
set_option maxRecDepth 100000
set_option maxHeartbeats 4000000
namespace Go.Abs
open Go.Proofs Go.Proofs.Try
end Go.Abs

set_option linter.unusedVariables false
set_option linter.unusedSimpArgs false
set_option maxRecDepth 100000
set_option maxHeartbeats 4000000
namespace Go.Abs
open Go.Proofs Go.Proofs.Try
end Go.Abs

set_option linter.unusedVariables false
set_option linter.unusedSimpArgs false
set_option maxRecDepth 100000
set_option maxHeartbeats 4000000
namespace Go.Abs
open Go.Proofs Go.Proofs.Try
end Go.Abs

set_option linter.unusedVariables false
set_option linter.unusedSimpArgs false
set_option maxRecDepth 100000
set_option maxHeartbeats 4000000
namespace Go.Abs
open Go.Proofs Go.Proofs.Try
end Go.Abs

set_option linter.unusedVariables false
set_option linter.unusedSimpArgs false
set_option maxRecDepth 100000
namespace Go.Abs
open Go.Proofs Go.Proofs.Try
end Go.Abs

set_option linter.unusedVariables false
set_option linter.unusedSimpArgs false
set_option maxRecDepth 100000
set_option maxHeartbeats 4000000
namespace Go.Abs
open Go.Proofs Go.Proofs.Try
end Go.Abs

set_option linter.unusedVariables false
set_option linter.unusedSimpArgs false
set_option maxRecDepth 100000
set_option maxHeartbeats 4000000
namespace Go.Abs
open Go.Proofs Go.Proofs.Try
end Go.Abs

set_option linter.unusedVariables false
set_option linter.unusedSimpArgs false
set_option maxRecDepth 100000
set_option maxHeartbeats 4000000
namespace Go.Abs
open Go.Proofs Go.Proofs.Try
end Go.Abs

set_option linter.unusedVariables false
set_option linter.unusedSimpArgs false
set_option maxRecDepth 100000
set_option maxHeartbeats 4000000
namespace Go.Abs
open Go.Proofs Go.Proofs.Try
/-! ### Vectors: one behind the other -/
def vec1Law (bs : List Int) : List Int := lenLaw bs.length ++ bs
def jnVLaw : List (List Int) → List Int
  | [] => []
  | b :: Z => vec1Law b ++ jnVLaw Z
theorem jnVLaw_app : ∀ (Y Z : List (List Int)), jnVLaw (Y ++ Z) = jnVLaw Y ++ jnVLaw Z
  | [], Z => rfl
  | b :: Y, Z => by rw [List.cons_append, jnVLaw, jnVLaw, jnVLaw_app Y Z, List.append_assoc]
theorem jnVLaw_step {Y : List (List Int)} {k : Nat} (h : k < Y.length) : jnVLaw (Y.take (k + 1)) = jnVLaw (Y.take k) ++ (lenLaw (Y.getD k []).length ++ Y.getD k []) := by
  have e : Y.take (k + 1) = Y.take k ++ [Y.getD k []] := by rw [List.take_add_one, List.getD_eq_getElem?_getD, List.getElem?_eq_getElem h]; rfl
  rw [e, jnVLaw_app]
  simp [jnVLaw, vec1Law]
theorem jnVLaw_le (Y : List (List Int)) (k : Nat) : (jnVLaw (Y.take k)).length ≤ (jnVLaw Y).length := by
  have e : jnVLaw Y = jnVLaw (Y.take k) ++ jnVLaw (Y.drop k) := by rw [← jnVLaw_app, List.take_append_drop]
  rw [e, List.length_append]; omega
def FitZLaw (Y : List (List Int)) : Prop := ∀ b ∈ Y, b.length ≤ 65536
instance (Y : List (List Int)) : Decidable (FitZLaw Y) := by unfold FitZLaw; exact inferInstance
def jnLaw (Y : List (List Int)) : List Int := if FitZLaw Y then jnVLaw Y else []
def jnErrLaw (Y : List (List Int)) : Int := if FitZLaw Y then 0 else 6
def jnGLaw (Y : List (List Int)) : Nat := if FitZLaw Y then 2 * Y.length else 0
theorem fit_get {Y : List (List Int)} (h : FitZLaw Y) (k : Nat) : (Y.getD k []).length ≤ 65536 := by
  rw [List.getD_eq_getElem?_getD]
  rcases Nat.lt_or_ge k Y.length with hk | hk
  · rw [List.getElem?_eq_getElem hk]; exact h _ (List.getElem_mem hk)
  · rw [List.getElem?_eq_none hk]; exact Nat.zero_le _
theorem fit_first : ∀ {Y : List (List Int)}, ¬ FitZLaw Y → ∃ k, k < Y.length ∧ 65536 < (Y.getD k []).length ∧ ∀ i, i < k → (Y.getD i []).length ≤ 65536
  | [], h => absurd (fun b hb => by cases hb) h
  | b :: Y, h => by
    by_cases hb : b.length ≤ 65536
    · have : ¬ FitZLaw Y := fun hy => h (fun c hc => by exact (List.mem_cons.1 hc).elim (fun e => e ▸ hb) (hy c))
      obtain ⟨k, h1, h2, h3⟩ := fit_first this
      refine ⟨k + 1, by simpa using h1, by simpa using h2, fun i hi => ?_⟩
      cases i with
      | zero => simpa using hb
      | succ i => simpa using h3 i (by omega)
    · exact ⟨0, by simp, by simpa using hb, fun i hi => by omega⟩
noncomputable def c10a : Code := match backC 2 (bodyOf f10) with | .seq (.seq a _) _ => a | c => c
noncomputable def c10r : Code := match backC 2 (bodyOf f10) with | .seq _ c => c | c => c
theorem split10 : backC 2 (bodyOf f10) = .seq (.seq c10a (.block 0 (.loop (roundOf 0 f10)))) c10r := by kernel_rfl
noncomputable def N10 (z : List Int) (Z : List (List Int)) (gx gF : Nat) (cp : Option Nat) (owX owF : Bool) (eX eF : TypeId) : Out := trim 2 2 [0,4] (runs eC7 31 ⟨2, []⟩ 400 (frontC 2 (bodyOf f10)) [(0, .slice 1 0 gx 0 (Z.length + 1) cp)] [some ⟨.frows 1 gF (z :: Z) [], gx, owX, eX⟩, some ⟨.fam (z :: Z), gF, owF, eF⟩] [])
theorem N10_ok {z : List Int} {Z : List (List Int)} {gx gF : Nat} {cp : Option Nat} {owX owF : Bool} {eX eF : TypeId} (h : allP []) : Ok (N10 z Z gx gF cp owX owF eX eF) := Ok.dem (fl := []) (by kernel_rfl) (by kernel_rfl) (by kernel_rfl) h
theorem N10_ex {z : List Int} {Z : List (List Int)} {gx gF : Nat} {cp : Option Nat} {owX owF : Bool} {eX eF : TypeId} : (N10 z Z gx gF cp owX owF eX eF).ex = .normal := by kernel_rfl
theorem N10_fm {z : List Int} {Z : List (List Int)} {gx gF : Nat} {cp : Option Nat} {owX owF : Bool} {eX eF : TypeId} : (N10 z Z gx gF cp owX owF eX eF).fm = [(0, .slice 1 0 gx 0 (Z.length + 1) cp), (4, .nilSlice)] := by kernel_rfl
theorem N10_tab {z : List Int} {Z : List (List Int)} {gx gF : Nat} {cp : Option Nat} {owX owF : Bool} {eX eF : TypeId} : (N10 z Z gx gF cp owX owF eX eF).tab = [some ⟨AVal.frows 1 gF (z :: Z) [], gx, owX, eX⟩, some ⟨AVal.fam (z :: Z), gF, owF, eF⟩] := by kernel_rfl
noncomputable def I10 (z : List Int) (Z : List (List Int)) (gx gF : Nat) (cp : Option Nat) (owX owF : Bool) (eX eF : TypeId) : Out := trim 2 3 [4,9,10,11] (run eC7 31 ⟨2, []⟩ 400 c10a [(0, .slice 1 0 gx 0 (Z.length + 1) cp), (4, .slice 1 2 0 0 0 none)] [some ⟨.frows 1 gF (z :: Z) [], gx, owX, eX⟩, some ⟨.fam (z :: Z), gF, owF, eF⟩, some ⟨.ints .u8 [], 0, true, 5⟩] [])
theorem I10_ok {z : List Int} {Z : List (List Int)} {gx gF : Nat} {cp : Option Nat} {owX owF : Bool} {eX eF : TypeId} (h : allP [.eqN gx gx]) : Ok (I10 z Z gx gF cp owX owF eX eF) := Ok.dem (fl := [false]) (by kernel_rfl) (by kernel_rfl) (by kernel_rfl) h
theorem I10_ex {z : List Int} {Z : List (List Int)} {gx gF : Nat} {cp : Option Nat} {owX owF : Bool} {eX eF : TypeId} : (I10 z Z gx gF cp owX owF eX eF).ex = .normal := by kernel_rfl
theorem I10_fm {z : List Int} {Z : List (List Int)} {gx gF : Nat} {cp : Option Nat} {owX owF : Bool} {eX eF : TypeId} : (I10 z Z gx gF cp owX owF eX eF).fm = [(4, .slice 1 2 0 0 0 none), (9, .slice 1 0 gx 0 (Z.length + 1) cp), (10, .int .i64 (↑(Z.length + 1) : Int)), (11, .int .i64 0)] := by kernel_rfl
theorem I10_tab {z : List Int} {Z : List (List Int)} {gx gF : Nat} {cp : Option Nat} {owX owF : Bool} {eX eF : TypeId} : (I10 z Z gx gF cp owX owF eX eF).tab = [some ⟨AVal.frows 1 gF (z :: Z) [], gx, owX, eX⟩, some ⟨AVal.fam (z :: Z), gF, owF, eF⟩, some ⟨.ints .u8 [], 0, true, 5⟩] := by kernel_rfl
noncomputable def A10 (z : List Int) (Z : List (List Int)) (X0 : List Int) (i gx gF m : Nat) (cp : Option Nat) (owX owF : Bool) (eX eF : TypeId) : Out := trim 2 3 [4,9,10,11] (run eC7 31 ⟨2, []⟩ 400 (roundOf 0 f10) [(4, .slice 1 2 m 0 X0.length none), (9, .slice 1 0 gx 0 (Z.length + 1) cp), (10, .int .i64 ((Z.length + 1 : Nat) : Int)), (11, .int .i64 (i : Nat))] [some ⟨.frows 1 gF (z :: Z) [], gx, owX, eX⟩, some ⟨.fam (z :: Z), gF, owF, eF⟩, some ⟨.ints .u8 X0, m, true, 5⟩] [some true, some false])
theorem A10_ok {z : List Int} {Z : List (List Int)} {X0 : List Int} {i gx gF m : Nat} {cp : Option Nat} {owX owF : Bool} {eX eF : TypeId} (h : allP [.p (decide ((↑i : Int) < (↑(Z.length + 1) : Int)) = true), .eqN gx gx, .leI 0 (↑i : Int), .leI ((↑i : Int) + 1) (↑(Z.length + 1) : Int), .eqN gx gx, .leN (i + 1) (z :: Z).length, .eqN gF gF, .p (decide (65536 < (↑((z :: Z).getD i []).length : Int)) =
 false), .eqN gF gF, .eqN m m, .leN (0 + X0.length) X0.length, .leN (addO X0.length (lenLaw (↑((z :: Z).getD i []).length : Int)).length) 140737488355328, .leN (0 + (lenLaw (↑((z :: Z).getD i []).length : Int)).length) (lenLaw (↑((z :: Z).getD i []).length : Int)).length, .eqN (m + 1) (m + 1), .leN (0 + addO X0.length (lenLaw (↑((z :: Z).getD i []).length : Int)).length) (List.take X0.length X0 ++
 List.take (lenLaw (↑((z :: Z).getD i []).length : Int)).length (lenLaw (↑((z :: Z).getD i []).length : Int))).length, .leN (addO (addO X0.length (lenLaw (↑((z :: Z).getD i []).length : Int)).length) ((z :: Z).getD i []).length) 140737488355328, .eqN gF gF, .rng (-9223372036854775808) ((↑i : Int) + 1) 9223372036854775807]) : Ok (A10 z Z X0 i gx gF m cp owX owF eX eF) := Ok.dem (fl := bitsF 20 20480)
 (by kernel_rfl) (by kernel_rfl) (by kernel_rfl) h
theorem A10_ex {z : List Int} {Z : List (List Int)} {X0 : List Int} {i gx gF m : Nat} {cp : Option Nat} {owX owF : Bool} {eX eF : TypeId} : (A10 z Z X0 i gx gF m cp owX owF eX eF).ex = .normal := by kernel_rfl
theorem A10_fm {z : List Int} {Z : List (List Int)} {X0 : List Int} {i gx gF m : Nat} {cp : Option Nat} {owX owF : Bool} {eX eF : TypeId} : (A10 z Z X0 i gx gF m cp owX owF eX eF).fm = [(4, .slice 1 2 (m + 1 + 1) 0 (addO (addO X0.length (lenLaw (↑((z :: Z).getD i []).length : Int)).length) ((z :: Z).getD i []).length) none), (9, .slice 1 0 gx 0 (Z.length + 1) cp), (10, .int .i64 (↑(Z.length + 1) :
 Int)), (11, .int .i64 ((↑i : Int) + 1))] := by kernel_rfl
theorem A10_tab {z : List Int} {Z : List (List Int)} {X0 : List Int} {i gx gF m : Nat} {cp : Option Nat} {owX owF : Bool} {eX eF : TypeId} : (A10 z Z X0 i gx gF m cp owX owF eX eF).tab = [some ⟨AVal.frows 1 gF (z :: Z) [], gx, owX, eX⟩, some ⟨AVal.fam (z :: Z), gF, owF, eF⟩, some ⟨.ints .u8 (List.take (addO X0.length (lenLaw (↑((z :: Z).getD i []).length : Int)).length) (List.take X0.length X0 ++
 List.take (lenLaw (↑((z :: Z).getD i []).length : Int)).length (lenLaw (↑((z :: Z).getD i []).length : Int))) ++ (z :: Z).getD i []), m + 1 + 1, true, 5⟩] := by kernel_rfl
noncomputable def B10 (z : List Int) (Z : List (List Int)) (X0 : List Int) (i gx gF m : Nat) (cp : Option Nat) (owX owF : Bool) (eX eF : TypeId) : Out := trim 2 2 [2,3] (run eC7 31 ⟨2, []⟩ 400 (roundOf 0 f10) [(4, .slice 1 2 m 0 X0.length none), (9, .slice 1 0 gx 0 (Z.length + 1) cp), (10, .int .i64 ((Z.length + 1 : Nat) : Int)), (11, .int .i64 (i : Nat))] [some ⟨.frows 1 gF (z :: Z) [], gx, owX, eX⟩, some ⟨.fam (z :: Z), gF, owF, eF⟩, some ⟨.ints .u8 X0, m, true, 5⟩] [some true, some true])
theorem B10_ok {z : List Int} {Z : List (List Int)} {X0 : List Int} {i gx gF m : Nat} {cp : Option Nat} {owX owF : Bool} {eX eF : TypeId} (h : allP [.p (decide ((↑i : Int) < (↑(Z.length + 1) : Int)) = true), .eqN gx gx, .leI 0 (↑i : Int), .leI ((↑i : Int) + 1) (↑(Z.length + 1) : Int), .eqN gx gx, .leN (i + 1) (z :: Z).length, .eqN gF gF, .p (decide (65536 < (↑((z :: Z).getD i []).length : Int)) =
 true)]) : Ok (B10 z Z X0 i gx gF m cp owX owF eX eF) := Ok.dem (fl := [false, false, false, false, false, false, false, false]) (by kernel_rfl) (by kernel_rfl) (by kernel_rfl) h
theorem B10_ex {z : List Int} {Z : List (List Int)} {X0 : List Int} {i gx gF m : Nat} {cp : Option Nat} {owX owF : Bool} {eX eF : TypeId} : (B10 z Z X0 i gx gF m cp owX owF eX eF).ex = .ret := by kernel_rfl
theorem B10_fm {z : List Int} {Z : List (List Int)} {X0 : List Int} {i gx gF m : Nat} {cp : Option Nat} {owX owF : Bool} {eX eF : TypeId} : (B10 z Z X0 i gx gF m cp owX owF eX eF).fm = [(2, .nilSlice), (3, .int .i64 6)] := by kernel_rfl
theorem B10_tab {z : List Int} {Z : List (List Int)} {X0 : List Int} {i gx gF m : Nat} {cp : Option Nat} {owX owF : Bool} {eX eF : TypeId} : (B10 z Z X0 i gx gF m cp owX owF eX eF).tab = [some ⟨AVal.frows 1 gF (z :: Z) [], gx, owX, eX⟩, some ⟨AVal.fam (z :: Z), gF, owF, eF⟩] := by kernel_rfl
noncomputable def D10 (z : List Int) (Z : List (List Int)) (X0 : List Int) (i gx gF m : Nat) (cp : Option Nat) (owX owF : Bool) (eX eF : TypeId) : Out := trim 2 3 [4] (run eC7 31 ⟨2, []⟩ 400 (roundOf 0 f10) [(4, .slice 1 2 m 0 X0.length none), (9, .slice 1 0 gx 0 (Z.length + 1) cp), (10, .int .i64 ((Z.length + 1 : Nat) : Int)), (11, .int .i64 (i : Nat))] [some ⟨.frows 1 gF (z :: Z) [], gx, owX, eX⟩, some ⟨.fam (z :: Z), gF, owF, eF⟩, some ⟨.ints .u8 X0, m, true, 5⟩] [some false])
theorem D10_ok {z : List Int} {Z : List (List Int)} {X0 : List Int} {i gx gF m : Nat} {cp : Option Nat} {owX owF : Bool} {eX eF : TypeId} (h : allP [.p (decide ((↑i : Int) < (↑(Z.length + 1) : Int)) = false)]) : Ok (D10 z Z X0 i gx gF m cp owX owF eX eF) := Ok.dem (fl := [false]) (by kernel_rfl) (by kernel_rfl) (by kernel_rfl) h
theorem D10_ex {z : List Int} {Z : List (List Int)} {X0 : List Int} {i gx gF m : Nat} {cp : Option Nat} {owX owF : Bool} {eX eF : TypeId} : (D10 z Z X0 i gx gF m cp owX owF eX eF).ex = .exit 0 := by kernel_rfl
theorem D10_fm {z : List Int} {Z : List (List Int)} {X0 : List Int} {i gx gF m : Nat} {cp : Option Nat} {owX owF : Bool} {eX eF : TypeId} : (D10 z Z X0 i gx gF m cp owX owF eX eF).fm = [(4, .slice 1 2 m 0 X0.length none)] := by kernel_rfl
theorem D10_tab {z : List Int} {Z : List (List Int)} {X0 : List Int} {i gx gF m : Nat} {cp : Option Nat} {owX owF : Bool} {eX eF : TypeId} : (D10 z Z X0 i gx gF m cp owX owF eX eF).tab = [some ⟨AVal.frows 1 gF (z :: Z) [], gx, owX, eX⟩, some ⟨AVal.fam (z :: Z), gF, owF, eF⟩, some ⟨.ints .u8 X0, m, true, 5⟩] := by kernel_rfl
noncomputable def Z10 (z : List Int) (Z : List (List Int)) (X0 : List Int) (i gx gF m : Nat) (cp : Option Nat) (owX owF : Bool) (eX eF : TypeId) : Out := trim 2 3 [2,3] (run eC7 31 ⟨2, []⟩ 400 c10r [(4, .slice 1 2 m 0 X0.length none)] [some ⟨.frows 1 gF (z :: Z) [], gx, owX, eX⟩, some ⟨.fam (z :: Z), gF, owF, eF⟩, some ⟨.ints .u8 X0, m, true, 5⟩] [])
theorem Z10_ok {z : List Int} {Z : List (List Int)} {X0 : List Int} {i gx gF m : Nat} {cp : Option Nat} {owX owF : Bool} {eX eF : TypeId} (h : allP []) : Ok (Z10 z Z X0 i gx gF m cp owX owF eX eF) := Ok.dem (fl := []) (by kernel_rfl) (by kernel_rfl) (by kernel_rfl) h
theorem Z10_ex {z : List Int} {Z : List (List Int)} {X0 : List Int} {i gx gF m : Nat} {cp : Option Nat} {owX owF : Bool} {eX eF : TypeId} : (Z10 z Z X0 i gx gF m cp owX owF eX eF).ex = .ret := by kernel_rfl
theorem Z10_fm {z : List Int} {Z : List (List Int)} {X0 : List Int} {i gx gF m : Nat} {cp : Option Nat} {owX owF : Bool} {eX eF : TypeId} : (Z10 z Z X0 i gx gF m cp owX owF eX eF).fm = [(2, .slice 1 2 m 0 X0.length none), (3, .int .i64 0)] := by kernel_rfl
theorem Z10_tab {z : List Int} {Z : List (List Int)} {X0 : List Int} {i gx gF m : Nat} {cp : Option Nat} {owX owF : Bool} {eX eF : TypeId} : (Z10 z Z X0 i gx gF m cp owX owF eX eF).tab = [some ⟨AVal.frows 1 gF (z :: Z) [], gx, owX, eX⟩, some ⟨AVal.fam (z :: Z), gF, owF, eF⟩, some ⟨.ints .u8 X0, m, true, 5⟩] := by kernel_rfl
end Go.Abs

set_option linter.unusedVariables false
set_option linter.unusedSimpArgs false
set_option maxRecDepth 100000
set_option maxHeartbeats 4000000
namespace Go.Abs
open Go.Proofs Go.Proofs.Try
/-! ### codec.Vectors -/
theorem round10 {z : List Int} {Z : List (List Int)} {gx gF : Nat} {cp : Option Nat} {owX owF : Bool} {eX eF : TypeId} (k : Nat) (hk : k < (z :: Z).length) (hf : ((z :: Z).getD k []).length ≤ 65536) (hn : (jnVLaw (z :: Z)).length ≤ 140737488355328) (hL : Z.length + 1 ≤ 140737488355328) :
    To eC7 31 2 (roundOf 0 f10) [(4, .slice 1 2 (2 * k) 0 (jnVLaw ((z :: Z).take k)).length none), (9, .slice 1 0 gx 0 (Z.length + 1) cp), (10, .int .i64 ((Z.length + 1 : Nat) : Int)), (11, .int .i64 (k : Nat))] [some ⟨.frows 1 gF (z :: Z) [], gx, owX, eX⟩, some ⟨.fam (z :: Z), gF, owF, eF⟩, some ⟨.ints .u8 (jnVLaw ((z :: Z).take k)), 2 * k, true, 5⟩] .normal [(4, .slice 1 2 (2 * (k + 1)) 0 (jnVLaw ((z :: Z).take (k + 1))).length none), (9, .slice 1 0 gx 0 (Z.length + 1) cp), (10, .int .i64 ((Z.length + 1 : Nat) : Int)), (11, .int .i64 (k + 1 : Nat))] [some ⟨.frows 1 gF (z :: Z) [], gx, owX, eX⟩, some ⟨.fam (z :: Z), gF, owF, eF⟩, some ⟨.ints .u8 (jnVLaw ((z :: Z).take (k + 1))), 2 * (k + 1), true, 5⟩] := by
  have hs := jnVLaw_step (Y := (z :: Z)) hk
  have hle := jnVLaw_le (z :: Z) (k + 1)
  have hl : (jnVLaw ((z :: Z).take (k + 1))).length = (jnVLaw ((z :: Z).take k)).length + (lenLaw ((z :: Z).getD k []).length).length + ((z :: Z).getD k []).length := by rw [hs]; simp [Nat.add_assoc]
  have h1 : (z :: Z).length = Z.length + 1 := rfl
  refine To.of (o := A10 z Z (jnVLaw ((z :: Z).take k)) k gx gF (2 * k) cp owX owF eX eF) eC7_ok hmC (Nat.le_refl 2) OrcOk.nil rfl (A10_ok ?_) A10_ex ?_ ?_
  · simp only [allP, Con.h, addO_eq, List.length_take, List.length_append, decide_eq_true_eq, decide_eq_false_iff_not, eq_self, true_and, and_true]
    generalize ((z :: Z).getD k []) = row at hf hl ⊢
    omega
  · rw [A10_fm]
    simp only [addO_eq, ← hl]
    rfl
  · rw [A10_tab]
    have e : List.take (addO (jnVLaw ((z :: Z).take k)).length (lenLaw ((z :: Z).getD k []).length).length) (List.take (jnVLaw ((z :: Z).take k)).length (jnVLaw ((z :: Z).take k)) ++ List.take (lenLaw ((z :: Z).getD k []).length).length (lenLaw ((z :: Z).getD k []).length)) ++ (z :: Z).getD k [] = jnVLaw ((z :: Z).take (k + 1)) := by
      rw [addO_eq, List.take_length, List.take_length, List.take_of_length_le (by rw [List.length_append]; exact Nat.le_refl _), hs, List.append_assoc]
    rw [e]
    rfl
theorem vec10a {z : List Int} {Z : List (List Int)} {gx gF : Nat} {cp : Option Nat} {owX owF : Bool} {eX eF : TypeId} (hf : FitZLaw (z :: Z)) (hn : (jnVLaw (z :: Z)).length ≤ 140737488355328) (hL : Z.length + 1 ≤ 140737488355328) :
    Small prog (fun _ => none) 10 [.slice 1 0 gx 0 (Z.length + 1) cp] [some ⟨.frows 1 gF (z :: Z) [], gx, owX, eX⟩, some ⟨.fam (z :: Z), gF, owF, eF⟩] (.tuple [.slice 1 2 (2 * (Z.length + 1)) 0 (jnVLaw (z :: Z)).length none, .int .i64 0]) [some ⟨.frows 1 gF (z :: Z) [], gx, owX, eX⟩, some ⟨.fam (z :: Z), gF, owF, eF⟩, some ⟨.ints .u8 (jnVLaw (z :: Z)), 2 * (Z.length + 1), true, 5⟩] := by
  refine small_of_awp eC7_ok (f := 10) (fn := f10) (c := bodyOf f10) (by kernel_rfl) (by kernel_rfl) (by kernel_rfl) ?_
  show AWp eC7 31 2 (bodyOf f10) [(0, .slice 1 0 gx 0 (Z.length + 1) cp)] [some ⟨.frows 1 gF (z :: Z) [], gx, owX, eX⟩, some ⟨.fam (z :: Z), gF, owF, eF⟩] _
  refine AWp.cutTG eC7_ok hmC (m := 2) 2 (o := N10 z Z gx gF cp owX owF eX eF) rfl (N10_ok trivial) N10_ex ?_
  rw [split10, N10_fm, N10_tab]
  refine AWp.nilTo [(0, .slice 1 0 gx 0 (Z.length + 1) cp), (4, .slice 1 2 0 0 0 none)] .u8 5 (fun t v hv => by
      simp only [look] at hv ⊢
      repeat' split at hv
      all_goals first
        | (injection hv with hv; subst hv; simp_all; done)
        | (simp_all; done)) ?_
  refine AWp.seq (AWp.seq (AWp.mono (To.of (o := I10 z Z gx gF cp owX owF eX eF) eC7_ok hmC (Nat.le_refl 2) OrcOk.nil rfl (I10_ok (by simp only [allP, Con.h, and_true])) I10_ex I10_fm I10_tab) fun ex fm T hP => ?_))
  obtain ⟨rfl, rfl, rfl⟩ := hP
  refine AWp.mono (To.rounds (E := eC7) (n := 31) (k := 2) (id := 0) (c := roundOf 0 f10) (fun k : Nat => [(4, .slice 1 2 (2 * k) 0 (jnVLaw ((z :: Z).take k)).length none), (9, .slice 1 0 gx 0 (Z.length + 1) cp), (10, .int .i64 ((Z.length + 1 : Nat) : Int)), (11, .int .i64 (k : Nat))]) (fun k => [some ⟨.frows 1 gF (z :: Z) [], gx, owX, eX⟩, some ⟨.fam (z :: Z), gF, owF, eF⟩, some ⟨.ints .u8 (jnVLaw ((z :: Z).take k)), 2 * k, true, 5⟩]) (Z.length + 1) (fun k hk => round10 k hk (fit_get hf k) hn hL) (fm' := [(4, .slice 1 2 (2 * (Z.length + 1)) 0 (jnVLaw (z :: Z)).length none)]) (T' := [some ⟨.frows 1 gF (z :: Z) [], gx, owX, eX⟩, some ⟨.fam (z :: Z), gF, owF, eF⟩, some ⟨.ints .u8 (jnVLaw (z :: Z)), 2 * (Z.length + 1), true, 5⟩]) ?_) fun ex fm T hP => ?_
  · have e : (z :: Z).take (Z.length + 1) = (z :: Z) := List.take_of_length_le (Nat.le_refl _)
    simp only [e]
    exact To.of (o := D10 z Z (jnVLaw (z :: Z)) (Z.length + 1) gx gF (2 * (Z.length + 1)) cp owX owF eX eF) eC7_ok hmC (Nat.le_refl 2) OrcOk.nil rfl (D10_ok (by simp [allP, Con.h])) D10_ex D10_fm D10_tab
  obtain ⟨rfl, rfl, rfl⟩ := hP
  refine AWp.mono (To.of (o := Z10 z Z (jnVLaw (z :: Z)) 0 gx gF (2 * (Z.length + 1)) cp owX owF eX eF) eC7_ok hmC (Nat.le_refl 2) OrcOk.nil rfl (Z10_ok trivial) Z10_ex Z10_fm Z10_tab) fun ex fm T hP => ?_
  obtain ⟨rfl, rfl, rfl⟩ := hP
  exact ⟨.inr rfl, rfl, [], [.slice 1 2 (2 * (Z.length + 1)) 0 (jnVLaw (z :: Z)).length none, .int .i64 0], rfl, trivial, rfl⟩
theorem vec10b {z : List Int} {Z : List (List Int)} {gx gF : Nat} {cp : Option Nat} {owX owF : Bool} {eX eF : TypeId} (hf : ¬ FitZLaw (z :: Z)) (hn : (jnVLaw (z :: Z)).length ≤ 140737488355328) (hL : Z.length + 1 ≤ 140737488355328) :
    Small prog (fun _ => none) 10 [.slice 1 0 gx 0 (Z.length + 1) cp] [some ⟨.frows 1 gF (z :: Z) [], gx, owX, eX⟩, some ⟨.fam (z :: Z), gF, owF, eF⟩] (.tuple [.nilSlice, .int .i64 6]) [some ⟨.frows 1 gF (z :: Z) [], gx, owX, eX⟩, some ⟨.fam (z :: Z), gF, owF, eF⟩] := by
  obtain ⟨j, hj, hbig, hfit⟩ := fit_first hf
  refine small_of_awp eC7_ok (f := 10) (fn := f10) (c := bodyOf f10) (by kernel_rfl) (by kernel_rfl) (by kernel_rfl) ?_
  show AWp eC7 31 2 (bodyOf f10) [(0, .slice 1 0 gx 0 (Z.length + 1) cp)] [some ⟨.frows 1 gF (z :: Z) [], gx, owX, eX⟩, some ⟨.fam (z :: Z), gF, owF, eF⟩] _
  refine AWp.cutTG eC7_ok hmC (m := 2) 2 (o := N10 z Z gx gF cp owX owF eX eF) rfl (N10_ok trivial) N10_ex ?_
  rw [split10, N10_fm, N10_tab]
  refine AWp.nilTo [(0, .slice 1 0 gx 0 (Z.length + 1) cp), (4, .slice 1 2 0 0 0 none)] .u8 5 (fun t v hv => by
      simp only [look] at hv ⊢
      repeat' split at hv
      all_goals first
        | (injection hv with hv; subst hv; simp_all; done)
        | (simp_all; done)) ?_
  refine AWp.seq (AWp.seq (AWp.mono (To.of (o := I10 z Z gx gF cp owX owF eX eF) eC7_ok hmC (Nat.le_refl 2) OrcOk.nil rfl (I10_ok (by simp only [allP, Con.h, and_true])) I10_ex I10_fm I10_tab) fun ex fm T hP => ?_))
  obtain ⟨rfl, rfl, rfl⟩ := hP
  refine AWp.mono (To.roundsRet (E := eC7) (n := 31) (k := 2) (id := 0) (c := roundOf 0 f10) (fun k : Nat => [(4, .slice 1 2 (2 * k) 0 (jnVLaw ((z :: Z).take k)).length none), (9, .slice 1 0 gx 0 (Z.length + 1) cp), (10, .int .i64 ((Z.length + 1 : Nat) : Int)), (11, .int .i64 (k : Nat))]) (fun k => [some ⟨.frows 1 gF (z :: Z) [], gx, owX, eX⟩, some ⟨.fam (z :: Z), gF, owF, eF⟩, some ⟨.ints .u8 (jnVLaw ((z :: Z).take k)), 2 * k, true, 5⟩]) j (fun k hk => round10 k (by omega) (hfit k hk) hn hL)
      (To.of (o := B10 z Z (jnVLaw ((z :: Z).take j)) j gx gF (2 * j) cp owX owF eX eF) eC7_ok hmC (Nat.le_refl 2) OrcOk.nil rfl (B10_ok ?_) B10_ex B10_fm B10_tab) (by intro h; cases h) (by intro h; cases h)) fun ex fm T hP => ?_
  · have h1 : (z :: Z).length = Z.length + 1 := rfl
    simp only [allP, Con.h, decide_eq_true_eq, eq_self, true_and, and_true]
    generalize ((z :: Z).getD j []) = row at hbig ⊢
    omega
  obtain ⟨rfl, rfl, rfl⟩ := hP
  exact ⟨.inr rfl, rfl, [], [.nilSlice, .int .i64 6], rfl, trivial, rfl⟩
theorem vec10 {z : List Int} {Z : List (List Int)} {gx gF : Nat} {cp : Option Nat} {owX owF : Bool} {eX eF : TypeId} (hn : (jnVLaw (z :: Z)).length ≤ 140737488355328) (hL : Z.length + 1 ≤ 140737488355328) :
    Small prog (fun _ => none) 10 [.slice 1 0 gx 0 (Z.length + 1) cp] [some ⟨.frows 1 gF (z :: Z) [], gx, owX, eX⟩, some ⟨.fam (z :: Z), gF, owF, eF⟩] (.tuple [.slice 1 2 (jnGLaw (z :: Z)) 0 (jnLaw (z :: Z)).length none, .int .i64 (jnErrLaw (z :: Z))]) [some ⟨.frows 1 gF (z :: Z) [], gx, owX, eX⟩, some ⟨.fam (z :: Z), gF, owF, eF⟩, some ⟨.ints .u8 (jnLaw (z :: Z)), jnGLaw (z :: Z), true, 5⟩] := by
  unfold jnGLaw jnLaw jnErrLaw
  by_cases hf : FitZLaw (z :: Z)
  · rw [if_pos hf, if_pos hf, if_pos hf]
    exact vec10a hf hn hL
  · rw [if_neg hf, if_neg hf, if_neg hf]
    exact small_nil2 .u8 5 (.inr rfl) (vec10b hf hn hL) (Nat.le_refl 2)
end Go.Abs

set_option linter.unusedVariables false
set_option linter.unusedSimpArgs false
set_option maxRecDepth 100000
set_option maxHeartbeats 4000000
namespace Go.Abs
open Go.Proofs Go.Proofs.Try
noncomputable def sm10c (args : List AVal) (T : Tab) (z : List Int) (Z : List (List Int)) (gx : Nat) (gF : Nat) (n : Nat) (cp : Option Nat) (owX : Bool) (owF : Bool) (eX : TypeId) (eF : TypeId) : Res := ⟨[.tab T [some ⟨.frows 1 gF (z :: Z) [], gx, owX, eX⟩, some ⟨.fam (z :: Z), gF, owF, eF⟩], .val (.tuple args) (.tuple [.slice 1 0 gx 0 n cp]), .eqN n (Z.length + 1), .leN (jnVLaw (z :: Z)).length 140737488355328, .leN (Z.length + 1) 140737488355328], (.tuple [.slice 1 2 (jnGLaw (z :: Z)) 0 (jnLaw (z :: Z)).length none, .int .i64 (jnErrLaw (z :: Z))]), [some ⟨.frows 1 gF (z :: Z) [], gx, owX, eX⟩, some ⟨.fam (z :: Z), gF, owF, eF⟩, some ⟨.ints .u8 (jnLaw (z :: Z)), jnGLaw (z :: Z), true, 5⟩]⟩
theorem sm10c_ok {args : List AVal} {T : Tab} {z : List Int} {Z : List (List Int)} {gx : Nat} {gF : Nat} {n : Nat} {cp : Option Nat} {owX : Bool} {owF : Bool} {eX : TypeId} {eF : TypeId} (h : allP (sm10c args T z Z gx gF n cp owX owF eX eF).cs) : Small prog (fun _ => none) 10 args T (sm10c args T z Z gx gF n cp owX owF eX eF).val (sm10c args T z Z gx gF n cp owX owF eX eF).tab := by
  obtain ⟨hT, hv, h1, h2, h3, _⟩ := h
  simp only [Con.h] at hT hv h1 h2 h3
  injection hv with hv
  subst hT hv
  subst h1
  exact vec10 h2 h3
noncomputable def sm10 : Summary := fun args T => sm10c args T (zOf (dAt T 0)) (ZOf (dAt T 0)) (gAt T 0) (gAt T 1) (lenOf (vAt args 0)) (capOf (vAt args 0)) (owAt T 0) (owAt T 1) (etAt T 0) (etAt T 1)
theorem sm10_ok : SmOk prog (fun _ => none) 10 sm10 := fun args T h => sm10c_ok h
noncomputable def S10v : Summary := callR sm10 []
theorem S10v_ok : SumOk prog (fun _ => none) 10 S10v := callR_ok sm10_ok []
end Go.Abs

set_option linter.unusedVariables false
set_option linter.unusedSimpArgs false
set_option maxRecDepth 100000
set_option maxHeartbeats 4000000
namespace Go.Abs
open Go.Proofs Go.Proofs.Try
end Go.Abs

set_option linter.unusedVariables false
set_option linter.unusedSimpArgs false
set_option maxRecDepth 100000
set_option maxHeartbeats 4000000
namespace Go.Abs
open Go.Proofs Go.Proofs.Try
end Go.Abs

set_option linter.unusedVariables false
set_option linter.unusedSimpArgs false
set_option maxRecDepth 100000
set_option maxHeartbeats 4000000
namespace Go.Abs
open Go.Proofs Go.Proofs.Try
end Go.Abs

set_option linter.unusedVariables false
set_option linter.unusedSimpArgs false
set_option maxRecDepth 100000
set_option maxHeartbeats 4000000
namespace Go.Abs
open Go.Proofs Go.Proofs.Try
noncomputable def S10e : Summary := sumI modeO (eC0 []) f10 [] 400 [some false] []
theorem S10e_ok : SumOk prog (fun _ => none) 10 S10e := sumI_ok eC0_ok hmC (fn := f10) (by kernel_rfl) (by kernel_rfl) [] FnOrc.nil 400 [some false] []
theorem bulk_jn : ∀ (Y : List (List Int)), (jnVLaw Y).length ≤ (Y.map List.length).sum + 4 * Y.length
  | [] => by simp [jnVLaw]
  | b :: Y => by
    have h1 := bulk_jn Y
    have h2 := lenLaw_len b.length
    simp only [jnVLaw, vec1Law, List.length_append, List.map_cons, List.sum_cons, List.length_cons]
    omega
end Go.Abs

set_option linter.unusedVariables false
set_option linter.unusedSimpArgs false
set_option maxRecDepth 100000
set_option maxHeartbeats 4000000
namespace Go.Abs
open Go.Proofs Go.Proofs.Try
/-! ### vectors: the pieces -/
noncomputable def c14a : Code := match backC 3 (bodyOf f14) with | .seq (.seq a _) _ => a | c => c
noncomputable def c14r : Code := match backC 3 (bodyOf f14) with | .seq _ c => c | c => c
noncomputable def x14a : Code := match bodyOf f14 with | .seq a _ => a | c => c
noncomputable def x14b : Code := match backC 1 (bodyOf f14) with | .seq a _ => a | c => c
noncomputable def x14c : Code := match backC 2 (bodyOf f14) with | .seq a _ => a | c => c
theorem body14 : bodyOf f14 = .seq x14a (.seq x14b (.seq x14c (.seq (.seq c14a (.block 0 (.loop (roundOf 0 f14)))) c14r))) := by kernel_rfl
noncomputable def N14a (B : List Int) (g n : Nat) (cp : Option Nat) : Out := trim 1 1 [0] (run eW 36 ⟨1, []⟩ 400 x14a [(0, .slice 1 0 g 0 n cp)] [some ⟨.ints .u8 B, g, false, 5⟩] [])
theorem N14a_ok {B : List Int} {g n : Nat} {cp : Option Nat} (h : allP []) : Ok (N14a B g n cp) := Ok.dem (fl := []) (by kernel_rfl) (by kernel_rfl) (by kernel_rfl) h
theorem N14a_ex {B : List Int} {g n : Nat} {cp : Option Nat} : (N14a B g n cp).ex = .normal := by kernel_rfl
theorem N14a_fm {B : List Int} {g n : Nat} {cp : Option Nat} : (N14a B g n cp).fm = [(0, .slice 1 0 g 0 n cp)] := by kernel_rfl
theorem N14a_tab {B : List Int} {g n : Nat} {cp : Option Nat} : (N14a B g n cp).tab = [some ⟨.ints .u8 B, g, false, 5⟩] := by kernel_rfl
noncomputable def N14b (B : List Int) (g n : Nat) (cp : Option Nat) : Out := trim 1 3 [0,4] (run eW 36 ⟨1, []⟩ 400 x14b [(0, .slice 1 0 g 0 n cp)] [some ⟨.ints .u8 B, g, false, 5⟩] [])
theorem N14b_ok {B : List Int} {g n : Nat} {cp : Option Nat} (h : allP [.eqN g g, .leN (0 + n) B.length, .leN n 140737488355000]) : Ok (N14b B g n cp) := Ok.dem (fl := [false, false, false, false, false]) (by kernel_rfl) (by kernel_rfl) (by kernel_rfl) h
theorem N14b_ex {B : List Int} {g n : Nat} {cp : Option Nat} : (N14b B g n cp).ex = .normal := by kernel_rfl
theorem N14b_fm {B : List Int} {g n : Nat} {cp : Option Nat} : (N14b B g n cp).fm = [(0, .slice 1 0 g 0 n cp), (4, .var 1 0)] := by kernel_rfl
theorem N14b_tab {B : List Int} {g n : Nat} {cp : Option Nat} : (N14b B g n cp).tab = [some ⟨.ints .u8 B, g, false, 5⟩, some ⟨.agg [.slice 1 2 1 0 n none, .int .i64 0, .bool true], 0, true, 60⟩, some ⟨.ints .u8 (subLaw B 0 n), 1, true, 5⟩] := by kernel_rfl
noncomputable def N14c (B C : List Int) (g n : Nat) (cp : Option Nat) : Out := trim 1 3 [0,4,5] (run eW 36 ⟨1, []⟩ 400 x14c [(0, .slice 1 0 g 0 n cp), (4, .var 1 0)] [some ⟨.ints .u8 B, g, false, 5⟩, some ⟨.agg [.slice 1 2 1 0 n none, .int .i64 0, .bool true], 0, true, 60⟩, some ⟨.ints .u8 C, 1, true, 5⟩] [])
theorem N14c_ok {B C : List Int} {g n : Nat} {cp : Option Nat} (h : allP []) : Ok (N14c B C g n cp) := Ok.dem (fl := []) (by kernel_rfl) (by kernel_rfl) (by kernel_rfl) h
theorem N14c_ex {B C : List Int} {g n : Nat} {cp : Option Nat} : (N14c B C g n cp).ex = .normal := by kernel_rfl
theorem N14c_fm {B C : List Int} {g n : Nat} {cp : Option Nat} : (N14c B C g n cp).fm = [(0, .slice 1 0 g 0 n cp), (4, .var 1 0), (5, .nilSlice)] := by kernel_rfl
theorem N14c_tab {B C : List Int} {g n : Nat} {cp : Option Nat} : (N14c B C g n cp).tab = [some ⟨.ints .u8 B, g, false, 5⟩, some ⟨.agg [.slice 1 2 1 0 n none, .int .i64 0, .bool true], 0, true, 60⟩, some ⟨.ints .u8 C, 1, true, 5⟩] := by kernel_rfl
noncomputable def I14 (B C : List Int) (g n : Nat) (cp : Option Nat) : Out := trim 1 3 [0,4,5,6] (run eW 36 ⟨1, []⟩ 400 c14a [(0, .slice 1 0 g 0 n cp), (4, .var 1 0), (5, .nilSlice)] [some ⟨.ints .u8 B, g, false, 5⟩, some ⟨.agg [.slice 1 2 1 0 n none, .int .i64 0, .bool true], 0, true, 60⟩, some ⟨.ints .u8 C, 1, true, 5⟩] [])
theorem I14_ok {B C : List Int} {g n : Nat} {cp : Option Nat} (h : allP []) : Ok (I14 B C g n cp) := Ok.dem (fl := []) (by kernel_rfl) (by kernel_rfl) (by kernel_rfl) h
theorem I14_ex {B C : List Int} {g n : Nat} {cp : Option Nat} : (I14 B C g n cp).ex = .normal := by kernel_rfl
theorem I14_fm {B C : List Int} {g n : Nat} {cp : Option Nat} : (I14 B C g n cp).fm = [(0, .slice 1 0 g 0 n cp), (4, .var 1 0), (5, .nilSlice), (6, .int .i64 0)] := by kernel_rfl
theorem I14_tab {B C : List Int} {g n : Nat} {cp : Option Nat} : (I14 B C g n cp).tab = [some ⟨.ints .u8 B, g, false, 5⟩, some ⟨.agg [.slice 1 2 1 0 n none, .int .i64 0, .bool true], 0, true, 60⟩, some ⟨.ints .u8 C, 1, true, 5⟩] := by kernel_rfl
noncomputable def A14 (B C : List Int) (g n i off : Nat) (e : Int) (cp : Option Nat) : Out := trimG 1 [0,1,2,5,4] [0,4,5,6] (run eW 36 ⟨1, []⟩ 400 (roundOf 0 f14) [(0, .slice 1 0 g 0 n cp), (4, .var 1 0), (5, .nilSlice), (6, .int .i64 ((i : Nat)))] [some ⟨.ints .u8 B, g, false, 5⟩, some ⟨.agg [.slice 1 2 1 off (C.length - off) none, .int .i64 e, .bool true], 0, true, 60⟩, some ⟨.ints .u8 C, 1, true, 5⟩] [some true, some true, some true])
theorem A14_ok {B C : List Int} {g n i off : Nat} {e : Int} {cp : Option Nat} (h : allP [.eqN g g, .p (decide ((↑i : Int) ≤ (↑n : Int)) = true), .p (decide (0 < (↑(C.length - off) : Int)) = true), .p ((e == 0) = true), .eqN (C.length - off) (C.length - off), .leN off C.length, .p (ByLaw C), .leN C.length 140737488355000, .rng (-9223372036854775808) ((↑i : Int) + 1) 9223372036854775807]) : Ok (A14 B
 C g n i off e cp) := Ok.dem (fl := bitsF 38 136377793532) (by kernel_rfl) (by kernel_rfl) (by kernel_rfl) h
theorem A14_ex {B C : List Int} {g n i off : Nat} {e : Int} {cp : Option Nat} : (A14 B C g n i off e cp).ex = .normal := by kernel_rfl
theorem A14_fm {B C : List Int} {g n i off : Nat} {e : Int} {cp : Option Nat} : (A14 B C g n i off e cp).fm = [(0, .slice 1 0 g 0 n cp), (4, .var 1 0), (5, .slice 1 3 0 0 1 none), (6, .int .i64 ((↑i : Int) + 1))] := by kernel_rfl
theorem A14_tab {B C : List Int} {g n i off : Nat} {e : Int} {cp : Option Nat} : (A14 B C g n i off e cp).tab = [some ⟨.ints .u8 B, g, false, 5⟩, some ⟨.agg [.slice 1 2 1 (rvOLaw C off e) (C.length - rvOLaw C off e) none, .int .i64 (rvELaw C off e), .bool true], 0, true, 60⟩, some ⟨.ints .u8 C, 1, true, 5⟩, some ⟨.agg [.slice 1 4 1 0 (rvVLaw C off e).length none], 0, true, 23⟩, some ⟨.ints .u8
 (rvVLaw C off e), 1, true, 5⟩] := by kernel_rfl
noncomputable def B14 (B C w : List Int) (W : List (List Int)) (g n i off m gx gF : Nat) (e : Int) (cp : Option Nat) : Out := trimG 5 [0,1,2,3,4,6] [0,4,5,6] (run eW 36 ⟨5, []⟩ 400 (roundOf 0 f14) [(0, .slice 1 0 g 0 n cp), (4, .var 1 0), (5, .slice 1 3 gx 0 (m + 1) none), (6, .int .i64 ((i : Nat)))] [some ⟨.ints .u8 B, g, false, 5⟩, some ⟨.agg [.slice 1 2 1 off (C.length - off) none, .int .i64 e, .bool true], 0, true, 60⟩, some ⟨.ints .u8 C, 1, true, 5⟩, some ⟨.frows 4 gF (w :: W) [], gx, true, 23⟩, some ⟨.fam (w :: W), gF, true, 5⟩] [some true, some true, some true])
theorem B14_ok {B C w : List Int} {W : List (List Int)} {g n i off m gx gF : Nat} {e : Int} {cp : Option Nat} (h : allP [.eqN g g, .p (decide ((↑i : Int) ≤ (↑n : Int)) = true), .p (decide (0 < (↑(C.length - off) : Int)) = true), .p ((e == 0) = true), .eqN (C.length - off) (C.length - off), .leN off C.length, .p (ByLaw C), .leN C.length 140737488355000, .eqN gx gx, .leN (0 + (m + 1)) (w ::
 W).length, .leN ((m + 1 + 1) * 24) 140737488355328, .rng (-9223372036854775808) ((↑i : Int) + 1) 9223372036854775807]) : Ok (B14 B C w W g n i off m gx gF e cp) := Ok.dem (fl := bitsF 40 488565111804) (by kernel_rfl) (by kernel_rfl) (by kernel_rfl) h
theorem B14_ex {B C w : List Int} {W : List (List Int)} {g n i off m gx gF : Nat} {e : Int} {cp : Option Nat} : (B14 B C w W g n i off m gx gF e cp).ex = .normal := by kernel_rfl
theorem B14_fm {B C w : List Int} {W : List (List Int)} {g n i off m gx gF : Nat} {e : Int} {cp : Option Nat} : (B14 B C w W g n i off m gx gF e cp).fm = [(0, .slice 1 0 g 0 n cp), (4, .var 1 0), (5, .slice 1 3 (gx + 1) 0 (m + 1 + 1) none), (6, .int .i64 ((↑i : Int) + 1))] := by kernel_rfl
theorem B14_tab {B C w : List Int} {W : List (List Int)} {g n i off m gx gF : Nat} {e : Int} {cp : Option Nat} : (B14 B C w W g n i off m gx gF e cp).tab = [some ⟨.ints .u8 B, g, false, 5⟩, some ⟨.agg [.slice 1 2 1 (rvOLaw C off e) (C.length - rvOLaw C off e) none, .int .i64 (rvELaw C off e), .bool true], 0, true, 60⟩, some ⟨.ints .u8 C, 1, true, 5⟩, some ⟨AVal.frows 4 gF (w :: List.take m W)
 [.slice 1 5 1 0 (rvVLaw C off e).length none], gx + 1, true, 23⟩, some ⟨AVal.fam (w :: W), gF, true, 5⟩, some ⟨.ints .u8 (rvVLaw C off e), 1, true, 5⟩] := by kernel_rfl
noncomputable def C14 (B C w : List Int) (W : List (List Int)) (g n i off m gx gF : Nat) (e : Int) (cp : Option Nat) : Out := trimG 5 [0,1,2,3,4] [0,4,5] (run eW 36 ⟨5, []⟩ 400 (roundOf 0 f14) [(0, .slice 1 0 g 0 n cp), (4, .var 1 0), (5, .slice 1 3 gx 0 (m + 1) none), (6, .int .i64 ((i : Nat)))] [some ⟨.ints .u8 B, g, false, 5⟩, some ⟨.agg [.slice 1 2 1 off (C.length - off) none, .int .i64 e, .bool true], 0, true, 60⟩, some ⟨.ints .u8 C, 1, true, 5⟩, some ⟨.frows 4 gF (w :: W) [], gx, true, 23⟩, some ⟨.fam (w :: W), gF, true, 5⟩] [some true, some false])
theorem C14_ok {B C w : List Int} {W : List (List Int)} {g n i off m gx gF : Nat} {e : Int} {cp : Option Nat} (h : allP [.eqN g g, .p (decide ((↑i : Int) ≤ (↑n : Int)) = true), .p (decide (0 < (↑(C.length - off) : Int)) = false)]) : Ok (C14 B C w W g n i off m gx gF e cp) := Ok.dem (fl := [false, false, true, true, true, true, true, true, true, true, false]) (by kernel_rfl) (by kernel_rfl) (by
 kernel_rfl) h
theorem C14_ex {B C w : List Int} {W : List (List Int)} {g n i off m gx gF : Nat} {e : Int} {cp : Option Nat} : (C14 B C w W g n i off m gx gF e cp).ex = .exit 0 := by kernel_rfl
theorem C14_fm {B C w : List Int} {W : List (List Int)} {g n i off m gx gF : Nat} {e : Int} {cp : Option Nat} : (C14 B C w W g n i off m gx gF e cp).fm = [(0, .slice 1 0 g 0 n cp), (4, .var 1 0), (5, .slice 1 3 gx 0 (m + 1) none)] := by kernel_rfl
theorem C14_tab {B C w : List Int} {W : List (List Int)} {g n i off m gx gF : Nat} {e : Int} {cp : Option Nat} : (C14 B C w W g n i off m gx gF e cp).tab = [some ⟨.ints .u8 B, g, false, 5⟩, some ⟨.agg [.slice 1 2 1 off (C.length - off) none, .int .i64 e, .bool true], 0, true, 60⟩, some ⟨.ints .u8 C, 1, true, 5⟩, some ⟨AVal.frows 4 gF (w :: W) [], gx, true, 23⟩, some ⟨AVal.fam (w :: W), gF, true,
 5⟩] := by kernel_rfl
noncomputable def D14 (B C w : List Int) (W : List (List Int)) (g n i off m gx gF : Nat) (e : Int) (cp : Option Nat) : Out := trimG 5 [0,1,2,3,4] [0,4,5] (run eW 36 ⟨5, []⟩ 400 (roundOf 0 f14) [(0, .slice 1 0 g 0 n cp), (4, .var 1 0), (5, .slice 1 3 gx 0 (m + 1) none), (6, .int .i64 ((i : Nat)))] [some ⟨.ints .u8 B, g, false, 5⟩, some ⟨.agg [.slice 1 2 1 off (C.length - off) none, .int .i64 e, .bool true], 0, true, 60⟩, some ⟨.ints .u8 C, 1, true, 5⟩, some ⟨.frows 4 gF (w :: W) [], gx, true, 23⟩, some ⟨.fam (w :: W), gF, true, 5⟩] [some true, some true, some false])
theorem D14_ok {B C w : List Int} {W : List (List Int)} {g n i off m gx gF : Nat} {e : Int} {cp : Option Nat} (h : allP [.eqN g g, .p (decide ((↑i : Int) ≤ (↑n : Int)) = true), .p (decide (0 < (↑(C.length - off) : Int)) = true), .p ((e == 0) = false)]) : Ok (D14 B C w W g n i off m gx gF e cp) := Ok.dem (fl := bitsF 23 4193276) (by kernel_rfl) (by kernel_rfl) (by kernel_rfl) h
theorem D14_ex {B C w : List Int} {W : List (List Int)} {g n i off m gx gF : Nat} {e : Int} {cp : Option Nat} : (D14 B C w W g n i off m gx gF e cp).ex = .exit 0 := by kernel_rfl
theorem D14_fm {B C w : List Int} {W : List (List Int)} {g n i off m gx gF : Nat} {e : Int} {cp : Option Nat} : (D14 B C w W g n i off m gx gF e cp).fm = [(0, .slice 1 0 g 0 n cp), (4, .var 1 0), (5, .slice 1 3 gx 0 (m + 1) none)] := by kernel_rfl
theorem D14_tab {B C w : List Int} {W : List (List Int)} {g n i off m gx gF : Nat} {e : Int} {cp : Option Nat} : (D14 B C w W g n i off m gx gF e cp).tab = [some ⟨.ints .u8 B, g, false, 5⟩, some ⟨.agg [.slice 1 2 1 off (C.length - off) none, .int .i64 e, .bool true], 0, true, 60⟩, some ⟨.ints .u8 C, 1, true, 5⟩, some ⟨AVal.frows 4 gF (w :: W) [], gx, true, 23⟩, some ⟨AVal.fam (w :: W), gF, true,
 5⟩] := by kernel_rfl
noncomputable def Z14 (B C w : List Int) (W : List (List Int)) (g n i off m gx gF : Nat) (e : Int) (cp : Option Nat) : Out := trimG 5 [0,1,2,3,4] [2,3] (run eW 36 ⟨5, []⟩ 400 c14r [(0, .slice 1 0 g 0 n cp), (4, .var 1 0), (5, .slice 1 3 gx 0 (m + 1) none)] [some ⟨.ints .u8 B, g, false, 5⟩, some ⟨.agg [.slice 1 2 1 off (C.length - off) none, .int .i64 e, .bool true], 0, true, 60⟩, some ⟨.ints .u8 C, 1, true, 5⟩, some ⟨.frows 4 gF (w :: W) [], gx, true, 23⟩, some ⟨.fam (w :: W), gF, true, 5⟩] [none])
theorem Z14_ok {B C w : List Int} {W : List (List Int)} {g n i off m gx gF : Nat} {e : Int} {cp : Option Nat} (h : allP [.eqN (C.length - off) (C.length - off)]) : Ok (Z14 B C w W g n i off m gx gF e cp) := Ok.dem (fl := [true, false, false, false]) (by kernel_rfl) (by kernel_rfl) (by kernel_rfl) h
theorem Z14_ex {B C w : List Int} {W : List (List Int)} {g n i off m gx gF : Nat} {e : Int} {cp : Option Nat} : (Z14 B C w W g n i off m gx gF e cp).ex = .ret := by kernel_rfl
theorem Z14_fm {B C w : List Int} {W : List (List Int)} {g n i off m gx gF : Nat} {e : Int} {cp : Option Nat} : (Z14 B C w W g n i off m gx gF e cp).fm = [(2, .slice 1 3 gx 0 (m + 1) none), (3, .bool (reLaw C off e == 0))] := by kernel_rfl
theorem Z14_tab {B C w : List Int} {W : List (List Int)} {g n i off m gx gF : Nat} {e : Int} {cp : Option Nat} : (Z14 B C w W g n i off m gx gF e cp).tab = [some ⟨.ints .u8 B, g, false, 5⟩, some ⟨.agg [.slice 1 2 1 off (C.length - off) none, .int .i64 e, .bool true], 0, true, 60⟩, some ⟨.ints .u8 C, 1, true, 5⟩, some ⟨AVal.frows 4 gF (w :: W) [], gx, true, 23⟩, some ⟨AVal.fam (w :: W), gF, true,
 5⟩] := by kernel_rfl
end Go.Abs

set_option linter.unusedVariables false
set_option linter.unusedSimpArgs false
set_option maxRecDepth 100000
set_option maxHeartbeats 4000000
namespace Go.Abs
open Go.Proofs Go.Proofs.Try
/-! ### vectors: what is read is what was written -/
theorem drop_get {B : List Int} {off : Nat} (h : off < B.length) : B.drop off = B.getD off 0 :: B.drop (off + 1) := by
  rw [List.drop_eq_getElem_cons h, List.getD_eq_getElem?_getD, List.getElem?_eq_getElem h]; rfl
theorem rl_canon {B : List Int} {off : Nat} (hb : ByLaw B) (he : rlELaw B off 0 = 0) :
    0 ≤ rlVLaw B off 0 ∧ off < rlOLaw B off 0 ∧ rlOLaw B off 0 ≤ B.length ∧ B.drop off = lenLaw (rlVLaw B off 0) ++ B.drop (rlOLaw B off 0) := by
  unfold rlELaw at he
  unfold rlVLaw rlOLaw
  by_cases hz : B.length - off = 0
  · rw [rl_z hz] at he; cases he
  have h0 := hb off
  have hlt : off < B.length := by omega
  have d0 := drop_get hlt
  by_cases t3 : B.getD off 0 / 64 = 3
  · rw [rl_f hz t3] at he; cases he
  by_cases t0 : B.getD off 0 / 64 = 0
  · rw [rl_0 hz t0] at he ⊢
    have hv : iand (numAtLaw 1 B off) 63 = B.getD off 0 := by
      have e : numAtLaw 1 B off = B.getD off 0 := by show beN 1 _ _ = _; unfold beN beN; rw [Nat.add_zero]; omega
      rw [e]
      have := iand_mod (a := B.getD off 0) 6 h0.1
      rw [show ((2 : Int) ^ 6 - 1) = 63 by decide, show ((2 : Int) ^ 6) = 64 by decide] at this
      rw [this]; omega
    rw [rlT_g (by omega) (by rw [hv]; omega), hv]
    simp only
    refine ⟨h0.1, by omega, by omega, ?_⟩
    rw [(len_a h0.1 (by omega)).1, d0]
    have : B.getD off 0 / 1 % 256 = B.getD off 0 := by omega
    rw [this]; rfl
  by_cases t1 : B.getD off 0 / 64 = 1
  · rw [rl_1 hz t1] at he ⊢
    by_cases hs : B.length - off < 2
    · rw [rlT_s hs] at he; cases he
    have h1 := hb (off + 1)
    have d1 := drop_get (B := B) (off := off + 1) (by omega)
    have hv : iand (numAtLaw 2 B off) 16383 = B.getD off 0 * 256 + B.getD (off + 1) 0 - 16384 := by
      have e : numAtLaw 2 B off = B.getD off 0 * 256 + B.getD (off + 1) 0 := by show beN 2 _ _ = _; unfold beN beN beN; rw [Nat.add_zero]; omega
      rw [e]
      have := iand_mod (a := B.getD off 0 * 256 + B.getD (off + 1) 0) 14 (by omega)
      rw [show ((2 : Int) ^ 14 - 1) = 16383 by decide, show ((2 : Int) ^ 14) = 16384 by decide] at this
      rw [this]; omega
    by_cases hl : iand (numAtLaw 2 B off) 16383 < 64
    · rw [rlT_b hs hl] at he; cases he
    rw [rlT_g hs hl]
    simp only
    rw [hv] at hl ⊢
    refine ⟨by omega, by omega, by omega, ?_⟩
    rw [(len_b (by omega) (by omega)).1, d0, d1]
    have e1 : (B.getD off 0 * 256 + B.getD (off + 1) 0 - 16384 + 16384) / 256 % 256 = B.getD off 0 := by omega
    have e2 : (B.getD off 0 * 256 + B.getD (off + 1) 0 - 16384 + 16384) / 1 % 256 = B.getD (off + 1) 0 := by omega
    rw [e1, e2]; rfl
  · have t2 : B.getD off 0 / 64 = 2 := by omega
    rw [rl_2 hz t2] at he ⊢
    by_cases hs : B.length - off < 4
    · rw [rlT_s hs] at he; cases he
    have h1 := hb (off + 1)
    have h2 := hb (off + 2)
    have h3 := hb (off + 3)
    have d1 := drop_get (B := B) (off := off + 1) (by omega)
    have d2 := drop_get (B := B) (off := off + 2) (by omega)
    have d3 := drop_get (B := B) (off := off + 3) (by omega)
    have e : numAtLaw 4 B off = ((B.getD off 0 * 256 + B.getD (off + 1) 0) * 256 + B.getD (off + 2) 0) * 256 + B.getD (off + 3) 0 := by show beN 4 _ _ = _; unfold beN beN beN beN beN; rw [Nat.add_zero]; omega
    have hv : iand (numAtLaw 4 B off) 1073741823 = ((B.getD off 0 * 256 + B.getD (off + 1) 0) * 256 + B.getD (off + 2) 0) * 256 + B.getD (off + 3) 0 - 2147483648 := by
      rw [e]
      have := iand_mod (a := ((B.getD off 0 * 256 + B.getD (off + 1) 0) * 256 + B.getD (off + 2) 0) * 256 + B.getD (off + 3) 0) 30 (by omega)
      rw [show ((2 : Int) ^ 30 - 1) = 1073741823 by decide, show ((2 : Int) ^ 30) = 1073741824 by decide] at this
      rw [this]; omega
    by_cases hl : iand (numAtLaw 4 B off) 1073741823 < 16384
    · rw [rlT_b hs hl] at he; cases he
    rw [rlT_g hs hl]
    simp only
    rw [hv] at hl ⊢
    refine ⟨by omega, by omega, by omega, ?_⟩
    rw [(len_c (by omega) (by omega)).1, d0, d1, d2, d3]
    generalize B.getD off 0 = b0 at *
    generalize B.getD (off + 1) 0 = b1 at *
    generalize B.getD (off + 2) 0 = b2 at *
    generalize B.getD (off + 3) 0 = b3 at *
    have e1 : (((b0 * 256 + b1) * 256 + b2) * 256 + b3 - 2147483648 + 2147483648) / 16777216 % 256 = b0 := by omega
    have e2 : (((b0 * 256 + b1) * 256 + b2) * 256 + b3 - 2147483648 + 2147483648) / 65536 % 256 = b1 := by omega
    have e3 : (((b0 * 256 + b1) * 256 + b2) * 256 + b3 - 2147483648 + 2147483648) / 256 % 256 = b2 := by omega
    have e4 : (((b0 * 256 + b1) * 256 + b2) * 256 + b3 - 2147483648 + 2147483648) / 1 % 256 = b3 := by omega
    rw [e1, e2, e3, e4]; rfl
theorem rv_canon {C : List Int} {off : Nat} (hb : ByLaw C) (he : rvELaw C off 0 = 0) :
    (rvVLaw C off 0).length ≤ 65536 ∧ off < rvOLaw C off 0 ∧ rvOLaw C off 0 ≤ C.length ∧ C.drop off = vec1Law (rvVLaw C off 0) ++ C.drop (rvOLaw C off 0) := by
  by_cases h2 : rtELaw C (rlOLaw C off 0) (rvE1 C off) (rlVLaw C off 0) ≠ 0
  · unfold rvELaw at he
    rw [rv_w rfl h2] at he
    exact absurd he h2
  have h2 : rtELaw C (rlOLaw C off 0) (rvE1 C off) (rlVLaw C off 0) = 0 := Classical.not_not.1 h2
  unfold rvVLaw rvOLaw
  rw [rv_g rfl h2]
  have e1 : rvE1 C off = 0 := by
    by_cases h : rvE1 C off = 0
    · exact h
    · rw [rtE_e _ h] at h2; exact h2
  have hE : rlELaw C off 0 = 0 ∧ rlVLaw C off 0 ≤ 65536 := by
    unfold rvE1 at e1
    split at e1
    · cases e1
    · rename_i hn
      refine ⟨e1, ?_⟩
      rw [e1] at hn
      omega
  obtain ⟨hE, hV⟩ := hE
  obtain ⟨c1, c2, c3, c4⟩ := rl_canon hb hE
  rw [e1] at h2 ⊢
  obtain ⟨m, hm⟩ := Int.eq_ofNat_of_zero_le c1
  rw [hm] at h2 hV c4 ⊢
  by_cases h3 : ((C.length - rlOLaw C off 0 : Nat) : Int) < m
  · unfold rtELaw at h2
    rw [rt_s (by omega) h3] at h2; cases h2
  unfold rtVLaw rtOLaw
  rw [rt_g h3]
  simp only
  have hl : (subLaw C (rlOLaw C off 0) m).length = m := by unfold subLaw; rw [List.length_take, List.length_drop]; omega
  refine ⟨by rw [hl]; omega, by omega, by omega, ?_⟩
  unfold vec1Law
  rw [hl, c4, List.append_assoc]
  congr 1
  unfold subLaw
  rw [← List.drop_drop, List.take_append_drop]
theorem rv_at {P row S : List Int} (h : row.length ≤ 65536) : rvP (P ++ (vec1Law row ++ S)) P.length 0 = (row, P.length + (vec1Law row).length, 0) := by
  have hr := rl_back (P := P) (S := row ++ S) (n := row.length) (by omega) (by omega)
  rw [List.append_assoc] at hr
  have hc : P ++ (vec1Law row ++ S) = P ++ (lenLaw row.length ++ (row ++ S)) := by unfold vec1Law; rw [List.append_assoc]
  rw [hc]
  generalize hC : P ++ (lenLaw row.length ++ (row ++ S)) = C at hr ⊢
  have hV : rlVLaw C P.length 0 = row.length := by unfold rlVLaw; rw [hr]
  have hO : rlOLaw C P.length 0 = P.length + (lenLaw row.length).length := by unfold rlOLaw; rw [hr]
  have hE : rlELaw C P.length 0 = 0 := by unfold rlELaw; rw [hr]
  have e1 : rvE1 C P.length = 0 := by unfold rvE1; rw [if_neg (by rw [hV]; omega), hE]
  have hlen : C.length = P.length + (lenLaw row.length).length + row.length + S.length := by rw [← hC]; simp; omega
  have hrt : rtP C (P.length + (lenLaw row.length).length) 0 (row.length : Int) = (row, P.length + (lenLaw row.length).length + row.length, 0) := by
    rw [rt_g (by rw [hlen]; omega)]
    have : subLaw C (P.length + (lenLaw row.length).length) row.length = row := by
      unfold subLaw
      rw [← hC, ← List.append_assoc, List.drop_left' (by simp), List.take_left' rfl]
    rw [this]
  have h2 : rtELaw C (rlOLaw C P.length 0) 0 (rlVLaw C P.length 0) = 0 := by unfold rtELaw; rw [hO, hV, hrt]
  rw [rv_g e1 h2]
  unfold rtVLaw rtOLaw rtELaw
  rw [hO, hV, hrt]
  simp only [vec1Law, List.length_append, Nat.add_assoc]
end Go.Abs

set_option linter.unusedVariables false
set_option linter.unusedSimpArgs false
set_option maxRecDepth 100000
set_option maxHeartbeats 4000000
namespace Go.Abs
open Go.Proofs Go.Proofs.Try
/-! ### vectors: the contract -/
def vstV (C : List Int) : Nat → Nat × Int
  | 0 => (0, 0)
  | k + 1 => (rvOLaw C (vstV C k).1 (vstV C k).2, rvELaw C (vstV C k).1 (vstV C k).2)
def vrowLaw (C : List Int) (k : Nat) : List Int := rvVLaw C (vstV C k).1 (vstV C k).2
def goV (C : List Int) (k : Nat) : Prop := 0 < C.length - (vstV C k).1 ∧ (vstV C k).2 = 0
def ZVl (C : List Int) (k : Nat) : List (List Int) := (List.range k).map fun j => vrowLaw C (j + 1)
theorem ZVl_len (C : List Int) (k : Nat) : (ZVl C k).length = k := by simp [ZVl]
theorem ZVl_succ (C : List Int) (k : Nat) : ZVl C (k + 1) = ZVl C k ++ [vrowLaw C (k + 1)] := by simp [ZVl, List.range_succ]
theorem vst_off (C : List Int) : ∀ k, (vstV C k).1 ≤ C.length
  | 0 => Nat.zero_le _
  | k + 1 => (rv_off (vst_off C k) _).2
theorem v_adv {C : List Int} (hb : ByLaw C) : ∀ k, (∀ j, j ≤ k → goV C j) → k ≤ (vstV C k).1
  | 0, _ => Nat.zero_le _
  | k + 1, h => by
    have h1 := v_adv hb k (fun j hj => h j (by omega))
    have h2 := (h k (by omega)).2
    have h3 : rvELaw C (vstV C k).1 (vstV C k).2 = 0 := (h (k + 1) (Nat.le_refl _)).2
    rw [h2] at h3
    have h4 := (rv_canon hb h3).2.1
    show k + 1 ≤ rvOLaw C (vstV C k).1 (vstV C k).2
    rw [h2]; omega
theorem least {p : Nat → Prop} (h : ∃ n, ¬ p n) : ∃ n, ¬ p n ∧ ∀ j, j < n → p j := by
  obtain ⟨n, hn⟩ := h
  induction n using Nat.strongRecOn with
  | _ n ih =>
    by_cases hj : ∀ j, j < n → p j
    · exact ⟨n, hn, hj⟩
    · have : ∃ j, j < n ∧ ¬ p j := Classical.byContradiction fun hc => hj fun j hj => Classical.byContradiction fun hp => hc ⟨j, hj, hp⟩
      obtain ⟨j, h1, h2⟩ := this
      exact ih j h1 h2
theorem v_stop {C : List Int} (hb : ByLaw C) : ∃ N, ¬ goV C N ∧ ∀ j, j < N → goV C j := by
  refine least (Classical.byContradiction fun hc => ?_)
  have hall : ∀ n, goV C n := fun n => Classical.byContradiction fun h => hc ⟨n, h⟩
  have h1 := v_adv hb C.length (fun j _ => hall j)
  have h2 := (hall C.length).1
  omega
noncomputable def NVLaw (C : List Int) : Nat := open Classical in if h : ∃ N, ¬ goV C N ∧ ∀ j, j < N → goV C j then h.choose else 0
theorem NV_ok {C : List Int} (hb : ByLaw C) : ¬ goV C (NVLaw C) ∧ ∀ j, j < NVLaw C → goV C j := by
  have h := v_stop hb
  unfold NVLaw
  rw [dif_pos h]
  exact h.choose_spec
theorem NV_le {C : List Int} (hb : ByLaw C) : NVLaw C ≤ C.length := by
  rcases Nat.lt_or_ge C.length (NVLaw C) with h | h
  · have h1 := v_adv hb C.length (fun j hj => (NV_ok hb).2 j (by omega))
    have h2 := ((NV_ok hb).2 C.length h).1
    omega
  · exact h
theorem NV_pos {C : List Int} (hb : ByLaw C) (h : 1 ≤ C.length) : 1 ≤ NVLaw C := by
  rcases Nat.eq_zero_or_pos (NVLaw C) with h0 | h0
  · have h1 := (NV_ok hb).1
    rw [h0] at h1
    exact absurd (⟨(show 0 < C.length - 0 by omega), rfl⟩ : goV C 0) h1
  · exact h0
noncomputable def mVLaw (C : List Int) : Nat := NVLaw C - 1
def zVLaw (C : List Int) : List Int := vrowLaw C 0
noncomputable def ZVLaw (C : List Int) : List (List Int) := ZVl C (mVLaw C)
noncomputable def okVLaw (C : List Int) : Bool := reLaw C (vstV C (NVLaw C)).1 (vstV C (NVLaw C)).2 == 0
def F14 (C : List Int) (g : Nat) (cp : Option Nat) : Nat → Fm
  | 0 => [(0, .slice 1 0 g 0 C.length cp), (4, .var 1 0), (5, .nilSlice), (6, .int .i64 ((0 : Nat) : Int))]
  | k + 1 => [(0, .slice 1 0 g 0 C.length cp), (4, .var 1 0), (5, .slice 1 3 k 0 (k + 1) none), (6, .int .i64 ((k + 1 : Nat) : Int))]
def T14 (B C : List Int) (g : Nat) : Nat → Tab
  | 0 => [some ⟨.ints .u8 B, g, false, 5⟩, some ⟨.agg [.slice 1 2 1 (vstV C 0).1 (C.length - (vstV C 0).1) none, .int .i64 (vstV C 0).2, .bool true], 0, true, 60⟩, some ⟨.ints .u8 C, 1, true, 5⟩]
  | k + 1 => [some ⟨.ints .u8 B, g, false, 5⟩, some ⟨.agg [.slice 1 2 1 (vstV C (k + 1)).1 (C.length - (vstV C (k + 1)).1) none, .int .i64 (vstV C (k + 1)).2, .bool true], 0, true, 60⟩, some ⟨.ints .u8 C, 1, true, 5⟩, some ⟨.frows 4 (k + 1) (vrowLaw C 0 :: ZVl C k) [], k, true, 23⟩, some ⟨.fam (vrowLaw C 0 :: ZVl C k), (k + 1), true, 5⟩]
theorem v_in {C : List Int} (hb : ByLaw C) {k : Nat} (h : k < NVLaw C) : k < C.length := Nat.lt_of_lt_of_le h (NV_le hb)
theorem round14 {B C : List Int} {g : Nat} {cp : Option Nat} (hb : ByLaw C) (hl : C.length ≤ 140737488355) : ∀ k, k < NVLaw C →
    ToF eW 36 1 (roundOf 0 f14) (F14 C g cp k) (T14 B C g k) .normal (F14 C g cp (k + 1)) (T14 B C g (k + 1))
  | 0, hk => by
    have hg := (NV_ok hb).2 0 hk
    have h0 : To eW 36 1 (roundOf 0 f14) (F14 C g cp 0) (T14 B C g 0) .normal (A14 B C g C.length 0 (vstV C 0).1 (vstV C 0).2 cp).fm (A14 B C g C.length 0 (vstV C 0).1 (vstV C 0).2 cp).tab := To.ofG (o := A14 B C g C.length 0 (vstV C 0).1 (vstV C 0).2 cp) eW_ok hmC (Nat.le_refl 1) OrcOk.nil rfl (A14_ok (by
      have h1 := vst_off C 0
      have h2 := hg.1
      simp only [allP, Con.h, hg.2, hb, h1, decide_eq_true_eq, beq_self_eq_true, eq_self, true_and, and_true]; omega)) A14_ex rfl rfl
    rw [A14_fm, A14_tab] at h0
    have h1 := ToF.of h0 ⟨fun o h => by injection h with h; subst h; exact .inl rfl, ⟨fun o h => by injection h with h; subst h; exact .inl rfl, ⟨fun o h => by injection h with h; subst h; exact .inl rfl, ⟨fun o h => by injection h with h; subst h; rfl, ⟨fun o h => by injection h with h; subst h; rfl, trivial⟩⟩⟩⟩⟩
    have h2 := h1.conv (ConvF.of (Conv.first 5 (x := 3) rfl rfl) (fun p o hp => by
      match p, hp with
      | 0, hp => injection hp with hp; injection hp with hp; subst hp; exact .inl rfl
      | 1, hp => injection hp with hp; injection hp with hp; subst hp; exact .inl rfl
      | 2, hp => injection hp with hp; injection hp with hp; subst hp; exact .inl rfl
      | 3, hp => injection hp with hp; injection hp with hp; subst hp; exact .inl rfl
      | 4, hp => injection hp with hp; injection hp with hp; subst hp; exact .inl rfl
      | 5, hp => injection hp with hp; injection hp with hp; subst hp; exact .inr (.inl rfl)
      | p + 6, hp => simp at hp)) (by intro p hp; simp at hp; subst hp; exact ⟨5, _, rfl, rfl⟩)
    have h3 := h2.conv (ConvF.absorb (x := 3) (F := 5) (q := 4) rfl rfl rfl (by simp) (fun p o hp hne => by
      match p, hp with
      | 0, hp => injection hp with hp; injection hp with hp; subst hp; rfl
      | 1, hp => injection hp with hp; injection hp with hp; subst hp; rfl
      | 2, hp => injection hp with hp; injection hp with hp; subst hp; rfl
      | 3, hp => injection hp with hp; injection hp with hp; subst hp; rfl
      | 4, hp => injection hp with hp; injection hp with hp; subst hp; rfl
      | 5, hp => exact absurd rfl hne
      | p + 6, hp => simp at hp) rfl) (by intro p hp; simp at hp; subst hp; exact ⟨5, _, rfl, rfl⟩)
    have e : ((rvVLaw C (vstV C 0).1 (vstV C 0).2).drop 0).take (rvVLaw C (vstV C 0).1 (vstV C 0).2).length = vrowLaw C 0 := by rw [List.drop_zero, List.take_length]; rfl
    rw [e] at h3
    exact h3.gc [0, 1, 2, 3, 5] [0, 4, 5, 6] rfl rfl rfl
  | k + 1, hk => by
    have hg := (NV_ok hb).2 (k + 1) hk
    have hlen := ZVl_len C k
    have hlt : (vrowLaw C 0 :: ZVl C k).length = k + 1 := by rw [List.length_cons, hlen]
    have hin := v_in hb hk
    have h0 : To eW 36 5 (roundOf 0 f14) (F14 C g cp (k + 1)) (T14 B C g (k + 1)) .normal (B14 B C (vrowLaw C 0) (ZVl C k) g C.length (k + 1) (vstV C (k + 1)).1 k k (k + 1) (vstV C (k + 1)).2 cp).fm (B14 B C (vrowLaw C 0) (ZVl C k) g C.length (k + 1) (vstV C (k + 1)).1 k k (k + 1) (vstV C (k + 1)).2 cp).tab := To.ofG (o := B14 B C (vrowLaw C 0) (ZVl C k) g C.length (k + 1) (vstV C (k + 1)).1 k k (k + 1) (vstV C (k + 1)).2 cp) eW_ok hmC (Nat.le_refl 5) OrcOk.nil rfl (B14_ok (by
      have h1 := vst_off C (k + 1)
      have h2 := hg.1
      simp only [allP, Con.h, hg.2, hb, h1, hlt, decide_eq_true_eq, beq_self_eq_true, eq_self, true_and, and_true]; omega)) B14_ex rfl rfl
    rw [B14_fm, B14_tab] at h0
    have e0 : List.take k (ZVl C k) = ZVl C k := List.take_of_length_le (by rw [hlen]; exact Nat.le_refl _)
    rw [e0] at h0
    have h1 := ToF.base (Nat.le_of_ble_eq_true rfl : 1 ≤ 5) (ToF.of h0 ⟨fun o h => by injection h with h; subst h; exact .inl rfl, ⟨fun o h => by injection h with h; subst h; exact .inl rfl, ⟨fun o h => by injection h with h; subst h; exact .inl rfl, ⟨fun o h => by injection h with h; subst h; exact .inl rfl, ⟨fun o h => by injection h with h; subst h; exact .inr ⟨by decide, _, _, _, rfl, rfl, rfl⟩, ⟨fun o h => by injection h with h; subst h; rfl, trivial⟩⟩⟩⟩⟩⟩)
    have h3 := h1.conv (ConvF.absorb (x := 3) (F := 4) (q := 5) rfl rfl rfl (by simp) (fun p o hp hne => by
      match p, hp with
      | 0, hp => injection hp with hp; injection hp with hp; subst hp; rfl
      | 1, hp => injection hp with hp; injection hp with hp; subst hp; rfl
      | 2, hp => injection hp with hp; injection hp with hp; subst hp; rfl
      | 3, hp => injection hp with hp; injection hp with hp; subst hp; rfl
      | 4, hp => exact absurd rfl hne
      | 5, hp => injection hp with hp; injection hp with hp; subst hp; rfl
      | p + 6, hp => simp at hp) rfl) (by intro p hp; simp at hp; subst hp; exact ⟨5, _, rfl, rfl⟩)
    have e : ((rvVLaw C (vstV C (k + 1)).1 (vstV C (k + 1)).2).drop 0).take (rvVLaw C (vstV C (k + 1)).1 (vstV C (k + 1)).2).length = vrowLaw C (k + 1) := by rw [List.drop_zero, List.take_length]; rfl
    have e2 : (vrowLaw C 0 :: ZVl C k) ++ [vrowLaw C (k + 1)] = vrowLaw C 0 :: ZVl C (k + 1) := by rw [ZVl_succ]; rfl
    rw [e, e2] at h3
    exact h3.gc [0, 1, 2, 3, 4] [0, 4, 5, 6] rfl rfl rfl
theorem loop14 {B C : List Int} {g : Nat} {cp : Option Nat} (hb : ByLaw C) (hl : C.length ≤ 140737488355) (h1 : 1 ≤ C.length) :
    ToF eW 36 1 (.block 0 (.loop (roundOf 0 f14))) (F14 C g cp 0) (T14 B C g 0) .normal [(0, .slice 1 0 g 0 C.length cp), (4, .var 1 0), (5, .slice 1 3 (mVLaw C) 0 (mVLaw C + 1) none)] [some ⟨.ints .u8 B, g, false, 5⟩, some ⟨.agg [.slice 1 2 1 (vstV C (NVLaw C)).1 (C.length - (vstV C (NVLaw C)).1) none, .int .i64 (vstV C (NVLaw C)).2, .bool true], 0, true, 60⟩, some ⟨.ints .u8 C, 1, true, 5⟩, some ⟨.frows 4 (mVLaw C + 1) (zVLaw C :: ZVLaw C) [], (mVLaw C), true, 23⟩, some ⟨.fam (zVLaw C :: ZVLaw C), (mVLaw C + 1), true, 5⟩] := by
  refine ToF.rounds (E := eW) (n := 36) (k := 1) (id := 0) (c := roundOf 0 f14) (F14 C g cp) (T14 B C g) (NVLaw C) (round14 hb hl) ?_
  obtain ⟨N, hN⟩ : ∃ N, NVLaw C = N + 1 := ⟨NVLaw C - 1, by have := NV_pos hb h1; omega⟩
  have hm : mVLaw C = N := by unfold mVLaw; omega
  have hZ : ZVLaw C = ZVl C N := by unfold ZVLaw; rw [hm]
  have hng := (NV_ok hb).1
  have hle := NV_le hb
  rw [hm, hZ, hN]
  rw [hN] at hng hle
  refine ToF.base (Nat.le_of_ble_eq_true rfl : 1 ≤ 5) (ToF.of (T' := [some ⟨.ints .u8 B, g, false, 5⟩, some ⟨.agg [.slice 1 2 1 (vstV C (N + 1)).1 (C.length - (vstV C (N + 1)).1) none, .int .i64 (vstV C (N + 1)).2, .bool true], 0, true, 60⟩, some ⟨.ints .u8 C, 1, true, 5⟩, some ⟨.frows 4 (N + 1) (vrowLaw C 0 :: ZVl C N) [], N, true, 23⟩, some ⟨.fam (vrowLaw C 0 :: ZVl C N), (N + 1), true, 5⟩]) ?_ ⟨fun o h => by injection h with h; subst h; exact .inl rfl, ⟨fun o h => by injection h with h; subst h; exact .inl rfl, ⟨fun o h => by injection h with h; subst h; exact .inl rfl, ⟨fun o h => by injection h with h; subst h; exact .inl rfl, ⟨fun o h => by injection h with h; subst h; exact .inr ⟨by decide, _, _, _, rfl, rfl, rfl⟩, trivial⟩⟩⟩⟩⟩)
  by_cases h2 : 0 < C.length - (vstV C (N + 1)).1
  · have h3 : (vstV C (N + 1)).2 ≠ 0 := fun h => hng ⟨h2, h⟩
    exact To.ofG (o := D14 B C (vrowLaw C 0) (ZVl C N) g C.length (N + 1) (vstV C (N + 1)).1 N N (N + 1) (vstV C (N + 1)).2 cp) eW_ok hmC (Nat.le_refl 5) OrcOk.nil rfl (D14_ok (by
      simp only [allP, Con.h, decide_eq_true_eq, beq_eq_false_iff_ne, ne_eq, h3, not_false_eq_true, eq_self, true_and, and_true]; omega)) D14_ex D14_fm D14_tab
  · exact To.ofG (o := C14 B C (vrowLaw C 0) (ZVl C N) g C.length (N + 1) (vstV C (N + 1)).1 N N (N + 1) (vstV C (N + 1)).2 cp) eW_ok hmC (Nat.le_refl 5) OrcOk.nil rfl (C14_ok (by
      simp only [allP, Con.h, decide_eq_true_eq, decide_eq_false_iff_not, eq_self, true_and, and_true]; omega)) C14_ex C14_fm C14_tab
theorem vec14 {B : List Int} {g n : Nat} {cp : Option Nat} (hn : n ≤ B.length) (h1 : 1 ≤ n) (hl : n ≤ 140737488355) (hb : ByLaw (subLaw B 0 n)) :
    SmallF prog (fun _ => none) 14 [.slice 1 0 g 0 n cp] [some ⟨.ints .u8 B, g, false, 5⟩] (.tuple [.slice 1 1 (mVLaw (subLaw B 0 n)) 0 (mVLaw (subLaw B 0 n) + 1) none, .bool (okVLaw (subLaw B 0 n))]) [some ⟨.ints .u8 B, g, false, 5⟩, some ⟨.frows 2 (mVLaw (subLaw B 0 n) + 1) (zVLaw (subLaw B 0 n) :: ZVLaw (subLaw B 0 n)) [], mVLaw (subLaw B 0 n), true, 23⟩, some ⟨.fam (zVLaw (subLaw B 0 n) :: ZVLaw (subLaw B 0 n)), mVLaw (subLaw B 0 n) + 1, true, 5⟩] := by
  have hlen : (subLaw B 0 n).length = n := by unfold subLaw; simp; omega
  refine smallF_of_awpF eW_ok (f := 14) (fn := f14) (c := bodyOf f14) (by kernel_rfl) (by kernel_rfl) (by kernel_rfl) (fun p o hp => by
      match p, hp with
      | 0, hp => injection hp with hp; injection hp with hp; subst hp; exact ⟨rfl, rfl⟩
      | p + 1, hp => simp at hp) ?_
  show AWpF eW 36 1 (bodyOf f14) [(0, .slice 1 0 g 0 n cp)] [some ⟨.ints .u8 B, g, false, 5⟩] _
  rw [body14]
  refine AWpF.seq (AWpF.mono (ToF.of (To.of (o := N14a B g n cp) eW_ok hmC (Nat.le_refl 1) OrcOk.nil rfl (N14a_ok trivial) N14a_ex N14a_fm N14a_tab) ⟨fun o h => by injection h with h; subst h; exact .inl rfl, trivial⟩) fun ex fm T hP => ?_)
  obtain ⟨rfl, rfl, rfl⟩ := hP
  refine AWpF.seq (AWpF.mono (ToF.of (To.of (o := N14b B g n cp) eW_ok hmC (Nat.le_refl 1) OrcOk.nil rfl (N14b_ok (by simp only [allP, Con.h, eq_self, true_and, and_true]; omega)) N14b_ex N14b_fm N14b_tab) ⟨fun o h => by injection h with h; subst h; exact .inl rfl, ⟨fun o h => by injection h with h; subst h; rfl, ⟨fun o h => by injection h with h; subst h; rfl, trivial⟩⟩⟩) fun ex fm T hP => ?_)
  obtain ⟨rfl, rfl, rfl⟩ := hP
  generalize subLaw B 0 n = C at hb hlen ⊢
  subst hlen
  refine AWpF.seq (AWpF.mono (ToF.of (To.of (o := N14c B C g C.length cp) eW_ok hmC (Nat.le_refl 1) OrcOk.nil rfl (N14c_ok trivial) N14c_ex N14c_fm N14c_tab) ⟨fun o h => by injection h with h; subst h; exact .inl rfl, ⟨fun o h => by injection h with h; subst h; exact .inl rfl, ⟨fun o h => by injection h with h; subst h; exact .inl rfl, trivial⟩⟩⟩) fun ex fm T hP => ?_)
  obtain ⟨rfl, rfl, rfl⟩ := hP
  refine AWpF.seq (AWpF.seq (AWpF.mono (ToF.of (To.of (o := I14 B C g C.length cp) eW_ok hmC (Nat.le_refl 1) OrcOk.nil rfl (I14_ok trivial) I14_ex I14_fm I14_tab) ⟨fun o h => by injection h with h; subst h; exact .inl rfl, ⟨fun o h => by injection h with h; subst h; exact .inl rfl, ⟨fun o h => by injection h with h; subst h; exact .inl rfl, trivial⟩⟩⟩) fun ex fm T hP => ?_))
  obtain ⟨rfl, rfl, rfl⟩ := hP
  refine AWpF.mono (loop14 (B := B) (g := g) (cp := cp) hb hl h1) fun ex fm T hP => ?_
  obtain ⟨rfl, rfl, rfl⟩ := hP
  have hz := ToF.base (Nat.le_of_ble_eq_true rfl : 1 ≤ 5) (ToF.of (k := 5) (To.ofG (o := Z14 B C (zVLaw C) (ZVLaw C) g C.length 0 (vstV C (NVLaw C)).1 (mVLaw C) (mVLaw C) (mVLaw C + 1) (vstV C (NVLaw C)).2 cp) eW_ok hmC (Nat.le_refl 5) OrcOk.nil rfl (Z14_ok (by simp only [allP, Con.h, eq_self, true_and, and_true])) Z14_ex Z14_fm Z14_tab) ⟨fun o h => by injection h with h; subst h; exact .inl rfl, ⟨fun o h => by injection h with h; subst h; exact .inl rfl, ⟨fun o h => by injection h with h; subst h; exact .inl rfl, ⟨fun o h => by injection h with h; subst h; exact .inl rfl, ⟨fun o h => by injection h with h; subst h; exact .inr ⟨by decide, _, _, _, rfl, rfl, rfl⟩, trivial⟩⟩⟩⟩⟩)
  refine AWpF.mono (hz.gc [0, 3, 4] [2, 3] rfl rfl rfl) fun ex fm T hP => ?_
  obtain ⟨rfl, rfl, rfl⟩ := hP
  exact ⟨.inr rfl, rfl, [], [.slice 1 1 (mVLaw C) 0 (mVLaw C + 1) none, .bool (okVLaw C)], rfl, trivial, rfl⟩
end Go.Abs

set_option linter.unusedVariables false
set_option linter.unusedSimpArgs false
set_option maxRecDepth 100000
set_option maxHeartbeats 4000000
namespace Go.Abs
open Go.Proofs Go.Proofs.Try
/-! ### vectors: the summary -/
theorem smallF_of_small {P : Program} {gl : Nat → Option AVal} {f : FuncId} {args : List AVal} {T0 T1 : Tab} {v : AVal} (h : Small P gl f args T0 v T1) (hn : ∀ (p : Nat) (o : AObj), T1[p]? = some (some o) → o.data.noFam = true) : SmallF P gl f args T0 v T1 := by
  intro ν w vs hr hvs
  refine (h ν w vs hr hvs).mono ?_
  rintro e w' ⟨x, ν', rfl, h1, h2, h3, h4⟩
  refine ⟨x, ν', rfl, h1, h2, h3, h4, fun p o l Z hT hl hZ => ?_⟩
  have := hn p o hT
  rw [hZ] at this; cases this
noncomputable def R14z (B : List Int) (g : Nat) (cp : Option Nat) : Res := runF eW f14 [] 400 [.slice 1 0 g 0 0 cp] [some ⟨.ints .u8 B, g, false, 5⟩] [some true, some false]
theorem R14z_ok {B : List Int} {g : Nat} {cp : Option Nat} (h : allP [.eqN g g, .leN 0 B.length, .eqN g g, .p (true = true), .p (false = false)]) : OkR (R14z B g cp) := OkR.dem (fl := bitsF 20 622480) (by kernel_rfl) (by kernel_rfl) (by kernel_rfl) h
theorem R14z_val {B : List Int} {g : Nat} {cp : Option Nat} : (R14z B g cp).val = .tuple [.nilSlice, .bool true] := by kernel_rfl
theorem R14z_tab {B : List Int} {g : Nat} {cp : Option Nat} : (R14z B g cp).tab = [some ⟨.ints .u8 B, g, false, 5⟩, some ⟨.agg [.slice 1 2 1 0 0 none, .int .i64 (OfNat.ofNat 0), .bool true], 0, true, 60⟩, some ⟨.ints .u8 (subLaw B 0 0), 1, true, 5⟩] := by kernel_rfl
noncomputable def sm14c (args : List AVal) (T : Tab) (B : List Int) (g m : Nat) (cp : Option Nat) : Res := ⟨[.tab T [some ⟨.ints .u8 B, g, false, 5⟩], .val (.tuple args) (.tuple [.slice 1 0 g 0 (m + 1) cp]), .leN (m + 1) B.length, .leN (m + 1) 140737488355, .p (ByLaw (subLaw B 0 (m + 1)))], .tuple [.slice 1 1 (mVLaw (subLaw B 0 (m + 1))) 0 (mVLaw (subLaw B 0 (m + 1)) + 1) none, .bool (okVLaw (subLaw B 0 (m + 1)))], [some ⟨.ints .u8 B, g, false, 5⟩, some ⟨.frows 2 (mVLaw (subLaw B 0 (m + 1)) + 1) (zVLaw (subLaw B 0 (m + 1)) :: ZVLaw (subLaw B 0 (m + 1))) [], mVLaw (subLaw B 0 (m + 1)), true, 23⟩, some ⟨.fam (zVLaw (subLaw B 0 (m + 1)) :: ZVLaw (subLaw B 0 (m + 1))), mVLaw (subLaw B 0 (m + 1)) + 1, true, 5⟩]⟩
noncomputable def sm14z (args : List AVal) (T : Tab) (B : List Int) (g : Nat) (cp : Option Nat) : Res := ⟨[.tab T [some ⟨.ints .u8 B, g, false, 5⟩], .val (.tuple args) (.tuple [.slice 1 0 g 0 0 cp])], .tuple [.nilSlice, .bool true], [some ⟨.ints .u8 B, g, false, 5⟩]⟩
noncomputable def sm14 : Summary := fun args T => match lenOf (vAt args 0) with
  | 0 => sm14z args T (xsAt T 0) (gAt T 0) (capOf (vAt args 0))
  | m + 1 => sm14c args T (xsAt T 0) (gAt T 0) m (capOf (vAt args 0))
theorem sm14c_ok {args : List AVal} {T : Tab} {B : List Int} {g m : Nat} {cp : Option Nat} (h : allP (sm14c args T B g m cp).cs) : SmallF prog (fun _ => none) 14 args T (sm14c args T B g m cp).val (sm14c args T B g m cp).tab := by
  obtain ⟨hT, hv, h1, h2, h3, _⟩ := h
  simp only [Con.h] at hT hv h1 h2 h3
  injection hv with hv
  subst hT hv
  exact vec14 h1 (by omega) h2 h3
theorem sm14z_ok {args : List AVal} {T : Tab} {B : List Int} {g : Nat} {cp : Option Nat} (h : allP (sm14z args T B g cp).cs) : SmallF prog (fun _ => none) 14 args T (sm14z args T B g cp).val (sm14z args T B g cp).tab := by
  obtain ⟨hT, hv, _⟩ := h
  simp only [Con.h] at hT hv
  injection hv with hv
  subst hT hv
  refine smallF_of_small (T1 := [some ⟨.ints .u8 B, g, false, 5⟩]) (small_drop (small_of (R := R14z B g cp) eW_ok hmC (f := 14) (fn := f14) (by kernel_rfl) (by kernel_rfl) FnOrc.nil rfl (R14z_ok (by simp [allP, Con.h, subLaw])) R14z_val R14z_tab)) (fun p o hp => ?_)
  match p, hp with
  | 0, hp => injection hp with hp; injection hp with hp; subst hp; rfl
  | p + 1, hp => simp at hp
theorem sm14_ok : SmOkF prog (fun _ => none) 14 sm14 := by
  intro args T h
  unfold sm14 at h ⊢
  split at h
  · exact sm14z_ok h
  · exact sm14c_ok h
noncomputable def S14v : Summary := callRF sm14 []
theorem S14v_ok : SumOk prog (fun _ => none) 14 S14v := callRF_ok sm14_ok []
end Go.Abs

set_option linter.unusedVariables false
set_option linter.unusedSimpArgs false
set_option maxRecDepth 100000
set_option maxHeartbeats 4000000
namespace Go.Abs
open Go.Proofs Go.Proofs.Try
end Go.Abs

set_option linter.unusedVariables false
set_option linter.unusedSimpArgs false
set_option maxRecDepth 100000
set_option maxHeartbeats 4000000
namespace Go.Abs
open Go.Proofs Go.Proofs.Try
/-! ### CodecApart: the law -/
def rowsV (C : List Int) (k : Nat) : List (List Int) := (List.range k).map (vrowLaw C)
theorem rowsV_succ (C : List Int) (k : Nat) : rowsV C (k + 1) = rowsV C k ++ [vrowLaw C k] := by simp [rowsV, List.range_succ]
theorem rowsV_cons (C : List Int) (k : Nat) : rowsV C (k + 1) = vrowLaw C 0 :: ZVl C k := by simp [rowsV, ZVl, List.range_succ_eq_map, Function.comp_def]
theorem ok_end {C : List Int} (h : okVLaw C = true) : (vstV C (NVLaw C)).2 = 0 ∧ C.length ≤ (vstV C (NVLaw C)).1 := by
  unfold okVLaw reLaw at h
  rw [beq_iff_eq] at h
  split at h
  · rename_i h1; exact absurd h h1
  · rename_i h1
    split at h
    · cases h
    · exact ⟨Classical.not_not.1 h1, by omega⟩
theorem okV_jn {C : List Int} (hb : ByLaw C) (h1 : 1 ≤ C.length) (hok : okVLaw C = true) : C = jnVLaw (zVLaw C :: ZVLaw C) := by
  obtain ⟨e1, e2⟩ := ok_end hok
  have key : ∀ k, k ≤ NVLaw C → C = jnVLaw (rowsV C k) ++ C.drop (vstV C k).1 := by
    intro k
    induction k with
    | zero => intro _; simp [rowsV, jnVLaw, vstV]
    | succ k ih =>
      intro hk
      have hg := (NV_ok hb).2 k hk
      have he : rvELaw C (vstV C k).1 (vstV C k).2 = 0 := by
        show (vstV C (k + 1)).2 = 0
        rcases Nat.lt_or_ge (k + 1) (NVLaw C) with h | h
        · exact ((NV_ok hb).2 (k + 1) h).2
        · have : k + 1 = NVLaw C := by omega
          rw [this]; exact e1
      rw [hg.2] at he
      have hc := (rv_canon hb he).2.2.2
      have hr : vrowLaw C k = rvVLaw C (vstV C k).1 0 := by unfold vrowLaw; rw [hg.2]
      have ho : (vstV C (k + 1)).1 = rvOLaw C (vstV C k).1 0 := by show rvOLaw C (vstV C k).1 (vstV C k).2 = _; rw [hg.2]
      rw [rowsV_succ, jnVLaw_app, hr, ho, List.append_assoc]
      have e3 : jnVLaw [rvVLaw C (vstV C k).1 0] ++ C.drop (rvOLaw C (vstV C k).1 0) = C.drop (vstV C k).1 := by
        rw [hc]; simp [jnVLaw]
      rw [e3]
      exact ih (by omega)
  have hN := key (NVLaw C) (Nat.le_refl _)
  rw [List.drop_eq_nil_of_le e2, List.append_nil] at hN
  obtain ⟨N, hNN⟩ : ∃ N, NVLaw C = N + 1 := ⟨NVLaw C - 1, by have := NV_pos hb h1; omega⟩
  have hm : mVLaw C = N := by unfold mVLaw; omega
  rw [hNN, rowsV_cons] at hN
  unfold ZVLaw zVLaw
  rw [hm]
  exact hN
theorem by_sub {zs : List Int} {n : Nat} (hz : ∀ z ∈ zs, 0 ≤ z ∧ z < 256) : ByLaw (subLaw zs 0 n) := fun i => by
  unfold subLaw
  rw [List.drop_zero, List.getD_eq_getElem?_getD]
  rcases Nat.lt_or_ge i (List.take n zs).length with h | h
  · rw [List.getElem?_eq_getElem h]
    exact hz _ (List.mem_of_mem_take (List.getElem_mem h))
  · rw [List.getElem?_eq_none h]
    exact ⟨Int.le_refl 0, by decide⟩
end Go.Abs

set_option linter.unusedVariables false
set_option linter.unusedSimpArgs false
set_option maxRecDepth 100000
set_option maxHeartbeats 4000000
namespace Go.Abs
open Go.Proofs Go.Proofs.Try
/-! ### CodecBack: the pieces -/
noncomputable def S10c : Summary := fun args T => match lenOf (vAt args 0) with
  | 0 => S10e args T
  | _ + 1 => S10v args T
theorem S10c_ok : SumOk prog (fun _ => none) 10 S10c := by
  intro args T h
  unfold S10c at h ⊢
  split at h
  · exact S10e_ok args T h
  · exact S10v_ok args T h
noncomputable def S44n : Summary := sumI modeO (eC0 []) f44 [] 400 [] []
theorem S44n_ok : SumOk prog (fun _ => none) 44 S44n := sumI_ok eC0_ok hmC (fn := f44) (by kernel_rfl) (by kernel_rfl) [] FnOrc.nil 400 [] []
noncomputable def eN1 : Env := eC0 [(44, S44n)]
theorem eN1_ok : EnvOk eN1 := envOf_ok tysC_ok (SumsOk.cons (fn := f44) S44n_ok (by kernel_rfl) (by kernel_rfl) (by kernel_rfl) trivial)
noncomputable def S23n : Summary := sumI modeO eN1 f23 [] 400 [] []
theorem S23n_ok : SumOk prog (fun _ => none) 23 S23n := sumI_ok eN1_ok hmC (fn := f23) (by kernel_rfl) (by kernel_rfl) [] FnOrc.nil 400 [] []
noncomputable def eN2 : Env := eC0 [(35, S35)]
theorem eN2_ok : EnvOk eN2 := envOf_ok tysC_ok (SumsOk.cons (fn := f35) S35_ok (by kernel_rfl) (by kernel_rfl) (by kernel_rfl) trivial)
noncomputable def S36n : Summary := sumI modeO eN2 f36 [] 400 [] []
theorem S36n_ok : SumOk prog (fun _ => none) 36 S36n := sumI_ok eN2_ok hmC (fn := f36) (by kernel_rfl) (by kernel_rfl) [] FnOrc.nil 400 [] []
noncomputable def eN : Env := eC0 [(12, S12), (23, S23n), (29, S29r), (33, S33), (35, S35), (36, S36n)]
theorem eN_ok : EnvOk eN := envOf_ok tysC_ok (SumsOk.cons (fn := f12) S12_ok (by kernel_rfl) (by kernel_rfl) (by kernel_rfl) (SumsOk.cons (fn := f23) S23n_ok (by kernel_rfl) (by kernel_rfl) (by kernel_rfl) (SumsOk.cons (fn := f29) S29r_ok (by kernel_rfl) (by kernel_rfl) (by kernel_rfl) (SumsOk.cons (fn := f33) S33_ok (by kernel_rfl) (by kernel_rfl) (by kernel_rfl) (SumsOk.cons (fn := f35) S35_ok (by kernel_rfl) (by kernel_rfl) (by kernel_rfl) (SumsOk.cons (fn := f36) S36n_ok (by kernel_rfl) (by kernel_rfl) (by kernel_rfl) trivial))))))
noncomputable def S14n : Summary := sumI modeO eN f14 [] 400 [some true, some false] []
theorem S14n_ok : SumOk prog (fun _ => none) 14 S14n := sumI_ok eN_ok hmC (fn := f14) (by kernel_rfl) (by kernel_rfl) [] FnOrc.nil 400 [some true, some false] []
noncomputable def S14c : Summary := fun args T => match vAt args 0 with
  | .nilSlice => S14n args T
  | _ => S14v args T
theorem S14c_ok : SumOk prog (fun _ => none) 14 S14c := by
  intro args T h
  unfold S14c at h ⊢
  split at h
  · exact S14n_ok args T h
  · exact S14v_ok args T h
noncomputable def eB4 : Env := eC0 [(10, S10c), (12, S12), (13, S13), (14, S14c)]
theorem eB4_ok : EnvOk eB4 := envOf_ok tysC_ok (SumsOk.cons (fn := f10) S10c_ok (by kernel_rfl) (by kernel_rfl) (by kernel_rfl) (SumsOk.cons (fn := f12) S12_ok (by kernel_rfl) (by kernel_rfl) (by kernel_rfl) (SumsOk.cons (fn := f13) S13_ok (by kernel_rfl) (by kernel_rfl) (by kernel_rfl) (SumsOk.cons (fn := f14) S14c_ok (by kernel_rfl) (by kernel_rfl) (by kernel_rfl) trivial))))
noncomputable def c4m : Code := backC 3 (bodyOf f4)
noncomputable def c4a : Code := match backC 5 (bodyOf f4) with | .seq (.seq a _) _ => a | c => c
noncomputable def c4r : Code := match backC 5 (bodyOf f4) with | .seq _ c => c | c => c
theorem split4 : backC 2 c4m = .seq (.seq c4a (.block 0 (.loop (roundOf 0 f4)))) c4r := by kernel_rfl
noncomputable def P41 (z : List Int) (Z : List (List Int)) (D : List Int) (n : Nat) (c1 c2 : Option Nat) : Out := trim 3 3 [4] (run eB4 84 ⟨3, []⟩ 400 (bodyOf f4) [(0, .slice 1 0 0 0 (Z.length + 1) c1), (1, .slice 1 2 0 0 n c2)] [some ⟨.frows 1 0 (z :: Z) [], 0, false, 23⟩, some ⟨.fam (z :: Z), 0, false, 5⟩, some ⟨.ints .u8 D, 0, false, 5⟩] [some true, some true, none])
theorem P41_ok {z : List Int} {Z : List (List Int)} {D : List Int} {n : Nat} {c1 c2 : Option Nat} (h : allP [.eqN (Z.length + 1) (Z.length + 1), .leN (jnVLaw (z :: Z)).length 140737488355328, .leN (Z.length + 1) 140737488355328, .p ((jnErrLaw (z :: Z) != 0) = true), .eqN (jnGLaw (z :: Z)) (jnGLaw (z :: Z)), .p (((↑(jnLaw (z :: Z)).length : Int) == 0) = true)]) : Ok (P41 z Z D n c1 c2) := Ok.dem (fl
 := [true, true, false, false, false, false, false, false, false, false]) (by kernel_rfl) (by kernel_rfl) (by kernel_rfl) h
theorem P41_ex {z : List Int} {Z : List (List Int)} {D : List Int} {n : Nat} {c1 c2 : Option Nat} : (P41 z Z D n c1 c2).ex = .ret := by kernel_rfl
theorem P41_fm {z : List Int} {Z : List (List Int)} {D : List Int} {n : Nat} {c1 c2 : Option Nat} : (P41 z Z D n c1 c2).fm = [(4, .bool true)] := by kernel_rfl
theorem P41_tab {z : List Int} {Z : List (List Int)} {D : List Int} {n : Nat} {c1 c2 : Option Nat} : (P41 z Z D n c1 c2).tab = [some ⟨AVal.frows 1 0 (z :: Z) [], 0, false, 23⟩, some ⟨AVal.fam (z :: Z), 0, false, 5⟩, some ⟨.ints .u8 D, 0, false, 5⟩] := by kernel_rfl
noncomputable def F41 (z : List Int) (Z : List (List Int)) (D : List Int) (n : Nat) (c1 c2 : Option Nat) : Out := trim 3 4 [0,1,5] (runs eB4 84 ⟨3, []⟩ 400 (frontC 3 (bodyOf f4)) [(0, .slice 1 0 0 0 (Z.length + 1) c1), (1, .slice 1 2 0 0 n c2)] [some ⟨.frows 1 0 (z :: Z) [], 0, false, 23⟩, some ⟨.fam (z :: Z), 0, false, 5⟩, some ⟨.ints .u8 D, 0, false, 5⟩] [some false])
theorem F41_ok {z : List Int} {Z : List (List Int)} {D : List Int} {n : Nat} {c1 c2 : Option Nat} (h : allP [.eqN (Z.length + 1) (Z.length + 1), .leN (jnVLaw (z :: Z)).length 140737488355328, .leN (Z.length + 1) 140737488355328, .p ((jnErrLaw (z :: Z) != 0) = false)]) : Ok (F41 z Z D n c1 c2) := Ok.dem (fl := [true, true, false, false, false, false, false, false]) (by kernel_rfl) (by kernel_rfl)
 (by kernel_rfl) h
theorem F41_ex {z : List Int} {Z : List (List Int)} {D : List Int} {n : Nat} {c1 c2 : Option Nat} : (F41 z Z D n c1 c2).ex = .normal := by kernel_rfl
theorem F41_fm {z : List Int} {Z : List (List Int)} {D : List Int} {n : Nat} {c1 c2 : Option Nat} : (F41 z Z D n c1 c2).fm = [(0, .slice 1 0 0 0 (Z.length + 1) c1), (1, .slice 1 2 0 0 n c2), (5, .slice 1 3 (jnGLaw (z :: Z)) 0 (jnLaw (z :: Z)).length none)] := by kernel_rfl
theorem F41_tab {z : List Int} {Z : List (List Int)} {D : List Int} {n : Nat} {c1 c2 : Option Nat} : (F41 z Z D n c1 c2).tab = [some ⟨AVal.frows 1 0 (z :: Z) [], 0, false, 23⟩, some ⟨AVal.fam (z :: Z), 0, false, 5⟩, some ⟨.ints .u8 D, 0, false, 5⟩, some ⟨.ints .u8 (jnLaw (z :: Z)), jnGLaw (z :: Z), true, 5⟩] := by kernel_rfl
noncomputable def G4 (z : List Int) (Z : List (List Int)) (D J : List Int) (n G L : Nat) (c1 c2 : Option Nat) : Out := trimG 3 [0,1,2,4,5] [0,1,7] (runs eB4 84 ⟨3, []⟩ 400 (frontC 2 c4m) [(0, .slice 1 0 0 0 (Z.length + 1) c1), (1, .slice 1 2 0 0 n c2), (5, .slice 1 3 G 0 (L + 1) none)] [some ⟨.frows 1 0 (z :: Z) [], 0, false, 23⟩, some ⟨.fam (z :: Z), 0, false, 5⟩, some ⟨.ints .u8 D, 0, false, 5⟩, some ⟨.ints .u8 J, G, true, 5⟩] [some true, some false])
theorem G4_ok {z : List Int} {Z : List (List Int)} {D J : List Int} {n G L : Nat} {c1 c2 : Option Nat} (h : allP [.eqN G G, .leN (L + 1) J.length, .leN (L + 1) 140737488355, .p (ByLaw (subLaw J 0 (L + 1))), .p (okVLaw (subLaw J 0 (L + 1)) = true), .eqN (mVLaw (subLaw J 0 (L + 1))) (mVLaw (subLaw J 0 (L + 1))), .p (((↑(mVLaw (subLaw J 0 (L + 1)) + 1) : Int) != (↑(Z.length + 1) : Int)) = false)]) :
 Ok (G4 z Z D J n G L c1 c2) := Ok.dem (fl := [false, false, false, false, false, false, false, false, true, false]) (by kernel_rfl) (by kernel_rfl) (by kernel_rfl) h
theorem G4_ex {z : List Int} {Z : List (List Int)} {D J : List Int} {n G L : Nat} {c1 c2 : Option Nat} : (G4 z Z D J n G L c1 c2).ex = .normal := by kernel_rfl
theorem G4_fm {z : List Int} {Z : List (List Int)} {D J : List Int} {n G L : Nat} {c1 c2 : Option Nat} : (G4 z Z D J n G L c1 c2).fm = [(0, .slice 1 0 0 0 (Z.length + 1) c1), (1, .slice 1 2 0 0 n c2), (7, .slice 1 3 (mVLaw (subLaw J 0 (L + 1))) 0 (mVLaw (subLaw J 0 (L + 1)) + 1) none)] := by kernel_rfl
theorem G4_tab {z : List Int} {Z : List (List Int)} {D J : List Int} {n G L : Nat} {c1 c2 : Option Nat} : (G4 z Z D J n G L c1 c2).tab = [some ⟨AVal.frows 1 0 (z :: Z) [], 0, false, 23⟩, some ⟨AVal.fam (z :: Z), 0, false, 5⟩, some ⟨.ints .u8 D, 0, false, 5⟩, some ⟨AVal.frows 4 (mVLaw (subLaw J 0 (L + 1)) + 1) (zVLaw (subLaw J 0 (L + 1)) :: ZVLaw (subLaw J 0 (L + 1))) [], mVLaw (subLaw J 0 (L + 1)),
 true, 23⟩, some ⟨AVal.fam (zVLaw (subLaw J 0 (L + 1)) :: ZVLaw (subLaw J 0 (L + 1))), mVLaw (subLaw J 0 (L + 1)) + 1, true, 5⟩] := by kernel_rfl
noncomputable def I4 (z x : List Int) (Z X : List (List Int)) (D : List Int) (n p gx gF i : Nat) (c1 c2 : Option Nat) : Out := trim 3 5 [0,1,7,9] (run eB4 84 ⟨3, []⟩ 400 c4a [(0, .slice 1 0 0 0 (Z.length + 1) c1), (1, .slice 1 2 0 0 n c2), (7, .slice 1 3 gx 0 (p + 1) none)] [some ⟨.frows 1 0 (z :: Z) [], 0, false, 23⟩, some ⟨.fam (z :: Z), 0, false, 5⟩, some ⟨.ints .u8 D, 0, false, 5⟩, some ⟨.frows 4 gF (x :: X) [], gx, true, 23⟩, some ⟨.fam (x :: X), gF, true, 5⟩] [])
theorem I4_ok {z x : List Int} {Z X : List (List Int)} {D : List Int} {n p gx gF i : Nat} {c1 c2 : Option Nat} (h : allP []) : Ok (I4 z x Z X D n p gx gF i c1 c2) := Ok.dem (fl := []) (by kernel_rfl) (by kernel_rfl) (by kernel_rfl) h
theorem I4_ex {z x : List Int} {Z X : List (List Int)} {D : List Int} {n p gx gF i : Nat} {c1 c2 : Option Nat} : (I4 z x Z X D n p gx gF i c1 c2).ex = .normal := by kernel_rfl
theorem I4_fm {z x : List Int} {Z X : List (List Int)} {D : List Int} {n p gx gF i : Nat} {c1 c2 : Option Nat} : (I4 z x Z X D n p gx gF i c1 c2).fm = [(0, .slice 1 0 0 0 (Z.length + 1) c1), (1, .slice 1 2 0 0 n c2), (7, .slice 1 3 gx 0 (p + 1) none), (9, .int .i64 0)] := by kernel_rfl
theorem I4_tab {z x : List Int} {Z X : List (List Int)} {D : List Int} {n p gx gF i : Nat} {c1 c2 : Option Nat} : (I4 z x Z X D n p gx gF i c1 c2).tab = [some ⟨AVal.frows 1 0 (z :: Z) [], 0, false, 23⟩, some ⟨AVal.fam (z :: Z), 0, false, 5⟩, some ⟨.ints .u8 D, 0, false, 5⟩, some ⟨AVal.frows 4 gF (x :: X) [], gx, true, 23⟩, some ⟨AVal.fam (x :: X), gF, true, 5⟩] := by kernel_rfl
noncomputable def R4 (z x : List Int) (Z X : List (List Int)) (D : List Int) (n p gx gF i : Nat) (c1 c2 : Option Nat) : Out := trim 3 5 [0,1,7,9] (run eB4 84 ⟨3, []⟩ 400 (roundOf 0 f4) [(0, .slice 1 0 0 0 (Z.length + 1) c1), (1, .slice 1 2 0 0 n c2), (7, .slice 1 3 gx 0 (p + 1) none), (9, .int .i64 (i : Nat))] [some ⟨.frows 1 0 (z :: Z) [], 0, false, 23⟩, some ⟨.fam (z :: Z), 0, false, 5⟩, some ⟨.ints .u8 D, 0, false, 5⟩, some ⟨.frows 4 gF (x :: X) [], gx, true, 23⟩, some ⟨.fam (x :: X), gF, true, 5⟩] [some true, some false])
theorem R4_ok {z x : List Int} {Z X : List (List Int)} {D : List Int} {n p gx gF i : Nat} {c1 c2 : Option Nat} (h : allP [.p (decide ((↑i : Int) < (↑(Z.length + 1) : Int)) = true), .eqN gx gx, .leI 0 (↑i : Int), .leI ((↑i : Int) + 1) (↑(p + 1) : Int), .eqN gx gx, .leN (i + 1) (x :: X).length, .eqN gF gF, .leI 0 (↑i : Int), .leI ((↑i : Int) + 1) (↑(Z.length + 1) : Int), .leN (i + 1) (z :: Z).length,
 .p ((!List.map byteOf ((x :: X).getD i []) == List.map byteOf ((z :: Z).getD i [])) = false), .rng (-9223372036854775808) ((↑i : Int) + 1) 9223372036854775807]) : Ok (R4 z x Z X D n p gx gF i c1 c2) := Ok.dem (fl := bitsF 17 20993) (by kernel_rfl) (by kernel_rfl) (by kernel_rfl) h
theorem R4_ex {z x : List Int} {Z X : List (List Int)} {D : List Int} {n p gx gF i : Nat} {c1 c2 : Option Nat} : (R4 z x Z X D n p gx gF i c1 c2).ex = .normal := by kernel_rfl
theorem R4_fm {z x : List Int} {Z X : List (List Int)} {D : List Int} {n p gx gF i : Nat} {c1 c2 : Option Nat} : (R4 z x Z X D n p gx gF i c1 c2).fm = [(0, .slice 1 0 0 0 (Z.length + 1) c1), (1, .slice 1 2 0 0 n c2), (7, .slice 1 3 gx 0 (p + 1) none), (9, .int .i64 ((↑i : Int) + 1))] := by kernel_rfl
theorem R4_tab {z x : List Int} {Z X : List (List Int)} {D : List Int} {n p gx gF i : Nat} {c1 c2 : Option Nat} : (R4 z x Z X D n p gx gF i c1 c2).tab = [some ⟨AVal.frows 1 0 (z :: Z) [], 0, false, 23⟩, some ⟨AVal.fam (z :: Z), 0, false, 5⟩, some ⟨.ints .u8 D, 0, false, 5⟩, some ⟨AVal.frows 4 gF (x :: X) [], gx, true, 23⟩, some ⟨AVal.fam (x :: X), gF, true, 5⟩] := by kernel_rfl
noncomputable def D4 (z x : List Int) (Z X : List (List Int)) (D : List Int) (n p gx gF i : Nat) (c1 c2 : Option Nat) : Out := trim 3 3 [0,1] (run eB4 84 ⟨3, []⟩ 400 (roundOf 0 f4) [(0, .slice 1 0 0 0 (Z.length + 1) c1), (1, .slice 1 2 0 0 n c2), (7, .slice 1 3 gx 0 (p + 1) none), (9, .int .i64 (i : Nat))] [some ⟨.frows 1 0 (z :: Z) [], 0, false, 23⟩, some ⟨.fam (z :: Z), 0, false, 5⟩, some ⟨.ints .u8 D, 0, false, 5⟩, some ⟨.frows 4 gF (x :: X) [], gx, true, 23⟩, some ⟨.fam (x :: X), gF, true, 5⟩] [some false])
theorem D4_ok {z x : List Int} {Z X : List (List Int)} {D : List Int} {n p gx gF i : Nat} {c1 c2 : Option Nat} (h : allP [.p (decide ((↑i : Int) < (↑(Z.length + 1) : Int)) = false)]) : Ok (D4 z x Z X D n p gx gF i c1 c2) := Ok.dem (fl := [true, false]) (by kernel_rfl) (by kernel_rfl) (by kernel_rfl) h
theorem D4_ex {z x : List Int} {Z X : List (List Int)} {D : List Int} {n p gx gF i : Nat} {c1 c2 : Option Nat} : (D4 z x Z X D n p gx gF i c1 c2).ex = .exit 0 := by kernel_rfl
theorem D4_fm {z x : List Int} {Z X : List (List Int)} {D : List Int} {n p gx gF i : Nat} {c1 c2 : Option Nat} : (D4 z x Z X D n p gx gF i c1 c2).fm = [(0, .slice 1 0 0 0 (Z.length + 1) c1), (1, .slice 1 2 0 0 n c2)] := by kernel_rfl
theorem D4_tab {z x : List Int} {Z X : List (List Int)} {D : List Int} {n p gx gF i : Nat} {c1 c2 : Option Nat} : (D4 z x Z X D n p gx gF i c1 c2).tab = [some ⟨AVal.frows 1 0 (z :: Z) [], 0, false, 23⟩, some ⟨AVal.fam (z :: Z), 0, false, 5⟩, some ⟨.ints .u8 D, 0, false, 5⟩] := by kernel_rfl
noncomputable def Z40 (z : List Int) (Z : List (List Int)) (D : List Int) (n : Nat) (c1 c2 : Option Nat) : Out := trim 3 3 [4] (run eB4 84 ⟨3, []⟩ 400 c4r [(0, .slice 1 0 0 0 (Z.length + 1) c1), (1, .slice 1 2 0 0 0 c2)] [some ⟨.frows 1 0 (z :: Z) [], 0, false, 23⟩, some ⟨.fam (z :: Z), 0, false, 5⟩, some ⟨.ints .u8 D, 0, false, 5⟩] [some true, some true, some true, some true])
theorem Z40_ok {z : List Int} {Z : List (List Int)} {D : List Int} {n : Nat} {c1 c2 : Option Nat} (h : allP [.p (true = true), .p (false = false), .p (true = true), .leN 0 D.length, .p (true = true), .p (true = true)]) : Ok (Z40 z Z D n c1 c2) := Ok.dem (fl := [true, false, false, false, false, false, true, false, false, false]) (by kernel_rfl) (by kernel_rfl) (by kernel_rfl) h
theorem Z40_ex {z : List Int} {Z : List (List Int)} {D : List Int} {n : Nat} {c1 c2 : Option Nat} : (Z40 z Z D n c1 c2).ex = .ret := by kernel_rfl
theorem Z40_fm {z : List Int} {Z : List (List Int)} {D : List Int} {n : Nat} {c1 c2 : Option Nat} : (Z40 z Z D n c1 c2).fm = [(4, .bool true)] := by kernel_rfl
theorem Z40_tab {z : List Int} {Z : List (List Int)} {D : List Int} {n : Nat} {c1 c2 : Option Nat} : (Z40 z Z D n c1 c2).tab = [some ⟨AVal.frows 1 0 (z :: Z) [], 0, false, 23⟩, some ⟨AVal.fam (z :: Z), 0, false, 5⟩, some ⟨.ints .u8 D, 0, false, 5⟩] := by kernel_rfl
noncomputable def Z4f (z : List Int) (Z : List (List Int)) (D : List Int) (n : Nat) (c1 c2 : Option Nat) : Out := trim 3 3 [4] (run eB4 84 ⟨3, []⟩ 400 c4r [(0, .slice 1 0 0 0 (Z.length + 1) c1), (1, .slice 1 2 0 0 (n + 1) c2)] [some ⟨.frows 1 0 (z :: Z) [], 0, false, 23⟩, some ⟨.fam (z :: Z), 0, false, 5⟩, some ⟨.ints .u8 D, 0, false, 5⟩] [some false, none])
theorem Z4f_ok {z : List Int} {Z : List (List Int)} {D : List Int} {n : Nat} {c1 c2 : Option Nat} (h : allP [.leN (n + 1) D.length, .leN (n + 1) 140737488355, .p (ByLaw (subLaw D 0 (n + 1))), .p (okVLaw (subLaw D 0 (n + 1)) = false)]) : Ok (Z4f z Z D n c1 c2) := Ok.dem (fl := [true, false, false, false, false, false, false]) (by kernel_rfl) (by kernel_rfl) (by kernel_rfl) h
theorem Z4f_ex {z : List Int} {Z : List (List Int)} {D : List Int} {n : Nat} {c1 c2 : Option Nat} : (Z4f z Z D n c1 c2).ex = .ret := by kernel_rfl
theorem Z4f_fm {z : List Int} {Z : List (List Int)} {D : List Int} {n : Nat} {c1 c2 : Option Nat} : (Z4f z Z D n c1 c2).fm = [(4, .bool true)] := by kernel_rfl
theorem Z4f_tab {z : List Int} {Z : List (List Int)} {D : List Int} {n : Nat} {c1 c2 : Option Nat} : (Z4f z Z D n c1 c2).tab = [some ⟨AVal.frows 1 0 (z :: Z) [], 0, false, 23⟩, some ⟨AVal.fam (z :: Z), 0, false, 5⟩, some ⟨.ints .u8 D, 0, false, 5⟩] := by kernel_rfl
noncomputable def Z4t (z : List Int) (Z : List (List Int)) (D : List Int) (n : Nat) (c1 c2 : Option Nat) : Out := trim 3 3 [4] (run eB4 84 ⟨3, []⟩ 400 c4r [(0, .slice 1 0 0 0 (Z.length + 1) c1), (1, .slice 1 2 0 0 (n + 1) c2)] [some ⟨.frows 1 0 (z :: Z) [], 0, false, 23⟩, some ⟨.fam (z :: Z), 0, false, 5⟩, some ⟨.ints .u8 D, 0, false, 5⟩] [some true, some true, some true, some true])
theorem Z4t_ok {z : List Int} {Z : List (List Int)} {D : List Int} {n : Nat} {c1 c2 : Option Nat} (h : allP [.leN (n + 1) D.length, .leN (n + 1) 140737488355, .p (ByLaw (subLaw D 0 (n + 1))), .p (okVLaw (subLaw D 0 (n + 1)) = true), .eqN (mVLaw (subLaw D 0 (n + 1))) (mVLaw (subLaw D 0 (n + 1))), .eqN (mVLaw (subLaw D 0 (n + 1)) + 1) (mVLaw (subLaw D 0 (n + 1)) + 1), .eqN (mVLaw (subLaw D 0 (n + 1))
 + 1) ((ZVLaw (subLaw D 0 (n + 1))).length + 1), .leN (jnVLaw (zVLaw (subLaw D 0 (n + 1)) :: ZVLaw (subLaw D 0 (n + 1)))).length 140737488355328, .leN ((ZVLaw (subLaw D 0 (n + 1))).length + 1) 140737488355328, .p ((jnErrLaw (zVLaw (subLaw D 0 (n + 1)) :: ZVLaw (subLaw D 0 (n + 1))) == 0) = true), .eqN (jnGLaw (zVLaw (subLaw D 0 (n + 1)) :: ZVLaw (subLaw D 0 (n + 1)))) (jnGLaw (zVLaw (subLaw D 0 (n +
 1)) :: ZVLaw (subLaw D 0 (n + 1)))), .leN (0 + (jnLaw (zVLaw (subLaw D 0 (n + 1)) :: ZVLaw (subLaw D 0 (n + 1)))).length) (jnLaw (zVLaw (subLaw D 0 (n + 1)) :: ZVLaw (subLaw D 0 (n + 1)))).length, .leN (0 + (n + 1)) D.length, .p ((List.map byteOf (List.take (jnLaw (zVLaw (subLaw D 0 (n + 1)) :: ZVLaw (subLaw D 0 (n + 1)))).length (jnLaw (zVLaw (subLaw D 0 (n + 1)) :: ZVLaw (subLaw D 0 (n + 1)))))
 == List.map byteOf (List.take (n + 1) D)) = true), .p (true = true)]) : Ok (Z4t z Z D n c1 c2) := Ok.dem (fl := bitsF 21 131073) (by kernel_rfl) (by kernel_rfl) (by kernel_rfl) h
theorem Z4t_ex {z : List Int} {Z : List (List Int)} {D : List Int} {n : Nat} {c1 c2 : Option Nat} : (Z4t z Z D n c1 c2).ex = .ret := by kernel_rfl
theorem Z4t_fm {z : List Int} {Z : List (List Int)} {D : List Int} {n : Nat} {c1 c2 : Option Nat} : (Z4t z Z D n c1 c2).fm = [(4, .bool true)] := by kernel_rfl
theorem Z4t_tab {z : List Int} {Z : List (List Int)} {D : List Int} {n : Nat} {c1 c2 : Option Nat} : (Z4t z Z D n c1 c2).tab = [some ⟨AVal.frows 1 0 (z :: Z) [], 0, false, 23⟩, some ⟨AVal.fam (z :: Z), 0, false, 5⟩, some ⟨.ints .u8 D, 0, false, 5⟩] := by kernel_rfl
noncomputable def R40 (D : List Int) (n : Nat) (c1 c2 : Option Nat) : Res := runF eB4 f4 [] 400 [.slice 1 0 0 0 0 c1, .slice 1 1 0 0 0 c2] [some ⟨.agg [], 0, false, 23⟩, some ⟨.ints .u8 D, 0, false, 5⟩] [some false, some true, some false, some false, some true, some true, some true, some true]
theorem R40_ok {D : List Int} {n : Nat} {c1 c2 : Option Nat} (h : allP [.p (false = false), .p (false = false), .p (true = true), .p (false = false), .p (true = true), .p (false = false), .p (false = false), .p (true = true), .p (false = false), .p (true = true), .leN 0 D.length, .p (true = true), .p (true = true)]) : OkR (R40 D n c1 c2) := OkR.dem (fl := bitsF 46 4490388274931) (by kernel_rfl) (by
 kernel_rfl) (by kernel_rfl) h
theorem R40_val {D : List Int} {n : Nat} {c1 c2 : Option Nat} : (R40 D n c1 c2).val = .bool true := by kernel_rfl
theorem R40_tab {D : List Int} {n : Nat} {c1 c2 : Option Nat} : (R40 D n c1 c2).tab = [some ⟨.agg [], 0, false, 23⟩, some ⟨.ints .u8 D, 0, false, 5⟩] := by kernel_rfl
noncomputable def R4f (D : List Int) (n : Nat) (c1 c2 : Option Nat) : Res := runF eB4 f4 [] 400 [.slice 1 0 0 0 0 c1, .slice 1 1 0 0 (n + 1) c2] [some ⟨.agg [], 0, false, 23⟩, some ⟨.ints .u8 D, 0, false, 5⟩] [some false, some true, some false, some false, some false, none]
theorem R4f_ok {D : List Int} {n : Nat} {c1 c2 : Option Nat} (h : allP [.p (false = false), .p (false = false), .p (true = true), .p (false = false), .p (true = true), .p (false = false), .p (false = false), .leN (n + 1) D.length, .leN (n + 1) 140737488355, .p (ByLaw (subLaw D 0 (n + 1))), .p (okVLaw (subLaw D 0 (n + 1)) = false)]) : OkR (R4f D n c1 c2) := OkR.dem (fl := bitsF 43 92341763827) (by
 kernel_rfl) (by kernel_rfl) (by kernel_rfl) h
theorem R4f_val {D : List Int} {n : Nat} {c1 c2 : Option Nat} : (R4f D n c1 c2).val = .bool true := by kernel_rfl
theorem R4f_tab {D : List Int} {n : Nat} {c1 c2 : Option Nat} : (R4f D n c1 c2).tab = [some ⟨.agg [], 0, false, 23⟩, some ⟨.ints .u8 D, 0, false, 5⟩, some ⟨AVal.frows 3 (mVLaw (subLaw D 0 (n + 1)) + 1) (zVLaw (subLaw D 0 (n + 1)) :: ZVLaw (subLaw D 0 (n + 1))) [], mVLaw (subLaw D 0 (n + 1)), true, 23⟩, some ⟨AVal.fam (zVLaw (subLaw D 0 (n + 1)) :: ZVLaw (subLaw D 0 (n + 1))), mVLaw (subLaw D 0 (n +
 1)) + 1, true, 5⟩] := by kernel_rfl
noncomputable def R4t (D : List Int) (n : Nat) (c1 c2 : Option Nat) : Res := runF eB4 f4 [] 400 [.slice 1 0 0 0 0 c1, .slice 1 1 0 0 (n + 1) c2] [some ⟨.agg [], 0, false, 23⟩, some ⟨.ints .u8 D, 0, false, 5⟩] [some false, some true, some false, some false, some true, some true, some true, some true]
theorem R4t_ok {D : List Int} {n : Nat} {c1 c2 : Option Nat} (h : allP [.p (false = false), .p (false = false), .p (true = true), .p (false = false), .p (true = true), .p (false = false), .p (false = false), .leN (n + 1) D.length, .leN (n + 1) 140737488355, .p (ByLaw (subLaw D 0 (n + 1))), .p (okVLaw (subLaw D 0 (n + 1)) = true), .eqN (mVLaw (subLaw D 0 (n + 1))) (mVLaw (subLaw D 0 (n + 1))), .eqN
 (mVLaw (subLaw D 0 (n + 1)) + 1) (mVLaw (subLaw D 0 (n + 1)) + 1), .eqN (mVLaw (subLaw D 0 (n + 1)) + 1) ((ZVLaw (subLaw D 0 (n + 1))).length + 1), .leN (jnVLaw (zVLaw (subLaw D 0 (n + 1)) :: ZVLaw (subLaw D 0 (n + 1)))).length 140737488355328, .leN ((ZVLaw (subLaw D 0 (n + 1))).length + 1) 140737488355328, .p ((jnErrLaw (zVLaw (subLaw D 0 (n + 1)) :: ZVLaw (subLaw D 0 (n + 1))) == 0) = true), .eqN
 (jnGLaw (zVLaw (subLaw D 0 (n + 1)) :: ZVLaw (subLaw D 0 (n + 1)))) (jnGLaw (zVLaw (subLaw D 0 (n + 1)) :: ZVLaw (subLaw D 0 (n + 1)))), .leN (0 + (jnLaw (zVLaw (subLaw D 0 (n + 1)) :: ZVLaw (subLaw D 0 (n + 1)))).length) (jnLaw (zVLaw (subLaw D 0 (n + 1)) :: ZVLaw (subLaw D 0 (n + 1)))).length, .leN (0 + (n + 1)) D.length, .p ((List.map byteOf (List.take (jnLaw (zVLaw (subLaw D 0 (n + 1)) :: ZVLaw
 (subLaw D 0 (n + 1)))).length (jnLaw (zVLaw (subLaw D 0 (n + 1)) :: ZVLaw (subLaw D 0 (n + 1))))) == List.map byteOf (List.take (n + 1) D)) = true), .p (true = true)]) : OkR (R4t D n c1 c2) := OkR.dem (fl := bitsF 57 9007291596504819) (by kernel_rfl) (by kernel_rfl) (by kernel_rfl) h
theorem R4t_val {D : List Int} {n : Nat} {c1 c2 : Option Nat} : (R4t D n c1 c2).val = .bool true := by kernel_rfl
theorem R4t_tab {D : List Int} {n : Nat} {c1 c2 : Option Nat} : (R4t D n c1 c2).tab = [some ⟨.agg [], 0, false, 23⟩, some ⟨.ints .u8 D, 0, false, 5⟩, some ⟨AVal.frows 3 (mVLaw (subLaw D 0 (n + 1)) + 1) (zVLaw (subLaw D 0 (n + 1)) :: ZVLaw (subLaw D 0 (n + 1))) [], mVLaw (subLaw D 0 (n + 1)), true, 23⟩, some ⟨AVal.fam (zVLaw (subLaw D 0 (n + 1)) :: ZVLaw (subLaw D 0 (n + 1))), mVLaw (subLaw D 0 (n +
 1)) + 1, true, 5⟩, some ⟨.ints .u8 (jnLaw (zVLaw (subLaw D 0 (n + 1)) :: ZVLaw (subLaw D 0 (n + 1)))), jnGLaw (zVLaw (subLaw D 0 (n + 1)) :: ZVLaw (subLaw D 0 (n + 1))), true, 5⟩] := by kernel_rfl
end Go.Abs

set_option linter.unusedVariables false
set_option linter.unusedSimpArgs false
set_option maxRecDepth 100000
set_option maxHeartbeats 4000000
namespace Go.Abs
open Go.Proofs Go.Proofs.Try
/-! ### CodecBack: vectors are read as they were written -/
theorem AWp.cutGG {E : Env} (hE : EnvOk E) (hm : E.P.follows .mixedOrders = true) {n k : Nat} {f : Nat} {post : AExit → Fm → Tab → Prop} {c : Code} (j : Nat) {fm : Fm} {T : Tab} {ds : List (Option Bool)} {keep slots : List Nat} {o : Out} (ho : Abs.trimG k keep slots (runs E n ⟨k, []⟩ f (frontC j c) fm T ds) = o) (hc : Ok o) (hx : o.ex = .normal) (h : AWp E n k (backC j c) o.fm o.tab post) : AWp E n k c fm T post := by
  generalize hr : runs E n ⟨k, []⟩ f (frontC j c) fm T ds = r at ho
  obtain ⟨cs, ex, fm1, T1, ds1⟩ := r
  unfold Abs.trimG at ho
  simp only at ho
  split at ho
  · rename_i g hp hb
    subst ho
    exact AWp.cut hE hm j hr ⟨hc.h⟩ hx (AWp.enterG hp hb h)
  · subst ho
    exact absurd hc.h failO_no
theorem lenLaw_pos {n : Int} (h0 : 0 ≤ n) (h1 : n < 1073741824) : 1 ≤ (lenLaw n).length := by
  by_cases h2 : n < 64
  · rw [(len_a h0 h2).1]; exact Nat.le_refl 1
  by_cases h3 : n < 16384
  · rw [(len_b (by omega) h3).1]; exact Nat.le_of_ble_eq_true rfl
  · rw [(len_c (by omega) h1).1]; exact Nat.le_of_ble_eq_true rfl
theorem vec1_pos {r : List Int} (h : r.length ≤ 65536) : 1 ≤ (vec1Law r).length := by
  have := lenLaw_pos (n := r.length) (by omega) (by omega)
  unfold vec1Law; rw [List.length_append]; omega
theorem jn_split {Y : List (List Int)} {k : Nat} (h : k < Y.length) : jnVLaw Y = jnVLaw (Y.take k) ++ (vec1Law (Y.getD k []) ++ jnVLaw (Y.drop (k + 1))) := by
  have e : Y = Y.take k ++ (Y.getD k [] :: Y.drop (k + 1)) := by
    conv => lhs; rw [← List.take_append_drop k Y, List.drop_eq_getElem_cons h]
    rw [List.getD_eq_getElem?_getD, List.getElem?_eq_getElem h]; rfl
  conv => lhs; rw [e]
  rw [jnVLaw_app]; rfl
theorem vst_jn {Y : List (List Int)} (hf : FitZLaw Y) : ∀ k, k ≤ Y.length → vstV (jnVLaw Y) k = ((jnVLaw (Y.take k)).length, 0) ∧ (k < Y.length → vrowLaw (jnVLaw Y) k = Y.getD k [])
  | 0, _ => by
    have h0 : vstV (jnVLaw Y) 0 = ((jnVLaw (Y.take 0)).length, 0) := by simp [vstV, jnVLaw]
    refine ⟨h0, fun h => ?_⟩
    have h1 := rv_at (P := jnVLaw (Y.take 0)) (S := jnVLaw (Y.drop (0 + 1))) (fit_get hf 0)
    rw [← jn_split h] at h1
    unfold vrowLaw rvVLaw
    rw [h0]; simp only; rw [h1]
  | k + 1, hk => by
    have ih := (vst_jn hf k (by omega)).1
    have h1 := rv_at (P := jnVLaw (Y.take k)) (S := jnVLaw (Y.drop (k + 1))) (fit_get hf k)
    rw [← jn_split (by omega)] at h1
    have h0 : vstV (jnVLaw Y) (k + 1) = ((jnVLaw (Y.take (k + 1))).length, 0) := by
      show (rvOLaw (jnVLaw Y) (vstV (jnVLaw Y) k).1 (vstV (jnVLaw Y) k).2, rvELaw (jnVLaw Y) (vstV (jnVLaw Y) k).1 (vstV (jnVLaw Y) k).2) = _
      rw [ih]
      simp only
      unfold rvOLaw rvELaw
      rw [h1]
      simp only
      rw [jnVLaw_step (by omega), List.length_append]
      rfl
    refine ⟨h0, fun h => ?_⟩
    have h2 := rv_at (P := jnVLaw (Y.take (k + 1))) (S := jnVLaw (Y.drop (k + 1 + 1))) (fit_get hf (k + 1))
    rw [← jn_split h] at h2
    unfold vrowLaw rvVLaw
    rw [h0]; simp only; rw [h2]
theorem go_jn {Y : List (List Int)} (hf : FitZLaw Y) {k : Nat} (h : k < Y.length) : goV (jnVLaw Y) k := by
  have h0 := (vst_jn hf k (by omega)).1
  refine ⟨?_, by rw [h0]⟩
  rw [h0]
  have hs := congrArg List.length (jn_split h)
  have hp := vec1_pos (fit_get hf k)
  simp only [List.length_append] at hs
  simp only
  omega
theorem NV_jn {Y : List (List Int)} (hf : FitZLaw Y) (hb : ByLaw (jnVLaw Y)) : NVLaw (jnVLaw Y) = Y.length := by
  have h1 := NV_ok hb
  rcases Nat.lt_trichotomy (NVLaw (jnVLaw Y)) Y.length with h | h | h
  · exact absurd (go_jn hf h) h1.1
  · exact h
  · have h2 := (h1.2 _ h).1
    rw [(vst_jn hf Y.length (Nat.le_refl _)).1, List.take_length] at h2
    simp only at h2; omega
theorem ok_jn {Y : List (List Int)} (hf : FitZLaw Y) (hb : ByLaw (jnVLaw Y)) : okVLaw (jnVLaw Y) = true := by
  unfold okVLaw
  rw [NV_jn hf hb, (vst_jn hf Y.length (Nat.le_refl _)).1, List.take_length]
  unfold reLaw
  simp
theorem rows_jn {z : List Int} {Z : List (List Int)} (hf : FitZLaw (z :: Z)) (hb : ByLaw (jnVLaw (z :: Z))) : mVLaw (jnVLaw (z :: Z)) = Z.length ∧ zVLaw (jnVLaw (z :: Z)) = z ∧ ZVLaw (jnVLaw (z :: Z)) = Z := by
  have hm : mVLaw (jnVLaw (z :: Z)) = Z.length := by unfold mVLaw; rw [NV_jn hf hb]; rfl
  refine ⟨hm, ?_, ?_⟩
  · exact (vst_jn hf 0 (Nat.zero_le _)).2 (by simp)
  · unfold ZVLaw
    rw [hm]
    apply List.ext_getElem
    · rw [ZVl_len]
    · intro i h1 h2
      rw [ZVl_len] at h1
      have := (vst_jn hf (i + 1) (by simp; omega)).2 (by simp; omega)
      simp only [ZVl, List.getElem_map, List.getElem_range]
      rw [this]
      simp [List.getD, List.getElem?_eq_getElem h2]
theorem lenLaw_by (n : Int) : ∀ c ∈ lenLaw n, 0 ≤ c ∧ c < 256 := by
  intro c hc
  unfold lenLaw at hc
  split at hc
  · cases hc
  split at hc
  · simp at hc; omega
  split at hc
  · simp at hc; omega
  · simp at hc; omega
theorem jn_by : ∀ {Y : List (List Int)}, (∀ r ∈ Y, ∀ c ∈ r, 0 ≤ c ∧ c < 256) → ∀ c ∈ jnVLaw Y, 0 ≤ c ∧ c < 256
  | [], _, c, hc => by simp [jnVLaw] at hc
  | r :: Y, h, c, hc => by
    simp only [jnVLaw, vec1Law, List.mem_append] at hc
    rcases hc with (hc | hc) | hc
    · exact lenLaw_by _ c hc
    · exact h r (.head _) c hc
    · exact jn_by (fun r' hr' => h r' (.tail _ hr')) c hc
theorem by_mem {C : List Int} (h : ∀ c ∈ C, 0 ≤ c ∧ c < 256) : ByLaw C := fun i => by
  rw [List.getD_eq_getElem?_getD]
  rcases Nat.lt_or_ge i C.length with hi | hi
  · rw [List.getElem?_eq_getElem hi]; exact h _ (List.getElem_mem hi)
  · rw [List.getElem?_eq_none hi]; exact ⟨Int.le_refl 0, by decide⟩
/-- what is read fits -/
theorem fit_rows {C : List Int} (hb : ByLaw C) (h1 : 1 ≤ C.length) (hok : okVLaw C = true) : FitZLaw (zVLaw C :: ZVLaw C) := by
  obtain ⟨e1, e2⟩ := ok_end hok
  have key : ∀ k, k < NVLaw C → (vrowLaw C k).length ≤ 65536 := by
    intro k hk
    have hg := (NV_ok hb).2 k hk
    have he : rvELaw C (vstV C k).1 (vstV C k).2 = 0 := by
      show (vstV C (k + 1)).2 = 0
      rcases Nat.lt_or_ge (k + 1) (NVLaw C) with h | h
      · exact ((NV_ok hb).2 (k + 1) h).2
      · have : k + 1 = NVLaw C := by omega
        rw [this]; exact e1
    rw [hg.2] at he
    have := (rv_canon hb he).1
    unfold vrowLaw; rw [hg.2]; exact this
  have hp := NV_pos hb h1
  intro r hr
  rcases List.mem_cons.1 hr with rfl | hr
  · exact key 0 (by omega)
  · unfold ZVLaw ZVl at hr
    rw [List.mem_map] at hr
    obtain ⟨j, hj, rfl⟩ := hr
    have hj : j < mVLaw C := by simpa using hj
    exact key (j + 1) (by unfold mVLaw at hj; omega)
end Go.Abs

set_option linter.unusedVariables false
set_option linter.unusedSimpArgs false
set_option maxRecDepth 100000
set_option maxHeartbeats 4000000
namespace Go.Abs
open Go.Proofs Go.Proofs.Try
/-! ### CodecBack: the law -/
theorem tailB {D : List Int} {n : Nat} (hD : n + 1 ≤ D.length) (bD : ByLaw (subLaw D 0 (n + 1))) (ok : okVLaw (subLaw D 0 (n + 1)) = true) :
    (ZVLaw (subLaw D 0 (n + 1))).length = mVLaw (subLaw D 0 (n + 1)) ∧ jnVLaw (zVLaw (subLaw D 0 (n + 1)) :: ZVLaw (subLaw D 0 (n + 1))) = List.take (n + 1) D ∧ jnErrLaw (zVLaw (subLaw D 0 (n + 1)) :: ZVLaw (subLaw D 0 (n + 1))) = 0 ∧ jnLaw (zVLaw (subLaw D 0 (n + 1)) :: ZVLaw (subLaw D 0 (n + 1))) = List.take (n + 1) D ∧ mVLaw (subLaw D 0 (n + 1)) + 1 ≤ n + 1 := by
  have hl : ((subLaw D 0 (n + 1))).length = n + 1 := by unfold subLaw; simp; omega
  have e1 : List.take (n + 1) D = (subLaw D 0 (n + 1)) := by unfold subLaw; rw [List.drop_zero]
  have hj := okV_jn bD (by omega) ok
  have hf := fit_rows bD (by omega) ok
  have h1 := NV_le bD
  refine ⟨by unfold ZVLaw; rw [ZVl_len], by rw [e1]; exact hj.symm, by unfold jnErrLaw; rw [if_pos hf], by unfold jnLaw; rw [if_pos hf, e1]; exact hj.symm, by unfold mVLaw; omega⟩
theorem tail4 {z : List Int} {Z : List (List Int)} {D : List Int} {n : Nat} {c1 c2 : Option Nat} (hD : n ≤ D.length) (lD : n ≤ 140737488355) (bD : ByLaw (subLaw D 0 n)) :
    To eB4 84 3 c4r [(0, .slice 1 0 0 0 (Z.length + 1) c1), (1, .slice 1 2 0 0 n c2)] [some ⟨.frows 1 0 (z :: Z) [], 0, false, 23⟩, some ⟨.fam (z :: Z), 0, false, 5⟩, some ⟨.ints .u8 D, 0, false, 5⟩] .ret [(4, .bool true)] [some ⟨.frows 1 0 (z :: Z) [], 0, false, 23⟩, some ⟨.fam (z :: Z), 0, false, 5⟩, some ⟨.ints .u8 D, 0, false, 5⟩] := by
  rcases n with _ | n
  · exact To.of (o := Z40 z Z D 0 c1 c2) eB4_ok hmC (Nat.le_refl 3) OrcOk.nil rfl (Z40_ok (by simp [allP, Con.h])) Z40_ex Z40_fm Z40_tab
  · by_cases ok : okVLaw (subLaw D 0 (n + 1)) = true
    · obtain ⟨t1, t2, t3, t4, t5⟩ := tailB hD bD ok
      have h6 : (List.take (n + 1) D).length = n + 1 := by rw [List.length_take]; omega
      refine To.of (o := Z4t z Z D n c1 c2) eB4_ok hmC (Nat.le_refl 3) OrcOk.nil rfl (Z4t_ok ?_) Z4t_ex Z4t_fm Z4t_tab
      rw [t2, t3, t4, h6]
      simp only [allP, Con.h, t1, ok, h6, Nat.zero_add, Nat.le_refl, List.take_take, Nat.min_self, beq_self_eq_true, eq_self, true_and, and_true]
      exact ⟨hD, lD, bD, by omega, by omega, hD⟩
    · refine To.of (o := Z4f z Z D n c1 c2) eB4_ok hmC (Nat.le_refl 3) OrcOk.nil rfl (Z4f_ok ⟨hD, lD, bD, by simpa [Con.h] using ok, trivial⟩) Z4f_ex Z4f_fm Z4f_tab
theorem law4 {z : List Int} {Z : List (List Int)} {D : List Int} {n : Nat} {c1 c2 : Option Nat} (hz : ∀ r ∈ z :: Z, ∀ c ∈ r, 0 ≤ c ∧ c < 256) (hJ : (jnVLaw (z :: Z)).length ≤ 140737488355) (hL : Z.length + 1 ≤ 140737488355) (hD : n ≤ D.length) (lD : n ≤ 140737488355) (bD : ByLaw (subLaw D 0 n)) :
    Small prog (fun _ => none) 4 [.slice 1 0 0 0 (Z.length + 1) c1, .slice 1 2 0 0 n c2] [some ⟨.frows 1 0 (z :: Z) [], 0, false, 23⟩, some ⟨.fam (z :: Z), 0, false, 5⟩, some ⟨.ints .u8 D, 0, false, 5⟩] (.bool true) [some ⟨.frows 1 0 (z :: Z) [], 0, false, 23⟩, some ⟨.fam (z :: Z), 0, false, 5⟩, some ⟨.ints .u8 D, 0, false, 5⟩] := by
  refine small_of_awp eB4_ok (f := 4) (fn := f4) (c := bodyOf f4) (by kernel_rfl) (by kernel_rfl) (by kernel_rfl) ?_
  show AWp eB4 84 3 (bodyOf f4) [(0, .slice 1 0 0 0 (Z.length + 1) c1), (1, .slice 1 2 0 0 n c2)] [some ⟨.frows 1 0 (z :: Z) [], 0, false, 23⟩, some ⟨.fam (z :: Z), 0, false, 5⟩, some ⟨.ints .u8 D, 0, false, 5⟩] _
  by_cases hf : FitZLaw (z :: Z)
  rotate_left
  · have e1 : jnErrLaw (z :: Z) = 6 := by unfold jnErrLaw; rw [if_neg hf]
    have e2 : jnLaw (z :: Z) = [] := by unfold jnLaw; rw [if_neg hf]
    refine AWp.mono (To.of (o := P41 z Z D n c1 c2) eB4_ok hmC (Nat.le_refl 3) OrcOk.nil rfl (P41_ok (by rw [e1, e2]; simp only [allP, Con.h, eq_self, true_and, and_true]; exact ⟨by omega, by omega, by decide, by decide⟩)) P41_ex P41_fm P41_tab) fun ex fm T hP => ?_
    obtain ⟨rfl, rfl, rfl⟩ := hP
    exact ⟨.inr rfl, rfl, [], [.bool true], rfl, trivial, rfl⟩
  have e1 : jnErrLaw (z :: Z) = 0 := by unfold jnErrLaw; rw [if_pos hf]
  have e2 : jnLaw (z :: Z) = jnVLaw (z :: Z) := by unfold jnLaw; rw [if_pos hf]
  refine AWp.cutTG eB4_ok hmC (m := 4) 3 (o := F41 z Z D n c1 c2) rfl (F41_ok (by rw [e1]; simp only [allP, Con.h, eq_self, true_and, and_true]; exact ⟨by omega, by omega, by decide⟩)) F41_ex ?_
  rw [F41_fm, F41_tab, e2]
  show AWp eB4 84 3 c4m _ _ _
  have hb : ByLaw (jnVLaw (z :: Z)) := by_mem (jn_by hz)
  have hpos : 1 ≤ (jnVLaw (z :: Z)).length := by
    have := vec1_pos (hf z (.head _))
    simp only [jnVLaw, List.length_append]; omega
  obtain ⟨r1, r2, r3⟩ := rows_jn hf hb
  have hok := ok_jn hf hb
  obtain ⟨L, hLL⟩ : ∃ L, (jnVLaw (z :: Z)).length = L + 1 := ⟨_, (Nat.sub_add_cancel hpos).symm⟩
  have hsub : subLaw (jnVLaw (z :: Z)) 0 (L + 1) = jnVLaw (z :: Z) := by unfold subLaw; rw [List.drop_zero, ← hLL, List.take_length]
  rw [hLL]
  refine AWp.cutGG eB4_ok hmC 2 (o := G4 z Z D (jnVLaw (z :: Z)) n (jnGLaw (z :: Z)) L c1 c2) rfl (G4_ok (by
    rw [hsub, r1]; simp only [allP, Con.h, eq_self, true_and, and_true]
    exact ⟨by omega, by omega, hb, hok, bne_self_eq_false _⟩)) G4_ex ?_
  rw [split4, G4_fm, G4_tab, hsub, r1, r2, r3]
  refine AWp.seq (AWp.seq (AWp.mono (To.of (o := I4 z z Z Z D n Z.length Z.length (Z.length + 1) 0 c1 c2) eB4_ok hmC (Nat.le_refl 3) OrcOk.nil rfl (I4_ok trivial) I4_ex I4_fm I4_tab) fun ex fm T hP => ?_))
  obtain ⟨rfl, rfl, rfl⟩ := hP
  have hlen : (z :: Z).length = Z.length + 1 := rfl
  refine AWp.mono (To.rounds (E := eB4) (n := 84) (k := 3) (id := 0) (c := roundOf 0 f4) (fun i : Nat => [(0, .slice 1 0 0 0 (Z.length + 1) c1), (1, .slice 1 2 0 0 n c2), (7, .slice 1 3 Z.length 0 (Z.length + 1) none), (9, .int .i64 (i : Nat))]) (fun _ => [some ⟨.frows 1 0 (z :: Z) [], 0, false, 23⟩, some ⟨.fam (z :: Z), 0, false, 5⟩, some ⟨.ints .u8 D, 0, false, 5⟩, some ⟨.frows 4 (Z.length + 1) (z :: Z) [], Z.length, true, 23⟩, some ⟨.fam (z :: Z), Z.length + 1, true, 5⟩]) (Z.length + 1) (fun i hi => To.of (o := R4 z z Z Z D n Z.length Z.length (Z.length + 1) i c1 c2) eB4_ok hmC (Nat.le_refl 3) OrcOk.nil rfl (R4_ok (by
      simp only [allP, Con.h, hlen, beq_self_eq_true, Bool.not_true, decide_eq_true_eq, eq_self, true_and, and_true]; omega)) R4_ex R4_fm R4_tab)
      (To.of (o := D4 z z Z Z D n Z.length Z.length (Z.length + 1) (Z.length + 1) c1 c2) eB4_ok hmC (Nat.le_refl 3) OrcOk.nil rfl (D4_ok (by simp [allP, Con.h])) D4_ex D4_fm D4_tab)) fun ex fm T hP => ?_
  obtain ⟨rfl, rfl, rfl⟩ := hP
  refine AWp.mono (tail4 (z := z) (Z := Z) (c1 := c1) (c2 := c2) hD lD bD) fun ex fm T hP => ?_
  obtain ⟨rfl, rfl, rfl⟩ := hP
  exact ⟨.inr rfl, rfl, [], [.bool true], rfl, trivial, rfl⟩
theorem law4e {D : List Int} {n : Nat} {c1 c2 : Option Nat} (hD : n ≤ D.length) (lD : n ≤ 140737488355) (bD : ByLaw (subLaw D 0 n)) :
    Small prog (fun _ => none) 4 [.slice 1 0 0 0 0 c1, .slice 1 1 0 0 n c2] [some ⟨.agg [], 0, false, 23⟩, some ⟨.ints .u8 D, 0, false, 5⟩] (.bool true) [some ⟨.agg [], 0, false, 23⟩, some ⟨.ints .u8 D, 0, false, 5⟩] := by
  rcases n with _ | n
  · exact small_of (R := R40 D 0 c1 c2) eB4_ok hmC (f := 4) (fn := f4) (by kernel_rfl) (by kernel_rfl) FnOrc.nil rfl (R40_ok (by simp [allP, Con.h])) R40_val R40_tab
  · by_cases ok : okVLaw (subLaw D 0 (n + 1)) = true
    · obtain ⟨t1, t2, t3, t4, t5⟩ := tailB hD bD ok
      have h6 : (List.take (n + 1) D).length = n + 1 := by rw [List.length_take]; omega
      refine small_drop (small_of (R := R4t D n c1 c2) eB4_ok hmC (f := 4) (fn := f4) (by kernel_rfl) (by kernel_rfl) FnOrc.nil rfl (R4t_ok ?_) R4t_val R4t_tab)
      rw [t2, t3, t4, h6]
      simp only [allP, Con.h, t1, ok, h6, Nat.zero_add, Nat.le_refl, List.take_take, Nat.min_self, beq_self_eq_true, eq_self, true_and, and_true]
      exact ⟨hD, lD, bD, by omega, by omega, hD⟩
    · exact small_drop (small_of (R := R4f D n c1 c2) eB4_ok hmC (f := 4) (fn := f4) (by kernel_rfl) (by kernel_rfl) FnOrc.nil rfl (R4f_ok (by simp only [allP, Con.h, eq_self, true_and, and_true]; exact ⟨hD, lD, bD, by simpa using ok⟩)) R4f_val R4f_tab)
end Go.Abs
