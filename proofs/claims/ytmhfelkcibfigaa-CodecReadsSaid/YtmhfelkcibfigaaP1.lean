/- What functions of the given program come to, by the abstract machine: texts of a proof. -/
import Derived.Test.YtmhfelkcibfigaaP0
import Derived.Test.YtmhfelkcibfigaaAbs2
set_option linter.unusedVariables false
set_option linter.unusedSimpArgs false
set_option maxRecDepth 100000
set_option maxHeartbeats 4000000
namespace Go.Abs
open Go.Proofs Go.Proofs.Try
/-! ### the document: the reader: what it answers -/
noncomputable def sm26c (args : List AVal) (T : Tab) (B : List Int) (g : Nat) (gR : Nat) (off : Nat) (nB : Nat) (e : Int) (size : Int) : Res := ⟨[.tab T [some ⟨.agg [.slice 1 1 g 0 nB none, .int .i64 (off : Nat), .int .i64 e], gR, true, 57⟩, some ⟨.ints .u8 B, g, false, 5⟩], .val (.tuple args) (.tuple [.var 0 gR, .int .i64 size]), .eqN nB B.length, .leN off B.length, .p (ByLaw B), .leN B.length 140737488355000], .int .i64 (rnVLaw B off e size), [some ⟨.agg [.slice 1 1 g 0 nB none, .int .i64 (rnOLaw B off e size : Nat), .int .i64 (rnELaw B off e size)], gR, true, 57⟩, some ⟨.ints .u8 B, g, false, 5⟩]⟩
theorem sm26c_ok {args : List AVal} {T : Tab} {B : List Int} {g : Nat} {gR : Nat} {off : Nat} {nB : Nat} {e : Int} {size : Int} (h : allP (sm26c args T B g gR off nB e size).cs) : Small prog (fun _ => none) 26 args T (sm26c args T B g gR off nB e size).val (sm26c args T B g gR off nB e size).tab := by
  obtain ⟨hT, hv, h1, h2, h3, h4, _⟩ := h
  simp only [Con.h] at hT hv h1 h2 h3 h4
  injection hv with hv
  subst hT hv
  show Small prog (fun _ => none) 26 [.var 0 gR, .int .i64 size] [some ⟨.agg [.slice 1 1 g 0 nB none, .int .i64 (off : Nat), .int .i64 e], gR, true, 57⟩, some ⟨.ints .u8 B, g, false, 5⟩] (.int .i64 (rnVLaw B off e size)) [some ⟨.agg [.slice 1 1 g 0 nB none, .int .i64 (rnOLaw B off e size : Nat), .int .i64 (rnELaw B off e size)], gR, true, 57⟩, some ⟨.ints .u8 B, g, false, 5⟩]
  have hb : ByLaw B := h3
  subst h1
  by_cases he : e = 0
  rotate_left
  · have hr := rn_e (B := B) (off := off) size he
    have hne : (e != 0) = true := bne_iff_ne.2 he
    simp only [rnVLaw, rnOLaw, rnELaw, hr]
    refine small_of (R := R26e B g gR off B.length e size) eQ1_ok hmC (f := 26) (fn := f26) (by kernel_rfl) (by kernel_rfl) FnOrc.nil rfl (R26e_ok ?_) R26e_val R26e_tab
    simp only [allP, Con.h, hne, not_false_eq_true, eq_self, true_and, and_true]
  subst he
  by_cases hs : sizedLaw size
  rotate_left
  · have hr := rn_x (B := B) (off := off) hs
    obtain ⟨u1, u2, u3, u4⟩ := unsz hs
    simp only [rnVLaw, rnOLaw, rnELaw, hr]
    refine small_of (R := R26x B g gR off B.length size) eQ1x_ok hmC (f := 26) (fn := f26) (by kernel_rfl) (by kernel_rfl) FnOrc.nil rfl (R26x_ok ?_) R26x_val R26x_tab
    simp only [allP, Con.h, u1, u2, u3, u4, not_false_eq_true, eq_self, true_and, and_true]
  by_cases hl : ((B.length - off : Nat) : Int) < size
  · have hr := rn_s hs hl
    simp only [rnVLaw, rnOLaw, rnELaw, hr]
    rcases hs with rfl | rfl | rfl | rfl
    · refine small_of (R := R26s1 B g gR off B.length) eQ1_ok hmC (f := 26) (fn := f26) (by kernel_rfl) (by kernel_rfl) FnOrc.nil rfl (R26s1_ok ?_) R26s1_val R26s1_tab
      simp only [allP, Con.h, decide_eq_true_eq, decide_eq_false_iff_not, not_false_eq_true, eq_self, true_and, and_true]
      omega
    · refine small_of (R := R26s2 B g gR off B.length) eQ1_ok hmC (f := 26) (fn := f26) (by kernel_rfl) (by kernel_rfl) FnOrc.nil rfl (R26s2_ok ?_) R26s2_val R26s2_tab
      simp only [allP, Con.h, decide_eq_true_eq, decide_eq_false_iff_not, not_false_eq_true, eq_self, true_and, and_true]
      omega
    · refine small_of (R := R26s4 B g gR off B.length) eQ1_ok hmC (f := 26) (fn := f26) (by kernel_rfl) (by kernel_rfl) FnOrc.nil rfl (R26s4_ok ?_) R26s4_val R26s4_tab
      simp only [allP, Con.h, decide_eq_true_eq, decide_eq_false_iff_not, not_false_eq_true, eq_self, true_and, and_true]
      omega
    · refine small_of (R := R26s8 B g gR off B.length) eQ1_ok hmC (f := 26) (fn := f26) (by kernel_rfl) (by kernel_rfl) FnOrc.nil rfl (R26s8_ok ?_) R26s8_val R26s8_tab
      simp only [allP, Con.h, decide_eq_true_eq, decide_eq_false_iff_not, not_false_eq_true, eq_self, true_and, and_true]
      omega
  by_cases hr8 : size = 8 ∧ 64 ≤ B.getD off 0
  · obtain ⟨rfl, h8⟩ := hr8
    have hr := rn_r hl h8
    simp only [rnVLaw, rnOLaw, rnELaw, hr]
    refine small_of (R := R26r B g gR off B.length) eQ1_ok hmC (f := 26) (fn := f26) (by kernel_rfl) (by kernel_rfl) FnOrc.nil rfl (R26r_ok ?_) R26r_val R26r_tab
    simp only [allP, Con.h, h8, decide_eq_true_eq, decide_eq_false_iff_not, not_false_eq_true, eq_self, true_and, and_true]
    omega
  have hlow : LowLaw B off size := fun h => by omega
  have hr := rn_g hs hl hlow
  simp only [rnVLaw, rnOLaw, rnELaw, hr]
  rcases hs with rfl | rfl | rfl | rfl
  · have hz : sizedLaw (OfNat.ofNat 1) := by unfold sizedLaw; decide
    have hlow' : LowLaw B off (OfNat.ofNat 1) := hlow
    refine small_of (R := R26g1 B g gR off B.length) eQ1_ok hmC (f := 26) (fn := f26) (by kernel_rfl) (by kernel_rfl) FnOrc.nil rfl (R26g1_ok ?_) R26g1_val R26g1_tab
    simp only [allP, Con.h, hb, hz, hlow', decide_eq_true_eq, decide_eq_false_iff_not, not_false_eq_true, eq_self, true_and, and_true]
    omega
  · have hz : sizedLaw (OfNat.ofNat 2) := by unfold sizedLaw; decide
    have hlow' : LowLaw B off (OfNat.ofNat 2) := hlow
    refine small_of (R := R26g2 B g gR off B.length) eQ1_ok hmC (f := 26) (fn := f26) (by kernel_rfl) (by kernel_rfl) FnOrc.nil rfl (R26g2_ok ?_) R26g2_val R26g2_tab
    simp only [allP, Con.h, hb, hz, hlow', decide_eq_true_eq, decide_eq_false_iff_not, not_false_eq_true, eq_self, true_and, and_true]
    omega
  · have hz : sizedLaw (OfNat.ofNat 4) := by unfold sizedLaw; decide
    have hlow' : LowLaw B off (OfNat.ofNat 4) := hlow
    refine small_of (R := R26g4 B g gR off B.length) eQ1_ok hmC (f := 26) (fn := f26) (by kernel_rfl) (by kernel_rfl) FnOrc.nil rfl (R26g4_ok ?_) R26g4_val R26g4_tab
    simp only [allP, Con.h, hb, hz, hlow', decide_eq_true_eq, decide_eq_false_iff_not, not_false_eq_true, eq_self, true_and, and_true]
    omega
  · have hz : sizedLaw (OfNat.ofNat 8) := by unfold sizedLaw; decide
    have hlow' : LowLaw B off (OfNat.ofNat 8) := hlow
    have h8 : ¬ 64 ≤ B.getD off 0 := by have := hlow rfl; omega
    refine small_of (R := R26g8 B g gR off B.length) eQ1_ok hmC (f := 26) (fn := f26) (by kernel_rfl) (by kernel_rfl) FnOrc.nil rfl (R26g8_ok ?_) R26g8_val R26g8_tab
    simp only [allP, Con.h, hb, hz, hlow', h8, decide_eq_true_eq, decide_eq_false_iff_not, not_false_eq_true, eq_self, true_and, and_true]
    omega
noncomputable def sm26 : Summary := fun args T => sm26c args T (xsAt T 1) (gAt T 1) (gAt T 0) ((iOf (cAt T 0 1)).toNat) (lenOf (cAt T 0 0)) (iOf (cAt T 0 2)) (iOf (vAt args 1))
theorem sm26_ok : SmOk prog (fun _ => none) 26 sm26 := fun args T h => sm26c_ok h
noncomputable def S26r : Summary := callR sm26 [true]
theorem S26r_ok : SumOk prog (fun _ => none) 26 S26r := callR_ok sm26_ok [true]
noncomputable def sm28c (args : List AVal) (T : Tab) (B : List Int) (g : Nat) (gR : Nat) (off : Nat) (nB : Nat) (e : Int) : Res := ⟨[.tab T [some ⟨.agg [.slice 1 1 g 0 nB none, .int .i64 (off : Nat), .int .i64 e], gR, true, 57⟩, some ⟨.ints .u8 B, g, false, 5⟩], .val (.tuple args) (.tuple [.var 0 gR]), .eqN nB B.length, .leN off B.length, .p (ByLaw B), .leN B.length 140737488355000], .int .i64 (rlVLaw B off e), [some ⟨.agg [.slice 1 1 g 0 nB none, .int .i64 (rlOLaw B off e : Nat), .int .i64 (rlELaw B off e)], gR, true, 57⟩, some ⟨.ints .u8 B, g, false, 5⟩]⟩
theorem sm28c_ok {args : List AVal} {T : Tab} {B : List Int} {g : Nat} {gR : Nat} {off : Nat} {nB : Nat} {e : Int} (h : allP (sm28c args T B g gR off nB e).cs) : Small prog (fun _ => none) 28 args T (sm28c args T B g gR off nB e).val (sm28c args T B g gR off nB e).tab := by
  obtain ⟨hT, hv, h1, h2, h3, h4, _⟩ := h
  simp only [Con.h] at hT hv h1 h2 h3 h4
  injection hv with hv
  subst hT hv
  show Small prog (fun _ => none) 28 [.var 0 gR] [some ⟨.agg [.slice 1 1 g 0 nB none, .int .i64 (off : Nat), .int .i64 e], gR, true, 57⟩, some ⟨.ints .u8 B, g, false, 5⟩] (.int .i64 (rlVLaw B off e)) [some ⟨.agg [.slice 1 1 g 0 nB none, .int .i64 (rlOLaw B off e : Nat), .int .i64 (rlELaw B off e)], gR, true, 57⟩, some ⟨.ints .u8 B, g, false, 5⟩]
  have hb : ByLaw B := h3
  subst h1
  by_cases he : e = 0
  rotate_left
  · have hr := rl_e (B := B) (off := off) he
    have hne : (e != 0) = true := bne_iff_ne.2 he
    simp only [rlVLaw, rlOLaw, rlELaw, hr]
    refine small_of (R := R28e B g gR off B.length e) eQ1_ok hmC (f := 28) (fn := f28) (by kernel_rfl) (by kernel_rfl) FnOrc.nil rfl (R28e_ok ?_) R28e_val R28e_tab
    simp only [allP, Con.h, hne, not_false_eq_true, eq_self, true_and, and_true]
  subst he
  have hB := hb off
  by_cases hn : B.length - off = 0
  · have hr := rl_z hn
    have hq : (((B.length - off : Nat) : Int) == 0) = true := by rw [beq_iff_eq]; omega
    simp only [rlVLaw, rlOLaw, rlELaw, hr]
    refine small_of (R := R28z B g gR off B.length) eQ1_ok hmC (f := 28) (fn := f28) (by kernel_rfl) (by kernel_rfl) FnOrc.nil rfl (R28z_ok ?_) R28z_val R28z_tab
    simp only [allP, Con.h, hq, h2, h4, Nat.le_refl, not_false_eq_true, eq_self, true_and, and_true]
  have hq : (((B.length - off : Nat) : Int) == 0) = false := by rw [beq_eq_false_iff_ne]; omega
  by_cases ht : B.getD off 0 / 64 = 3
  · have hr := rl_f hn ht
    simp only [rlVLaw, rlOLaw, rlELaw, hr]
    refine small_of (R := R28f B g gR off B.length) eQ1_ok hmC (f := 28) (fn := f28) (by kernel_rfl) (by kernel_rfl) FnOrc.nil rfl (R28f_ok ?_) R28f_val R28f_tab
    simp only [allP, Con.h, ht, nonneg, hq, Int.reduceMul, Int.reducePow, Int.reduceSub, Int.reduceAdd, Int.reduceToNat, Nat.reducePow, Nat.reduceMul, Nat.reduceSub, Int.reduceLT, Int.reduceLE, Nat.reduceLT, Nat.reduceLeDiff, Int.one_mul, Nat.one_mul, decide_true, decide_false, decide_eq_true_eq, decide_eq_false_iff_not, beq_iff_eq, beq_eq_false_iff_ne, ne_eq, not_false_eq_true, eq_self, true_and, and_true]
    omega
  have htt : B.getD off 0 / 64 = 0 ∨ B.getD off 0 / 64 = 1 ∨ B.getD off 0 / 64 = 2 := by omega
  clear ht
  rcases htt with ht | ht | ht
  · have hz : sizedLaw 1 := by unfold sizedLaw; decide
    have hlow : LowLaw B off 1 := fun h => absurd h (by decide)
    have hrg := beN_rng hb off 1
    have hrg1 : 0 ≤ numAtLaw 1 B off := hrg.1
    have hrg2 : numAtLaw 1 B off < 256 := hrg.2
    have hip := iand_pos (numAtLaw 1 B off) 63
    by_cases hl : B.length - off < 1
    · have hr := (rl_0 hn ht).trans (rlT_s hl)
      simp only [rlVLaw, rlOLaw, rlELaw, hr]
      refine small_of (R := R28s B g gR off B.length) eQ1_ok hmC (f := 28) (fn := f28) (by kernel_rfl) (by kernel_rfl) FnOrc.nil rfl (R28s_ok ?_) R28s_val R28s_tab
      simp only [allP, Con.h, ht, nonneg, hq, Int.reduceMul, Int.reducePow, Int.reduceSub, Int.reduceAdd, Int.reduceToNat, Nat.reducePow, Nat.reduceMul, Nat.reduceSub, Int.reduceLT, Int.reduceLE, Nat.reduceLT, Nat.reduceLeDiff, Int.one_mul, Nat.one_mul, decide_true, decide_false, decide_eq_true_eq, decide_eq_false_iff_not, beq_iff_eq, beq_eq_false_iff_ne, ne_eq, not_false_eq_true, eq_self, true_and, and_true]
      omega
    have hv : ¬ iand (numAtLaw 1 B off) 63 < 0 := by omega
    have hr := (rl_0 hn ht).trans (rlT_g hl hv)
    simp only [rlVLaw, rlOLaw, rlELaw, hr]
    refine small_of (R := R28g B g gR off B.length) eQ1_ok hmC (f := 28) (fn := f28) (by kernel_rfl) (by kernel_rfl) FnOrc.nil rfl (R28g_ok ?_) (by rw [R28g_val]; simp only [ht]; rfl) (by rw [R28g_tab]; simp only [ht]; rfl)
    simp only [allP, Con.h, ht, nonneg, hq, hz, hb, hlow, hv, Int.reduceMul, Int.reducePow, Int.reduceSub, Int.reduceAdd, Int.reduceToNat, Nat.reducePow, Nat.reduceMul, Nat.reduceSub, Int.reduceLT, Int.reduceLE, Nat.reduceLT, Nat.reduceLeDiff, Int.one_mul, Nat.one_mul, decide_true, decide_false, decide_eq_true_eq, decide_eq_false_iff_not, beq_iff_eq, beq_eq_false_iff_ne, ne_eq, not_false_eq_true, eq_self, true_and, and_true]
    omega
  · have hz : sizedLaw 2 := by unfold sizedLaw; decide
    have hlow : LowLaw B off 2 := fun h => absurd h (by decide)
    have hrg := beN_rng hb off 2
    have hrg1 : 0 ≤ numAtLaw 2 B off := hrg.1
    have hrg2 : numAtLaw 2 B off < 65536 := hrg.2
    have hip := iand_pos (numAtLaw 2 B off) 16383
    by_cases hl : B.length - off < 2
    · have hr := (rl_1 hn ht).trans (rlT_s hl)
      simp only [rlVLaw, rlOLaw, rlELaw, hr]
      refine small_of (R := R28s B g gR off B.length) eQ1_ok hmC (f := 28) (fn := f28) (by kernel_rfl) (by kernel_rfl) FnOrc.nil rfl (R28s_ok ?_) R28s_val R28s_tab
      simp only [allP, Con.h, ht, nonneg, hq, Int.reduceMul, Int.reducePow, Int.reduceSub, Int.reduceAdd, Int.reduceToNat, Nat.reducePow, Nat.reduceMul, Nat.reduceSub, Int.reduceLT, Int.reduceLE, Nat.reduceLT, Nat.reduceLeDiff, Int.one_mul, Nat.one_mul, decide_true, decide_false, decide_eq_true_eq, decide_eq_false_iff_not, beq_iff_eq, beq_eq_false_iff_ne, ne_eq, not_false_eq_true, eq_self, true_and, and_true]
      omega
    by_cases hv : iand (numAtLaw 2 B off) 16383 < 64
    · have hr := (rl_1 hn ht).trans (rlT_b hl hv)
      simp only [rlVLaw, rlOLaw, rlELaw, hr]
      refine small_of (R := R28b1 B g gR off B.length) eQ1_ok hmC (f := 28) (fn := f28) (by kernel_rfl) (by kernel_rfl) FnOrc.nil rfl (R28b1_ok ?_) R28b1_val R28b1_tab
      simp only [allP, Con.h, ht, nonneg, hq, hz, hb, hlow, hv, Int.reduceMul, Int.reducePow, Int.reduceSub, Int.reduceAdd, Int.reduceToNat, Nat.reducePow, Nat.reduceMul, Nat.reduceSub, Int.reduceLT, Int.reduceLE, Nat.reduceLT, Nat.reduceLeDiff, Int.one_mul, Nat.one_mul, decide_true, decide_false, decide_eq_true_eq, decide_eq_false_iff_not, beq_iff_eq, beq_eq_false_iff_ne, ne_eq, not_false_eq_true, eq_self, true_and, and_true]
      omega
    have hr := (rl_1 hn ht).trans (rlT_g hl hv)
    simp only [rlVLaw, rlOLaw, rlELaw, hr]
    refine small_of (R := R28g1 B g gR off B.length) eQ1_ok hmC (f := 28) (fn := f28) (by kernel_rfl) (by kernel_rfl) FnOrc.nil rfl (R28g1_ok ?_) (by rw [R28g1_val]; simp only [ht]; rfl) (by rw [R28g1_tab]; simp only [ht]; rfl)
    simp only [allP, Con.h, ht, nonneg, hq, hz, hb, hlow, hv, Int.reduceMul, Int.reducePow, Int.reduceSub, Int.reduceAdd, Int.reduceToNat, Nat.reducePow, Nat.reduceMul, Nat.reduceSub, Int.reduceLT, Int.reduceLE, Nat.reduceLT, Nat.reduceLeDiff, Int.one_mul, Nat.one_mul, decide_true, decide_false, decide_eq_true_eq, decide_eq_false_iff_not, beq_iff_eq, beq_eq_false_iff_ne, ne_eq, not_false_eq_true, eq_self, true_and, and_true]
    omega
  · have hz : sizedLaw 4 := by unfold sizedLaw; decide
    have hlow : LowLaw B off 4 := fun h => absurd h (by decide)
    have hrg := beN_rng hb off 4
    have hrg1 : 0 ≤ numAtLaw 4 B off := hrg.1
    have hrg2 : numAtLaw 4 B off < 4294967296 := hrg.2
    have hip := iand_pos (numAtLaw 4 B off) 1073741823
    by_cases hl : B.length - off < 4
    · have hr := (rl_2 hn ht).trans (rlT_s hl)
      simp only [rlVLaw, rlOLaw, rlELaw, hr]
      refine small_of (R := R28s B g gR off B.length) eQ1_ok hmC (f := 28) (fn := f28) (by kernel_rfl) (by kernel_rfl) FnOrc.nil rfl (R28s_ok ?_) R28s_val R28s_tab
      simp only [allP, Con.h, ht, nonneg, hq, Int.reduceMul, Int.reducePow, Int.reduceSub, Int.reduceAdd, Int.reduceToNat, Nat.reducePow, Nat.reduceMul, Nat.reduceSub, Int.reduceLT, Int.reduceLE, Nat.reduceLT, Nat.reduceLeDiff, Int.one_mul, Nat.one_mul, decide_true, decide_false, decide_eq_true_eq, decide_eq_false_iff_not, beq_iff_eq, beq_eq_false_iff_ne, ne_eq, not_false_eq_true, eq_self, true_and, and_true]
      omega
    by_cases hv : iand (numAtLaw 4 B off) 1073741823 < 16384
    · have hr := (rl_2 hn ht).trans (rlT_b hl hv)
      simp only [rlVLaw, rlOLaw, rlELaw, hr]
      refine small_of (R := R28b2 B g gR off B.length) eQ1_ok hmC (f := 28) (fn := f28) (by kernel_rfl) (by kernel_rfl) FnOrc.nil rfl (R28b2_ok ?_) R28b2_val R28b2_tab
      simp only [allP, Con.h, ht, nonneg, hq, hz, hb, hlow, hv, Int.reduceMul, Int.reducePow, Int.reduceSub, Int.reduceAdd, Int.reduceToNat, Nat.reducePow, Nat.reduceMul, Nat.reduceSub, Int.reduceLT, Int.reduceLE, Nat.reduceLT, Nat.reduceLeDiff, Int.one_mul, Nat.one_mul, decide_true, decide_false, decide_eq_true_eq, decide_eq_false_iff_not, beq_iff_eq, beq_eq_false_iff_ne, ne_eq, not_false_eq_true, eq_self, true_and, and_true]
      omega
    have hr := (rl_2 hn ht).trans (rlT_g hl hv)
    simp only [rlVLaw, rlOLaw, rlELaw, hr]
    refine small_of (R := R28g2 B g gR off B.length) eQ1_ok hmC (f := 28) (fn := f28) (by kernel_rfl) (by kernel_rfl) FnOrc.nil rfl (R28g2_ok ?_) (by rw [R28g2_val]; simp only [ht]; rfl) (by rw [R28g2_tab]; simp only [ht]; rfl)
    simp only [allP, Con.h, ht, nonneg, hq, hz, hb, hlow, hv, Int.reduceMul, Int.reducePow, Int.reduceSub, Int.reduceAdd, Int.reduceToNat, Nat.reducePow, Nat.reduceMul, Nat.reduceSub, Int.reduceLT, Int.reduceLE, Nat.reduceLT, Nat.reduceLeDiff, Int.one_mul, Nat.one_mul, decide_true, decide_false, decide_eq_true_eq, decide_eq_false_iff_not, beq_iff_eq, beq_eq_false_iff_ne, ne_eq, not_false_eq_true, eq_self, true_and, and_true]
    omega
noncomputable def sm28 : Summary := fun args T => sm28c args T (xsAt T 1) (gAt T 1) (gAt T 0) ((iOf (cAt T 0 1)).toNat) (lenOf (cAt T 0 0)) (iOf (cAt T 0 2))
theorem sm28_ok : SmOk prog (fun _ => none) 28 sm28 := fun args T h => sm28c_ok h
noncomputable def S28r : Summary := callR sm28 [true]
theorem S28r_ok : SumOk prog (fun _ => none) 28 S28r := callR_ok sm28_ok [true]
noncomputable def sm32c (args : List AVal) (T : Tab) (B : List Int) (g : Nat) (gR : Nat) (off : Nat) (nB : Nat) (e : Int) (m : Int) : Res := ⟨[.tab T [some ⟨.agg [.slice 1 1 g 0 nB none, .int .i64 (off : Nat), .int .i64 e], gR, true, 57⟩, some ⟨.ints .u8 B, g, false, 5⟩], .val (.tuple args) (.tuple [.var 0 gR, .int .i64 m]), .eqN nB B.length, .leN off B.length, .p (ByLaw B), .leN B.length 140737488355000], .slice 1 2 1 0 (rtVLaw B off e m).length none, [some ⟨.agg [.slice 1 1 g 0 nB none, .int .i64 (rtOLaw B off e m : Nat), .int .i64 (rtELaw B off e m)], gR, true, 57⟩, some ⟨.ints .u8 B, g, false, 5⟩, some ⟨.ints .u8 (rtVLaw B off e m), 1, true, 5⟩]⟩
theorem sm32c_ok {args : List AVal} {T : Tab} {B : List Int} {g : Nat} {gR : Nat} {off : Nat} {nB : Nat} {e : Int} {m : Int} (h : allP (sm32c args T B g gR off nB e m).cs) : Small prog (fun _ => none) 32 args T (sm32c args T B g gR off nB e m).val (sm32c args T B g gR off nB e m).tab := by
  obtain ⟨hT, hv, h1, h2, h3, h4, _⟩ := h
  simp only [Con.h] at hT hv h1 h2 h3 h4
  injection hv with hv
  subst hT hv
  show Small prog (fun _ => none) 32 [.var 0 gR, .int .i64 m] [some ⟨.agg [.slice 1 1 g 0 nB none, .int .i64 (off : Nat), .int .i64 e], gR, true, 57⟩, some ⟨.ints .u8 B, g, false, 5⟩] (.slice 1 2 1 0 (rtVLaw B off e m).length none) [some ⟨.agg [.slice 1 1 g 0 nB none, .int .i64 (rtOLaw B off e m : Nat), .int .i64 (rtELaw B off e m)], gR, true, 57⟩, some ⟨.ints .u8 B, g, false, 5⟩, some ⟨.ints .u8 (rtVLaw B off e m), 1, true, 5⟩]
  have hb : ByLaw B := h3
  subst h1
  by_cases he : e = 0
  rotate_left
  · have hr := rt_e (B := B) (off := off) m he
    have hne : (e != 0) = true := bne_iff_ne.2 he
    simp only [rtVLaw, rtOLaw, rtELaw, hr]
    have hc : Small prog (fun _ => none) 32 [.var 0 gR, .int .i64 m] [some ⟨.agg [.slice 1 1 g 0 B.length none, .int .i64 (off : Nat), .int .i64 e], gR, true, 57⟩, some ⟨.ints .u8 B, g, false, 5⟩] .nilSlice [some ⟨.agg [.slice 1 1 g 0 B.length none, .int .i64 (off : Nat), .int .i64 e], gR, true, 57⟩, some ⟨.ints .u8 B, g, false, 5⟩] := by
      refine small_of (R := R32e B g gR off B.length e m) eQ1_ok hmC (f := 32) (fn := f32) (by kernel_rfl) (by kernel_rfl) FnOrc.nil rfl (R32e_ok ?_) R32e_val R32e_tab
      simp only [allP, Con.h, hne, not_false_eq_true, eq_self, true_and, and_true]
    exact small_nilG .u8 5 1 hc (Nat.le_refl 2)
  subst he
  by_cases hm : m < 0
  · have hr := rt_a (B := B) (off := off) hm
    simp only [rtVLaw, rtOLaw, rtELaw, hr]
    have hc : Small prog (fun _ => none) 32 [.var 0 gR, .int .i64 m] [some ⟨.agg [.slice 1 1 g 0 B.length none, .int .i64 (off : Nat), .int .i64 0], gR, true, 57⟩, some ⟨.ints .u8 B, g, false, 5⟩] .nilSlice [some ⟨.agg [.slice 1 1 g 0 B.length none, .int .i64 (off : Nat), .int .i64 1], gR, true, 57⟩, some ⟨.ints .u8 B, g, false, 5⟩] := by
      refine small_of (R := R32a B g gR off B.length m) eQ1_ok hmC (f := 32) (fn := f32) (by kernel_rfl) (by kernel_rfl) FnOrc.nil rfl (R32a_ok ?_) R32a_val R32a_tab
      simp only [allP, Con.h, hm, decide_eq_true_eq, decide_eq_false_iff_not, not_false_eq_true, eq_self, true_and, and_true]
    exact small_nilG .u8 5 1 hc (Nat.le_refl 2)
  by_cases hl : ((B.length - off : Nat) : Int) < m
  · have hr := rt_s hm hl
    simp only [rtVLaw, rtOLaw, rtELaw, hr]
    have hc : Small prog (fun _ => none) 32 [.var 0 gR, .int .i64 m] [some ⟨.agg [.slice 1 1 g 0 B.length none, .int .i64 (off : Nat), .int .i64 0], gR, true, 57⟩, some ⟨.ints .u8 B, g, false, 5⟩] .nilSlice [some ⟨.agg [.slice 1 1 g 0 B.length none, .int .i64 (off : Nat), .int .i64 20], gR, true, 57⟩, some ⟨.ints .u8 B, g, false, 5⟩] := by
      refine small_of (R := R32s B g gR off B.length m) eQ1_ok hmC (f := 32) (fn := f32) (by kernel_rfl) (by kernel_rfl) FnOrc.nil rfl (R32s_ok ?_) R32s_val R32s_tab
      simp only [allP, Con.h, hm, hl, h2, h4, decide_eq_true_eq, decide_eq_false_iff_not, not_false_eq_true, eq_self, true_and, and_true]
    exact small_nilG .u8 5 1 hc (Nat.le_refl 2)
  obtain ⟨k, rfl⟩ : ∃ k : Nat, m = (k : Nat) := ⟨m.toNat, by omega⟩
  have hr := rt_g hl
  have hk : (subLaw B off k).length = k := subLaw_len (by omega)
  have e1 : ((off : Int) + (k : Int) - (k : Int)).toNat = off := by omega
  have e2 : off + k - off = k := by omega
  have e3 : (off : Int) + (k : Int) = ((off + k : Nat) : Int) := by omega
  simp only [rtVLaw, rtOLaw, rtELaw, hr]
  refine small_ofG (R := R32g B g gR off B.length k) (keep := [0,1,2]) eQ1_ok hmC (f := 32) (fn := f32) (by kernel_rfl) (by kernel_rfl) FnOrc.nil rfl (R32g_ok ?_) (by rw [R32g_val, e1, subO_eq, e2, hk]) (by rw [R32g_tab, e1, subO_eq, e2, dropO_eq, e3]; rfl)
  rw [e1]
  simp only [allP, Con.h, subO_eq, e2, hl, h2, h4, decide_eq_true_eq, decide_eq_false_iff_not, not_false_eq_true, eq_self, true_and, and_true]
  omega
noncomputable def sm32 : Summary := fun args T => sm32c args T (xsAt T 1) (gAt T 1) (gAt T 0) ((iOf (cAt T 0 1)).toNat) (lenOf (cAt T 0 0)) (iOf (cAt T 0 2)) (iOf (vAt args 1))
theorem sm32_ok : SmOk prog (fun _ => none) 32 sm32 := fun args T h => sm32c_ok h
noncomputable def S32r : Summary := callR sm32 [true]
theorem S32r_ok : SumOk prog (fun _ => none) 32 S32r := callR_ok sm32_ok [true]
noncomputable def sm37c (args : List AVal) (T : Tab) (B : List Int) (g : Nat) (gR : Nat) (off : Nat) (nB : Nat) (e : Int) : Res := ⟨[.tab T [some ⟨.agg [.slice 1 1 g 0 nB none, .int .i64 (off : Nat), .int .i64 e], gR, true, 57⟩, some ⟨.ints .u8 B, g, false, 5⟩], .val (.tuple args) (.tuple [.var 0 gR]), .eqN nB B.length, .leN off B.length, .p (ByLaw B), .leN B.length 140737488355000], .int .i64 (reLaw B off e), [some ⟨.agg [.slice 1 1 g 0 nB none, .int .i64 (off : Nat), .int .i64 e], gR, true, 57⟩, some ⟨.ints .u8 B, g, false, 5⟩]⟩
theorem sm37c_ok {args : List AVal} {T : Tab} {B : List Int} {g : Nat} {gR : Nat} {off : Nat} {nB : Nat} {e : Int} (h : allP (sm37c args T B g gR off nB e).cs) : Small prog (fun _ => none) 37 args T (sm37c args T B g gR off nB e).val (sm37c args T B g gR off nB e).tab := by
  obtain ⟨hT, hv, h1, h2, h3, h4, _⟩ := h
  simp only [Con.h] at hT hv h1 h2 h3 h4
  injection hv with hv
  subst hT hv
  show Small prog (fun _ => none) 37 [.var 0 gR] [some ⟨.agg [.slice 1 1 g 0 nB none, .int .i64 (off : Nat), .int .i64 e], gR, true, 57⟩, some ⟨.ints .u8 B, g, false, 5⟩] (.int .i64 (reLaw B off e)) [some ⟨.agg [.slice 1 1 g 0 nB none, .int .i64 (off : Nat), .int .i64 e], gR, true, 57⟩, some ⟨.ints .u8 B, g, false, 5⟩]
  subst h1
  by_cases he : e = 0
  rotate_left
  · have hne : (e == 0) = false := beq_eq_false_iff_ne.2 he
    rw [show reLaw B off e = e from if_pos he]
    refine small_of (R := R37e B g gR off B.length e) eQ1_ok hmC (f := 37) (fn := f37) (by kernel_rfl) (by kernel_rfl) FnOrc.nil rfl (R37e_ok ?_) R37e_val R37e_tab
    simp only [allP, Con.h, hne, not_false_eq_true, eq_self, true_and, and_true]
  subst he
  by_cases hl : 0 < B.length - off
  · rw [show reLaw B off 0 = 21 by unfold reLaw; rw [if_neg (by decide), if_pos hl]]
    refine small_of (R := R37m B g gR off B.length) eQ1_ok hmC (f := 37) (fn := f37) (by kernel_rfl) (by kernel_rfl) FnOrc.nil rfl (R37m_ok ?_) R37m_val R37m_tab
    simp only [allP, Con.h, decide_eq_true_eq, decide_eq_false_iff_not, not_false_eq_true, eq_self, true_and, and_true]
    omega
  · rw [show reLaw B off 0 = 0 by unfold reLaw; rw [if_neg (by decide), if_neg hl]]
    refine small_of (R := R37z B g gR off B.length) eQ1_ok hmC (f := 37) (fn := f37) (by kernel_rfl) (by kernel_rfl) FnOrc.nil rfl (R37z_ok ?_) R37z_val R37z_tab
    simp only [allP, Con.h, decide_eq_true_eq, decide_eq_false_iff_not, not_false_eq_true, eq_self, true_and, and_true]
    omega
noncomputable def sm37 : Summary := fun args T => sm37c args T (xsAt T 1) (gAt T 1) (gAt T 0) ((iOf (cAt T 0 1)).toNat) (lenOf (cAt T 0 0)) (iOf (cAt T 0 2))
theorem sm37_ok : SmOk prog (fun _ => none) 37 sm37 := fun args T h => sm37c_ok h
noncomputable def S37r : Summary := callR sm37 [true]
theorem S37r_ok : SumOk prog (fun _ => none) 37 S37r := callR_ok sm37_ok [true]
end Go.Abs

set_option linter.unusedVariables false
set_option linter.unusedSimpArgs false
set_option maxRecDepth 100000
set_option maxHeartbeats 4000000
namespace Go.Abs
open Go.Proofs Go.Proofs.Try
/-! ### the document: the reader: Vector -/
noncomputable def eQ2 : Env := eC0 [(28, S28r), (32, S32r)]
theorem eQ2_ok : EnvOk eQ2 := envOf_ok tysC_ok (SumsOk.cons (fn := f28) S28r_ok (by kernel_rfl) (by kernel_rfl) (by kernel_rfl) (SumsOk.cons (fn := f32) S32r_ok (by kernel_rfl) (by kernel_rfl) (by kernel_rfl) trivial))
noncomputable def R30a (B : List Int) (g gR off nB : Nat) (e : Int) : Res := resG 2 [0,1] (runF eQ2 f30 [] 400 [.var 0 gR] [some ⟨.agg [.slice 1 1 g 0 nB none, .int .i64 (off : Nat), .int .i64 e], gR, true, 57⟩, some ⟨.ints .u8 B, g, false, 5⟩] [some false, some true])
theorem R30a_ok {B : List Int} {g gR off nB : Nat} {e : Int} (h : allP [.eqN gR gR, .eqN gR gR, .eqN gR gR, .eqN g g, .eqN nB B.length, .leN off B.length, .p (ByLaw B), .leN B.length 140737488355000, .eqN gR gR, .eqN gR gR, .eqN gR gR, .p ((rlELaw B off e == 0) = false), .eqN g g, .eqN nB B.length, .leN (rlOLaw B off e) B.length, .p (ByLaw B), .leN B.length 140737488355000, .eqN gR gR, .eqN gR gR,
 .eqN gR gR, .p ((rtELaw B (rlOLaw B off e) (rlELaw B off e) (rlVLaw B off e) != 0) = true), .eqN gR gR, .eqN gR gR, .eqN gR gR]) : OkR (R30a B g gR off nB e) := OkR.dem (fl := bitsF 34 15099510792) (by kernel_rfl) (by kernel_rfl) (by kernel_rfl) h
theorem R30a_val {B : List Int} {g gR off nB : Nat} {e : Int} : (R30a B g gR off nB e).val = .nilSlice := by kernel_rfl
theorem R30a_tab {B : List Int} {g gR off nB : Nat} {e : Int} : (R30a B g gR off nB e).tab = [some ⟨.agg [.slice 1 1 g 0 nB none, .int .i64 (↑off : Int), .int .i64 (rtELaw B (rlOLaw B off e) (rlELaw B off e) (rlVLaw B off e))], gR, true, 57⟩, some ⟨.ints .u8 B, g, false, 5⟩] := by kernel_rfl
noncomputable def R30b (B : List Int) (g gR off nB : Nat) : Res := resG 2 [0,1] (runF eQ2 f30 [] 400 [.var 0 gR] [some ⟨.agg [.slice 1 1 g 0 nB none, .int .i64 (off : Nat), .int .i64 0], gR, true, 57⟩, some ⟨.ints .u8 B, g, false, 5⟩] [some true, some true, some true])
theorem R30b_ok {B : List Int} {g gR off nB : Nat} (h : allP [.eqN gR gR, .eqN gR gR, .eqN gR gR, .eqN g g, .eqN nB B.length, .leN off B.length, .p (ByLaw B), .leN B.length 140737488355000, .eqN gR gR, .eqN gR gR, .eqN gR gR, .p ((rlELaw B off (OfNat.ofNat 0) == 0) = true), .p (decide (65536 < rlVLaw B off (OfNat.ofNat 0)) = true), .eqN gR gR, .eqN gR gR, .eqN gR gR, .eqN g g, .eqN nB B.length,
 .leN (rlOLaw B off (OfNat.ofNat 0)) B.length, .p (ByLaw B), .leN B.length 140737488355000, .eqN gR gR, .eqN gR gR, .eqN gR gR, .p (true = true), .eqN gR gR, .eqN gR gR, .eqN gR gR]) : OkR (R30b B g gR off nB) := OkR.dem (fl := bitsF 41 1932742639624) (by kernel_rfl) (by kernel_rfl) (by kernel_rfl) h
theorem R30b_val {B : List Int} {g gR off nB : Nat} : (R30b B g gR off nB).val = .nilSlice := by kernel_rfl
theorem R30b_tab {B : List Int} {g gR off nB : Nat} : (R30b B g gR off nB).tab = [some ⟨.agg [.slice 1 1 g 0 nB none, .int .i64 (↑off : Int), .int .i64 (rtELaw B (rlOLaw B off (OfNat.ofNat 0)) (OfNat.ofNat 21) (rlVLaw B off (OfNat.ofNat 0)))], gR, true, 57⟩, some ⟨.ints .u8 B, g, false, 5⟩] := by kernel_rfl
noncomputable def R30c (B : List Int) (g gR off nB : Nat) : Res := resG 2 [0,1] (runF eQ2 f30 [] 400 [.var 0 gR] [some ⟨.agg [.slice 1 1 g 0 nB none, .int .i64 (off : Nat), .int .i64 0], gR, true, 57⟩, some ⟨.ints .u8 B, g, false, 5⟩] [some true, some false, some true])
theorem R30c_ok {B : List Int} {g gR off nB : Nat} (h : allP [.eqN gR gR, .eqN gR gR, .eqN gR gR, .eqN g g, .eqN nB B.length, .leN off B.length, .p (ByLaw B), .leN B.length 140737488355000, .eqN gR gR, .eqN gR gR, .eqN gR gR, .p ((rlELaw B off (OfNat.ofNat 0) == 0) = true), .p (decide (65536 < rlVLaw B off (OfNat.ofNat 0)) = false), .eqN g g, .eqN nB B.length, .leN (rlOLaw B off (OfNat.ofNat 0))
 B.length, .p (ByLaw B), .leN B.length 140737488355000, .eqN gR gR, .eqN gR gR, .eqN gR gR, .p ((rtELaw B (rlOLaw B off (OfNat.ofNat 0)) (rlELaw B off (OfNat.ofNat 0)) (rlVLaw B off (OfNat.ofNat 0)) != 0) = true), .eqN gR gR, .eqN gR gR, .eqN gR gR]) : OkR (R30c B g gR off nB) := OkR.dem (fl := bitsF 35 30199005192) (by kernel_rfl) (by kernel_rfl) (by kernel_rfl) h
theorem R30c_val {B : List Int} {g gR off nB : Nat} : (R30c B g gR off nB).val = .nilSlice := by kernel_rfl
theorem R30c_tab {B : List Int} {g gR off nB : Nat} : (R30c B g gR off nB).tab = [some ⟨.agg [.slice 1 1 g 0 nB none, .int .i64 (↑off : Int), .int .i64 (rtELaw B (rlOLaw B off (OfNat.ofNat 0)) (rlELaw B off (OfNat.ofNat 0)) (rlVLaw B off (OfNat.ofNat 0)))], gR, true, 57⟩, some ⟨.ints .u8 B, g, false, 5⟩] := by kernel_rfl
noncomputable def R30d (B : List Int) (g gR off nB : Nat) : Res := resG 2 [0,1,2] (runF eQ2 f30 [] 400 [.var 0 gR] [some ⟨.agg [.slice 1 1 g 0 nB none, .int .i64 (off : Nat), .int .i64 0], gR, true, 57⟩, some ⟨.ints .u8 B, g, false, 5⟩] [some true, some false, some false])
theorem R30d_ok {B : List Int} {g gR off nB : Nat} (h : allP [.eqN gR gR, .eqN gR gR, .eqN gR gR, .eqN g g, .eqN nB B.length, .leN off B.length, .p (ByLaw B), .leN B.length 140737488355000, .eqN gR gR, .eqN gR gR, .eqN gR gR, .p ((rlELaw B off (OfNat.ofNat 0) == 0) = true), .p (decide (65536 < rlVLaw B off (OfNat.ofNat 0)) = false), .eqN g g, .eqN nB B.length, .leN (rlOLaw B off (OfNat.ofNat 0))
 B.length, .p (ByLaw B), .leN B.length 140737488355000, .eqN gR gR, .eqN gR gR, .eqN gR gR, .p ((rtELaw B (rlOLaw B off (OfNat.ofNat 0)) (rlELaw B off (OfNat.ofNat 0)) (rlVLaw B off (OfNat.ofNat 0)) != 0) = false)]) : OkR (R30d B g gR off nB) := OkR.dem (fl := bitsF 29 134234120) (by kernel_rfl) (by kernel_rfl) (by kernel_rfl) h
theorem R30d_val {B : List Int} {g gR off nB : Nat} : (R30d B g gR off nB).val = .slice 1 2 1 0 (rtVLaw B (rlOLaw B off (OfNat.ofNat 0)) (rlELaw B off (OfNat.ofNat 0)) (rlVLaw B off (OfNat.ofNat 0))).length none := by kernel_rfl
theorem R30d_tab {B : List Int} {g gR off nB : Nat} : (R30d B g gR off nB).tab = [some ⟨.agg [.slice 1 1 g 0 nB none, .int .i64 (↑(rtOLaw B (rlOLaw B off (OfNat.ofNat 0)) (rlELaw B off (OfNat.ofNat 0)) (rlVLaw B off (OfNat.ofNat 0))) : Int), .int .i64 (rtELaw B (rlOLaw B off (OfNat.ofNat 0)) (rlELaw B off (OfNat.ofNat 0)) (rlVLaw B off (OfNat.ofNat 0)))], gR, true, 57⟩, some ⟨.ints .u8 B, g, false,
 5⟩, some ⟨.ints .u8 (rtVLaw B (rlOLaw B off (OfNat.ofNat 0)) (rlELaw B off (OfNat.ofNat 0)) (rlVLaw B off (OfNat.ofNat 0))), 1, true, 5⟩] := by kernel_rfl
end Go.Abs

set_option linter.unusedVariables false
set_option linter.unusedSimpArgs false
set_option maxRecDepth 100000
set_option maxHeartbeats 4000000
namespace Go.Abs
open Go.Proofs Go.Proofs.Try
/-! ### the document: the reader: Vector answers -/
theorem rtV_err {B : List Int} {off : Nat} {e m : Int} (h : rtELaw B off e m ≠ 0) : rtVLaw B off e m = [] := by
  unfold rtELaw at h
  unfold rtVLaw
  unfold rtP at h ⊢
  split
  · rfl
  split
  · rfl
  split
  · rfl
  · rename_i a b c
    rw [if_neg a, if_neg b, if_neg c] at h
    exact absurd rfl h
noncomputable def sm30c (args : List AVal) (T : Tab) (B : List Int) (g : Nat) (gR : Nat) (off : Nat) (nB : Nat) (e : Int) : Res := ⟨[.tab T [some ⟨.agg [.slice 1 1 g 0 nB none, .int .i64 (off : Nat), .int .i64 e], gR, true, 57⟩, some ⟨.ints .u8 B, g, false, 5⟩], .val (.tuple args) (.tuple [.var 0 gR]), .eqN nB B.length, .leN off B.length, .p (ByLaw B), .leN B.length 140737488355000], .slice 1 2 1 0 (rvVLaw B off e).length none, [some ⟨.agg [.slice 1 1 g 0 nB none, .int .i64 (rvOLaw B off e : Nat), .int .i64 (rvELaw B off e)], gR, true, 57⟩, some ⟨.ints .u8 B, g, false, 5⟩, some ⟨.ints .u8 (rvVLaw B off e), 1, true, 5⟩]⟩
theorem sm30c_ok {args : List AVal} {T : Tab} {B : List Int} {g : Nat} {gR : Nat} {off : Nat} {nB : Nat} {e : Int} (h : allP (sm30c args T B g gR off nB e).cs) : Small prog (fun _ => none) 30 args T (sm30c args T B g gR off nB e).val (sm30c args T B g gR off nB e).tab := by
  obtain ⟨hT, hv, h1, h2, h3, h4, _⟩ := h
  simp only [Con.h] at hT hv h1 h2 h3 h4
  injection hv with hv
  subst hT hv
  show Small prog (fun _ => none) 30 [.var 0 gR] [some ⟨.agg [.slice 1 1 g 0 nB none, .int .i64 (off : Nat), .int .i64 e], gR, true, 57⟩, some ⟨.ints .u8 B, g, false, 5⟩] (.slice 1 2 1 0 (rvVLaw B off e).length none) [some ⟨.agg [.slice 1 1 g 0 nB none, .int .i64 (rvOLaw B off e : Nat), .int .i64 (rvELaw B off e)], gR, true, 57⟩, some ⟨.ints .u8 B, g, false, 5⟩, some ⟨.ints .u8 (rvVLaw B off e), 1, true, 5⟩]
  have hb : ByLaw B := h3
  subst h1
  by_cases he : e = 0
  rotate_left
  · have hr := rv_e (B := B) (off := off) he
    have hl := rl_e (B := B) (off := off) he
    have q0 : rlELaw B off e = e := by unfold rlELaw; rw [hl]
    have q3 : rlOLaw B off e = off := by unfold rlOLaw; rw [hl]
    have q4 := rtE_e (B := B) (off := off) (rlVLaw B off e) he
    have q1 : (e == 0) = false := beq_eq_false_iff_ne.2 he
    have q2 : (e != 0) = true := bne_iff_ne.2 he
    simp only [rvVLaw, rvOLaw, rvELaw, hr]
    have hc : Small prog (fun _ => none) 30 [.var 0 gR] [some ⟨.agg [.slice 1 1 g 0 B.length none, .int .i64 (off : Nat), .int .i64 e], gR, true, 57⟩, some ⟨.ints .u8 B, g, false, 5⟩] .nilSlice [some ⟨.agg [.slice 1 1 g 0 B.length none, .int .i64 (off : Nat), .int .i64 e], gR, true, 57⟩, some ⟨.ints .u8 B, g, false, 5⟩] := by
      refine small_ofG (R := R30a B g gR off B.length e) (keep := [0,1]) eQ2_ok hmC (f := 30) (fn := f30) (by kernel_rfl) (by kernel_rfl) FnOrc.nil rfl (R30a_ok ?_) R30a_val (by rw [R30a_tab, q0, q3, q4])
      simp only [allP, Con.h, hb, q0, q1, q3, q4, q2, h2, h4, not_false_eq_true, eq_self, true_and, and_true]
    exact small_nilG .u8 5 1 hc (Nat.le_refl 2)
  subst he
  have ho := rl_off h2 0
  by_cases h0 : rlELaw B off 0 = 0
  rotate_left
  · have e1 : rvE1 B off = rlELaw B off 0 := if_neg (fun k => h0 k.1)
    have hE := rtE_e (B := B) (off := rlOLaw B off 0) (rlVLaw B off 0) h0
    have hN : rtELaw B (rlOLaw B off 0) (rlELaw B off 0) (rlVLaw B off 0) ≠ 0 := by rw [hE]; exact h0
    have hr := rv_w e1 hN
    have hn := rtV_err hN
    have q1 : (rlELaw B off 0 == 0) = false := beq_eq_false_iff_ne.2 h0
    have q2 : (rlELaw B off 0 != 0) = true := bne_iff_ne.2 h0
    simp only [rvVLaw, rvOLaw, rvELaw, hr]
    rw [hn]
    have hc : Small prog (fun _ => none) 30 [.var 0 gR] [some ⟨.agg [.slice 1 1 g 0 B.length none, .int .i64 (off : Nat), .int .i64 0], gR, true, 57⟩, some ⟨.ints .u8 B, g, false, 5⟩] .nilSlice [some ⟨.agg [.slice 1 1 g 0 B.length none, .int .i64 (off : Nat), .int .i64 (rtELaw B (rlOLaw B off 0) (rlELaw B off 0) (rlVLaw B off 0))], gR, true, 57⟩, some ⟨.ints .u8 B, g, false, 5⟩] := by
      refine small_ofG (R := R30a B g gR off B.length 0) (keep := [0,1]) eQ2_ok hmC (f := 30) (fn := f30) (by kernel_rfl) (by kernel_rfl) FnOrc.nil rfl (R30a_ok ?_) R30a_val R30a_tab
      simp only [allP, Con.h, hb, q1, hE, q2, ho.2, h2, h4, not_false_eq_true, eq_self, true_and, and_true]
    exact small_nilG .u8 5 1 hc (Nat.le_refl 2)
  have q1 : (rlELaw B off 0 == 0) = true := beq_iff_eq.2 h0
  by_cases hv : 65536 < rlVLaw B off 0
  · have e1 : rvE1 B off = 21 := if_pos ⟨h0, hv⟩
    have hE := rtE_e (B := B) (off := rlOLaw B off 0) (e := 21) (rlVLaw B off 0) (by decide)
    have hN : rtELaw B (rlOLaw B off 0) 21 (rlVLaw B off 0) ≠ 0 := by rw [hE]; decide
    have hr := rv_w e1 hN
    have hn := rtV_err hN
    simp only [rvVLaw, rvOLaw, rvELaw, hr]
    rw [hn]
    have hc : Small prog (fun _ => none) 30 [.var 0 gR] [some ⟨.agg [.slice 1 1 g 0 B.length none, .int .i64 (off : Nat), .int .i64 0], gR, true, 57⟩, some ⟨.ints .u8 B, g, false, 5⟩] .nilSlice [some ⟨.agg [.slice 1 1 g 0 B.length none, .int .i64 (off : Nat), .int .i64 (rtELaw B (rlOLaw B off 0) 21 (rlVLaw B off 0))], gR, true, 57⟩, some ⟨.ints .u8 B, g, false, 5⟩] := by
      refine small_ofG (R := R30b B g gR off B.length) (keep := [0,1]) eQ2_ok hmC (f := 30) (fn := f30) (by kernel_rfl) (by kernel_rfl) FnOrc.nil rfl (R30b_ok ?_) R30b_val R30b_tab
      simp only [allP, Con.h, hb, q1, hv, ho.2, h2, h4, decide_eq_true_eq, not_false_eq_true, eq_self, true_and, and_true]
    exact small_nilG .u8 5 1 hc (Nat.le_refl 2)
  have e1 : rvE1 B off = rlELaw B off 0 := if_neg (fun k => hv k.2)
  by_cases hE : rtELaw B (rlOLaw B off 0) (rlELaw B off 0) (rlVLaw B off 0) = 0
  · have hr := rv_g e1 hE
    have q2 : (rtELaw B (rlOLaw B off 0) (rlELaw B off 0) (rlVLaw B off 0) != 0) = false := bne_eq_false_iff_eq.2 hE
    simp only [rvVLaw, rvOLaw, rvELaw, hr]
    refine small_ofG (R := R30d B g gR off B.length) (keep := [0,1,2]) eQ2_ok hmC (f := 30) (fn := f30) (by kernel_rfl) (by kernel_rfl) FnOrc.nil rfl (R30d_ok ?_) R30d_val R30d_tab
    simp only [allP, Con.h, hb, q1, q2, hv, ho.2, h2, h4, decide_eq_true_eq, decide_eq_false_iff_not, not_false_eq_true, eq_self, true_and, and_true]
  · have hr := rv_w e1 hE
    have hn := rtV_err hE
    have q2 : (rtELaw B (rlOLaw B off 0) (rlELaw B off 0) (rlVLaw B off 0) != 0) = true := bne_iff_ne.2 hE
    simp only [rvVLaw, rvOLaw, rvELaw, hr]
    rw [hn]
    have hc : Small prog (fun _ => none) 30 [.var 0 gR] [some ⟨.agg [.slice 1 1 g 0 B.length none, .int .i64 (off : Nat), .int .i64 0], gR, true, 57⟩, some ⟨.ints .u8 B, g, false, 5⟩] .nilSlice [some ⟨.agg [.slice 1 1 g 0 B.length none, .int .i64 (off : Nat), .int .i64 (rtELaw B (rlOLaw B off 0) (rlELaw B off 0) (rlVLaw B off 0))], gR, true, 57⟩, some ⟨.ints .u8 B, g, false, 5⟩] := by
      refine small_ofG (R := R30c B g gR off B.length) (keep := [0,1]) eQ2_ok hmC (f := 30) (fn := f30) (by kernel_rfl) (by kernel_rfl) FnOrc.nil rfl (R30c_ok ?_) R30c_val R30c_tab
      simp only [allP, Con.h, hb, q1, q2, hv, ho.2, h2, h4, decide_eq_true_eq, decide_eq_false_iff_not, not_false_eq_true, eq_self, true_and, and_true]
    exact small_nilG .u8 5 1 hc (Nat.le_refl 2)
noncomputable def sm30 : Summary := fun args T => sm30c args T (xsAt T 1) (gAt T 1) (gAt T 0) ((iOf (cAt T 0 1)).toNat) (lenOf (cAt T 0 0)) (iOf (cAt T 0 2))
theorem sm30_ok : SmOk prog (fun _ => none) 30 sm30 := fun args T h => sm30c_ok h
noncomputable def S30r : Summary := callR sm30 [true]
theorem S30r_ok : SumOk prog (fun _ => none) 30 S30r := callR_ok sm30_ok [true]
end Go.Abs

set_option linter.unusedVariables false
set_option linter.unusedSimpArgs false
set_option maxRecDepth 100000
set_option maxHeartbeats 4000000
namespace Go.Abs
open Go.Proofs Go.Proofs.Try
/-! ### CodecReads -/
noncomputable def eW : Env := eC0 [(12, S12), (13, S13), (15, S15), (23, S23r), (24, S24r), (25, S25r), (26, S26r), (27, S27r), (28, S28r), (29, S29r), (30, S30r), (31, S31r), (32, S32r), (33, S33), (34, S34r), (35, S35), (36, S36r), (37, S37r)]
theorem eW_ok : EnvOk eW := envOf_ok tysC_ok (SumsOk.cons (fn := f12) S12_ok (by kernel_rfl) (by kernel_rfl) (by kernel_rfl) (SumsOk.cons (fn := f13) S13_ok (by kernel_rfl) (by kernel_rfl) (by kernel_rfl) (SumsOk.cons (fn := f15) S15_ok (by kernel_rfl) (by kernel_rfl) (by kernel_rfl) (SumsOk.cons (fn := f23) S23r_ok (by kernel_rfl) (by kernel_rfl) (by kernel_rfl) (SumsOk.cons (fn := f24) S24r_ok (by kernel_rfl) (by kernel_rfl) (by kernel_rfl) (SumsOk.cons (fn := f25) S25r_ok (by kernel_rfl) (by kernel_rfl) (by kernel_rfl) (SumsOk.cons (fn := f26) S26r_ok (by kernel_rfl) (by kernel_rfl) (by kernel_rfl) (SumsOk.cons (fn := f27) S27r_ok (by kernel_rfl) (by kernel_rfl) (by kernel_rfl) (SumsOk.cons (fn := f28) S28r_ok (by kernel_rfl) (by kernel_rfl) (by kernel_rfl) (SumsOk.cons (fn := f29) S29r_ok (by kernel_rfl) (by kernel_rfl) (by kernel_rfl) (SumsOk.cons (fn := f30) S30r_ok (by kernel_rfl) (by kernel_rfl) (by kernel_rfl) (SumsOk.cons (fn := f31) S31r_ok (by kernel_rfl) (by kernel_rfl) (by kernel_rfl) (SumsOk.cons (fn := f32) S32r_ok (by kernel_rfl) (by kernel_rfl) (by kernel_rfl) (SumsOk.cons (fn := f33) S33_ok (by kernel_rfl) (by kernel_rfl) (by kernel_rfl) (SumsOk.cons (fn := f34) S34r_ok (by kernel_rfl) (by kernel_rfl) (by kernel_rfl) (SumsOk.cons (fn := f35) S35_ok (by kernel_rfl) (by kernel_rfl) (by kernel_rfl) (SumsOk.cons (fn := f36) S36r_ok (by kernel_rfl) (by kernel_rfl) (by kernel_rfl) (SumsOk.cons (fn := f37) S37r_ok (by kernel_rfl) (by kernel_rfl) (by kernel_rfl) trivial))))))))))))))))))
noncomputable def N7 (zs ops : List Int) (n L C : Nat) : Out := trim 2 7 [1,5,6,7] (runs eW 137 ⟨2, []⟩ 400 (frontC 5 (bodyOf f7)) [(0, .slice 1 0 0 0 n (some zs.length)), (1, .slice 2 1 0 0 L (some C))] [some ⟨.ints .u8 zs, 0, false, 5⟩, some ⟨.ints .i64 ops, 0, false, 50⟩] [none, none, none, none])
theorem N7_ok {zs ops : List Int} {n L C : Nat} (h : allP [.leN (0 + n) zs.length, .leN n 140737488355300, .leN (0 + n) (subLaw zs 0 n ++ [201, 202]).length, .leN n 140737488355000, .leN (0 + n) zs.length, .leN n 140737488355000]) : Ok (N7 zs ops n L C) := Ok.dem (fl := bitsF 15 16915) (by kernel_rfl) (by kernel_rfl) (by kernel_rfl) h
theorem N7_ex {zs ops : List Int} {n L C : Nat} : (N7 zs ops n L C).ex = .normal := by kernel_rfl
theorem N7_fm {zs ops : List Int} {n L C : Nat} : (N7 zs ops n L C).fm = [(1, .slice 2 1 0 0 L (some C)), (5, .slice 1 2 2 0 n none), (6, .var 3 0), (7, .var 5 0)] := by kernel_rfl
theorem N7_tab {zs ops : List Int} {n L C : Nat} : (N7 zs ops n L C).tab = [some ⟨.ints .u8 zs, 0, false, 5⟩, some ⟨.ints .i64 ops, 0, false, 50⟩, some ⟨.ints .u8 (subLaw zs 0 n ++ [201, 202]), 2, true, 5⟩, some ⟨.agg [.slice 1 4 1 0 n none, .int .i64 0, .bool true], 0, true, 60⟩, some ⟨.ints .u8 (subLaw (subLaw zs 0 n ++ [201, 202]) 0 n), 1, true, 5⟩, some ⟨.agg [.slice 1 6 1 0 n none, .int .i64
 0, .int .i64 0], 0, true, 57⟩, some ⟨.ints .u8 (subLaw zs 0 n), 1, true, 5⟩] := by kernel_rfl
noncomputable def A7 (zs ops X B : List Int) (n L C off : Nat) (e : Int) (i : Int) : Out := trim 7 7 [1,5,6,7,8] (run eW 137 ⟨7, []⟩ 400 (roundOf 0 f7) [(1, .slice 2 1 0 0 L (some C)), (5, .slice 1 2 2 0 n none), (6, .var 3 0), (7, .var 5 0), (8, .int .i64 i)] [some ⟨.ints .u8 zs, 0, false, 5⟩, some ⟨.ints .i64 ops, 0, false, 50⟩, some ⟨.ints .u8 X, 2, true, 5⟩, some ⟨.agg [.slice 1 4 1 off (B.length - off) none, .int .i64 e, .bool true], 0, true, 60⟩, some ⟨.ints .u8 B, 1, true, 5⟩, some ⟨.agg [.slice 1 6 1 0 B.length none, .int .i64 (off : Nat), .int .i64 e], 0, true, 57⟩, some ⟨.ints .u8 B, 1, true, 5⟩] [some true])
theorem A7_ok {zs ops X B : List Int} {n L C off : Nat} {e : Int} {i : Int} (h : allP [.p (decide (i < (↑n : Int)) = true), .leI 0 i, .leI (i + 1) (↑n : Int), .leN (i.toNat + 1) X.length, .leI 0 i, .leI (i + 1) (↑n : Int), .leN (i.toNat + 1) X.length, .rng (-9223372036854775808) (i + 1) 9223372036854775807]) : Ok (A7 zs ops X B n L C off e i) := Ok.dem (fl := bitsF 15 11429) (by kernel_rfl) (by
 kernel_rfl) (by kernel_rfl) h
theorem A7_ex {zs ops X B : List Int} {n L C off : Nat} {e : Int} {i : Int} : (A7 zs ops X B n L C off e i).ex = .normal := by kernel_rfl
theorem A7_fm {zs ops X B : List Int} {n L C off : Nat} {e : Int} {i : Int} : (A7 zs ops X B n L C off e i).fm = [(1, .slice 2 1 0 0 L (some C)), (5, .slice 1 2 2 0 n none), (6, .var 3 0), (7, .var 5 0), (8, .int .i64 (i + 1))] := by kernel_rfl
theorem A7_tab {zs ops X B : List Int} {n L C off : Nat} {e : Int} {i : Int} : (A7 zs ops X B n L C off e i).tab = [some ⟨.ints .u8 zs, 0, false, 5⟩, some ⟨.ints .i64 ops, 0, false, 50⟩, some ⟨.ints .u8 (X.set i.toNat ((X.getD i.toNat 0 + 1) % 256)), 2, true, 5⟩, some ⟨.agg [.slice 1 4 1 off (B.length - off) none, .int .i64 e, .bool true], 0, true, 60⟩, some ⟨.ints .u8 B, 1, true, 5⟩, some ⟨.agg
 [.slice 1 6 1 0 B.length none, .int .i64 (↑off : Int), .int .i64 e], 0, true, 57⟩, some ⟨.ints .u8 B, 1, true, 5⟩] := by kernel_rfl
noncomputable def D7 (zs ops X B : List Int) (n L C off : Nat) (e : Int) (i : Int) : Out := trim 7 7 [1,6,7] (run eW 137 ⟨7, []⟩ 400 (roundOf 0 f7) [(1, .slice 2 1 0 0 L (some C)), (5, .slice 1 2 2 0 n none), (6, .var 3 0), (7, .var 5 0), (8, .int .i64 i)] [some ⟨.ints .u8 zs, 0, false, 5⟩, some ⟨.ints .i64 ops, 0, false, 50⟩, some ⟨.ints .u8 X, 2, true, 5⟩, some ⟨.agg [.slice 1 4 1 off (B.length - off) none, .int .i64 e, .bool true], 0, true, 60⟩, some ⟨.ints .u8 B, 1, true, 5⟩, some ⟨.agg [.slice 1 6 1 0 B.length none, .int .i64 (off : Nat), .int .i64 e], 0, true, 57⟩, some ⟨.ints .u8 B, 1, true, 5⟩] [some false])
theorem D7_ok {zs ops X B : List Int} {n L C off : Nat} {e : Int} {i : Int} (h : allP [.p (decide (i < (↑n : Int)) = false)]) : Ok (D7 zs ops X B n L C off e i) := Ok.dem (fl := [true, false]) (by kernel_rfl) (by kernel_rfl) (by kernel_rfl) h
theorem D7_ex {zs ops X B : List Int} {n L C off : Nat} {e : Int} {i : Int} : (D7 zs ops X B n L C off e i).ex = .exit 0 := by kernel_rfl
theorem D7_fm {zs ops X B : List Int} {n L C off : Nat} {e : Int} {i : Int} : (D7 zs ops X B n L C off e i).fm = [(1, .slice 2 1 0 0 L (some C)), (6, .var 3 0), (7, .var 5 0)] := by kernel_rfl
theorem D7_tab {zs ops X B : List Int} {n L C off : Nat} {e : Int} {i : Int} : (D7 zs ops X B n L C off e i).tab = [some ⟨.ints .u8 zs, 0, false, 5⟩, some ⟨.ints .i64 ops, 0, false, 50⟩, some ⟨.ints .u8 X, 2, true, 5⟩, some ⟨.agg [.slice 1 4 1 off (B.length - off) none, .int .i64 e, .bool true], 0, true, 60⟩, some ⟨.ints .u8 B, 1, true, 5⟩, some ⟨.agg [.slice 1 6 1 0 B.length none, .int .i64 (↑off
 : Int), .int .i64 e], 0, true, 57⟩, some ⟨.ints .u8 B, 1, true, 5⟩] := by kernel_rfl
noncomputable def K70 (zs ops X B : List Int) (n L C off : Nat) (e : Int) (i : Nat) : Out := trim 7 7 [1,6,7,9] (run eW 137 ⟨7, []⟩ 400 (roundOf 2 f7) [(1, .slice 2 1 0 0 L (some C)), (6, .var 3 0), (7, .var 5 0), (9, .int .i64 (i : Nat))] [some ⟨.ints .u8 zs, 0, false, 5⟩, some ⟨.ints .i64 ops, 0, false, 50⟩, some ⟨.ints .u8 X, 2, true, 5⟩, some ⟨.agg [.slice 1 4 1 off (B.length - off) none, .int .i64 e, .bool true], 0, true, 60⟩, some ⟨.ints .u8 B, 1, true, 5⟩, some ⟨.agg [.slice 1 6 1 0 B.length none, .int .i64 (off : Nat), .int .i64 e], 0, true, 57⟩, some ⟨.ints .u8 B, 1, true, 5⟩] [some true, some true, some true, some false, some false, some false])
theorem K70_ok {zs ops X B : List Int} {n L C off : Nat} {e : Int} {i : Nat} (h : allP [.p (decide ((↑i : Int) < (↑L : Int)) = true), .leI 0 (↑i : Int), .leI ((↑i : Int) + 1) (↑L : Int), .leN (addO (i * 2) 0 + 1) ops.length, .p ((ops.getD (addO (i * 2) 0) 0 == 0) = true), .leI 0 (↑i : Int), .leI ((↑i : Int) + 1) (↑L : Int), .leN (addO (i * 2) 1 + 1) ops.length, .eqN (B.length - off) (B.length -
 off), .leN off B.length, .p (ByLaw B), .leI 0 (↑i : Int), .leI ((↑i : Int) + 1) (↑L : Int), .leI 0 (↑i : Int), .leI ((↑i : Int) + 1) (↑L : Int), .leN (addO (i * 2) 1 + 1) ops.length, .leN (addO (i * 2) 1 + 1) ops.length, .eqN B.length B.length, .leN off B.length, .p (ByLaw B), .leN B.length 140737488355000, .p ((rnVLaw B off e (ops.getD (addO (i * 2) 1) 0) == rnVLaw B off e (ops.getD (addO (i * 2)
 1) 0)) = true), .leN (rnOLaw B off e (ops.getD (addO (i * 2) 1) 0)) B.length, .leN B.length 140737488355000, .p (((↑(B.length - rnOLaw B off e (ops.getD (addO (i * 2) 1) 0)) : Int) != (↑(B.length - rnOLaw B off e (ops.getD (addO (i * 2) 1) 0)) : Int)) = false), .p ((rnELaw B off e (ops.getD (addO (i * 2) 1) 0) != rnELaw B off e (ops.getD (addO (i * 2) 1) 0)) = false), .eqN (B.length - rnOLaw B off
 e (ops.getD (addO (i * 2) 1) 0)) (B.length - rnOLaw B off e (ops.getD (addO (i * 2) 1) 0)), .eqN B.length B.length, .leN (rnOLaw B off e (ops.getD (addO (i * 2) 1) 0)) B.length, .p (ByLaw B), .leN B.length 140737488355000, .p ((reLaw B (rnOLaw B off e (ops.getD (addO (i * 2) 1) 0)) (rnELaw B off e (ops.getD (addO (i * 2) 1) 0)) != reLaw B (rnOLaw B off e (ops.getD (addO (i * 2) 1) 0)) (rnELaw B off
 e (ops.getD (addO (i * 2) 1) 0))) = false), .rng (-9223372036854775808) ((↑i : Int) + 1) 9223372036854775807]) : Ok (K70 zs ops X B n L C off e i) := Ok.dem (fl := bitsF 121 2608495238228513822156508922733669) (by kernel_rfl) (by kernel_rfl) (by kernel_rfl) h
theorem K70_ex {zs ops X B : List Int} {n L C off : Nat} {e : Int} {i : Nat} : (K70 zs ops X B n L C off e i).ex = .normal := by kernel_rfl
theorem K70_fm {zs ops X B : List Int} {n L C off : Nat} {e : Int} {i : Nat} : (K70 zs ops X B n L C off e i).fm = [(1, .slice 2 1 0 0 L (some C)), (6, .var 3 0), (7, .var 5 0), (9, .int .i64 ((↑i : Int) + 1))] := by kernel_rfl
theorem K70_tab {zs ops X B : List Int} {n L C off : Nat} {e : Int} {i : Nat} : (K70 zs ops X B n L C off e i).tab = [some ⟨.ints .u8 zs, 0, false, 5⟩, some ⟨.ints .i64 ops, 0, false, 50⟩, some ⟨.ints .u8 X, 2, true, 5⟩, some ⟨.agg [.slice 1 4 1 (rnOLaw B off e (ops.getD (addO (i * 2) 1) 0)) (B.length - rnOLaw B off e (ops.getD (addO (i * 2) 1) 0)) none, .int .i64 (rnELaw B off e (ops.getD (addO (i
 * 2) 1) 0)), .bool true], 0, true, 60⟩, some ⟨.ints .u8 B, 1, true, 5⟩, some ⟨.agg [.slice 1 6 1 0 B.length none, .int .i64 (↑(rnOLaw B off e (ops.getD (addO (i * 2) 1) 0)) : Int), .int .i64 (rnELaw B off e (ops.getD (addO (i * 2) 1) 0))], 0, true, 57⟩, some ⟨.ints .u8 B, 1, true, 5⟩] := by kernel_rfl
noncomputable def K71 (zs ops X B : List Int) (n L C off : Nat) (e : Int) (i : Nat) : Out := trim 7 7 [1,6,7,9] (run eW 137 ⟨7, []⟩ 400 (roundOf 2 f7) [(1, .slice 2 1 0 0 L (some C)), (6, .var 3 0), (7, .var 5 0), (9, .int .i64 (i : Nat))] [some ⟨.ints .u8 zs, 0, false, 5⟩, some ⟨.ints .i64 ops, 0, false, 50⟩, some ⟨.ints .u8 X, 2, true, 5⟩, some ⟨.agg [.slice 1 4 1 off (B.length - off) none, .int .i64 e, .bool true], 0, true, 60⟩, some ⟨.ints .u8 B, 1, true, 5⟩, some ⟨.agg [.slice 1 6 1 0 B.length none, .int .i64 (off : Nat), .int .i64 e], 0, true, 57⟩, some ⟨.ints .u8 B, 1, true, 5⟩] [some true, some false, some true, some true, some false, some false, some false])
theorem K71_ok {zs ops X B : List Int} {n L C off : Nat} {e : Int} {i : Nat} (h : allP [.p (decide ((↑i : Int) < (↑L : Int)) = true), .leI 0 (↑i : Int), .leI ((↑i : Int) + 1) (↑L : Int), .leN (addO (i * 2) 0 + 1) ops.length, .p ((ops.getD (addO (i * 2) 0) 0 == 0) = false), .p ((ops.getD (addO (i * 2) 0) 0 == 1) = true), .eqN (B.length - off) (B.length - off), .leN off B.length, .p (ByLaw B), .eqN
 B.length B.length, .leN off B.length, .p (ByLaw B), .leN B.length 140737488355000, .p ((rlVLaw B off e == rlVLaw B off e) = true), .leN (rlOLaw B off e) B.length, .leN B.length 140737488355000, .p (((↑(B.length - rlOLaw B off e) : Int) != (↑(B.length - rlOLaw B off e) : Int)) = false), .p ((rlELaw B off e != rlELaw B off e) = false), .eqN (B.length - rlOLaw B off e) (B.length - rlOLaw B off e),
 .eqN B.length B.length, .leN (rlOLaw B off e) B.length, .p (ByLaw B), .leN B.length 140737488355000, .p ((reLaw B (rlOLaw B off e) (rlELaw B off e) != reLaw B (rlOLaw B off e) (rlELaw B off e)) = false), .rng (-9223372036854775808) ((↑i : Int) + 1) 9223372036854775807]) : Ok (K71 zs ops X B n L C off e i) := Ok.dem (fl := bitsF 95 38869608018227127524590693) (by kernel_rfl) (by kernel_rfl) (by
 kernel_rfl) h
theorem K71_ex {zs ops X B : List Int} {n L C off : Nat} {e : Int} {i : Nat} : (K71 zs ops X B n L C off e i).ex = .normal := by kernel_rfl
theorem K71_fm {zs ops X B : List Int} {n L C off : Nat} {e : Int} {i : Nat} : (K71 zs ops X B n L C off e i).fm = [(1, .slice 2 1 0 0 L (some C)), (6, .var 3 0), (7, .var 5 0), (9, .int .i64 ((↑i : Int) + 1))] := by kernel_rfl
theorem K71_tab {zs ops X B : List Int} {n L C off : Nat} {e : Int} {i : Nat} : (K71 zs ops X B n L C off e i).tab = [some ⟨.ints .u8 zs, 0, false, 5⟩, some ⟨.ints .i64 ops, 0, false, 50⟩, some ⟨.ints .u8 X, 2, true, 5⟩, some ⟨.agg [.slice 1 4 1 (rlOLaw B off e) (B.length - rlOLaw B off e) none, .int .i64 (rlELaw B off e), .bool true], 0, true, 60⟩, some ⟨.ints .u8 B, 1, true, 5⟩, some ⟨.agg
 [.slice 1 6 1 0 B.length none, .int .i64 (↑(rlOLaw B off e) : Int), .int .i64 (rlELaw B off e)], 0, true, 57⟩, some ⟨.ints .u8 B, 1, true, 5⟩] := by kernel_rfl
noncomputable def K73 (zs ops X B : List Int) (n L C off : Nat) (e : Int) (i : Nat) : Out := trim 7 7 [1,6,7,9] (run eW 137 ⟨7, []⟩ 400 (roundOf 2 f7) [(1, .slice 2 1 0 0 L (some C)), (6, .var 3 0), (7, .var 5 0), (9, .int .i64 (i : Nat))] [some ⟨.ints .u8 zs, 0, false, 5⟩, some ⟨.ints .i64 ops, 0, false, 50⟩, some ⟨.ints .u8 X, 2, true, 5⟩, some ⟨.agg [.slice 1 4 1 off (B.length - off) none, .int .i64 e, .bool true], 0, true, 60⟩, some ⟨.ints .u8 B, 1, true, 5⟩, some ⟨.agg [.slice 1 6 1 0 B.length none, .int .i64 (off : Nat), .int .i64 e], 0, true, 57⟩, some ⟨.ints .u8 B, 1, true, 5⟩] [some true, some false, some false, some false, some true, some false, some false, some false])
theorem K73_ok {zs ops X B : List Int} {n L C off : Nat} {e : Int} {i : Nat} (h : allP [.p (decide ((↑i : Int) < (↑L : Int)) = true), .leI 0 (↑i : Int), .leI ((↑i : Int) + 1) (↑L : Int), .leN (addO (i * 2) 0 + 1) ops.length, .p ((ops.getD (addO (i * 2) 0) 0 == 0) = false), .p ((ops.getD (addO (i * 2) 0) 0 == 1) = false), .p ((ops.getD (addO (i * 2) 0) 0 == 2) = false), .leI 0 (↑i : Int), .leI ((↑i
 : Int) + 1) (↑L : Int), .leN (addO (i * 2) 1 + 1) ops.length, .eqN (B.length - off) (B.length - off), .leN off B.length, .p (ByLaw B), .leN B.length 140737488355000, .leN (0 + (rtVLaw B off e (ops.getD (addO (i * 2) 1) 0)).length) (rtVLaw B off e (ops.getD (addO (i * 2) 1) 0)).length, .leN (0 + (rtVLaw B off e (ops.getD (addO (i * 2) 1) 0)).length) (rtVLaw B off e (ops.getD (addO (i * 2) 1)
 0)).length, .leI 0 (↑i : Int), .leI ((↑i : Int) + 1) (↑L : Int), .leI 0 (↑i : Int), .leI ((↑i : Int) + 1) (↑L : Int), .leN (addO (i * 2) 1 + 1) ops.length, .leN (addO (i * 2) 1 + 1) ops.length, .eqN B.length B.length, .leN off B.length, .p (ByLaw B), .leN B.length 140737488355000, .leN (0 + (rtVLaw B off e (ops.getD (addO (i * 2) 1) 0)).length) (rtVLaw B off e (ops.getD (addO (i * 2) 1) 0)).length,
 .p ((List.map byteOf (List.take (rtVLaw B off e (ops.getD (addO (i * 2) 1) 0)).length (rtVLaw B off e (ops.getD (addO (i * 2) 1) 0))) == List.map byteOf (List.take (rtVLaw B off e (ops.getD (addO (i * 2) 1) 0)).length (rtVLaw B off e (ops.getD (addO (i * 2) 1) 0)))) = true), .leN (rtOLaw B off e (ops.getD (addO (i * 2) 1) 0)) B.length, .leN B.length 140737488355000, .p (((↑(B.length - rtOLaw B off
 e (ops.getD (addO (i * 2) 1) 0)) : Int) != (↑(B.length - rtOLaw B off e (ops.getD (addO (i * 2) 1) 0)) : Int)) = false), .p ((rtELaw B off e (ops.getD (addO (i * 2) 1) 0) != rtELaw B off e (ops.getD (addO (i * 2) 1) 0)) = false), .eqN (B.length - rtOLaw B off e (ops.getD (addO (i * 2) 1) 0)) (B.length - rtOLaw B off e (ops.getD (addO (i * 2) 1) 0)), .eqN B.length B.length, .leN (rtOLaw B off e
 (ops.getD (addO (i * 2) 1) 0)) B.length, .p (ByLaw B), .leN B.length 140737488355000, .p ((reLaw B (rtOLaw B off e (ops.getD (addO (i * 2) 1) 0)) (rtELaw B off e (ops.getD (addO (i * 2) 1) 0)) != reLaw B (rtOLaw B off e (ops.getD (addO (i * 2) 1) 0)) (rtELaw B off e (ops.getD (addO (i * 2) 1) 0))) = false), .rng (-9223372036854775808) ((↑i : Int) + 1) 9223372036854775807]) : Ok (K73 zs ops X B n L
 C off e i) := Ok.dem (fl := bitsF 131 2671099123945998154030407337480917093) (by kernel_rfl) (by kernel_rfl) (by kernel_rfl) h
theorem K73_ex {zs ops X B : List Int} {n L C off : Nat} {e : Int} {i : Nat} : (K73 zs ops X B n L C off e i).ex = .normal := by kernel_rfl
theorem K73_fm {zs ops X B : List Int} {n L C off : Nat} {e : Int} {i : Nat} : (K73 zs ops X B n L C off e i).fm = [(1, .slice 2 1 0 0 L (some C)), (6, .var 3 0), (7, .var 5 0), (9, .int .i64 ((↑i : Int) + 1))] := by kernel_rfl
theorem K73_tab {zs ops X B : List Int} {n L C off : Nat} {e : Int} {i : Nat} : (K73 zs ops X B n L C off e i).tab = [some ⟨.ints .u8 zs, 0, false, 5⟩, some ⟨.ints .i64 ops, 0, false, 50⟩, some ⟨.ints .u8 X, 2, true, 5⟩, some ⟨.agg [.slice 1 4 1 (rtOLaw B off e (ops.getD (addO (i * 2) 1) 0)) (B.length - rtOLaw B off e (ops.getD (addO (i * 2) 1) 0)) none, .int .i64 (rtELaw B off e (ops.getD (addO (i
 * 2) 1) 0)), .bool true], 0, true, 60⟩, some ⟨.ints .u8 B, 1, true, 5⟩, some ⟨.agg [.slice 1 6 1 0 B.length none, .int .i64 (↑(rtOLaw B off e (ops.getD (addO (i * 2) 1) 0)) : Int), .int .i64 (rtELaw B off e (ops.getD (addO (i * 2) 1) 0))], 0, true, 57⟩, some ⟨.ints .u8 B, 1, true, 5⟩] := by kernel_rfl
noncomputable def E7 (zs ops X B : List Int) (n L C off : Nat) (e : Int) (i : Nat) : Out := trim 7 7 [1] (run eW 137 ⟨7, []⟩ 400 (roundOf 2 f7) [(1, .slice 2 1 0 0 L (some C)), (6, .var 3 0), (7, .var 5 0), (9, .int .i64 (i : Nat))] [some ⟨.ints .u8 zs, 0, false, 5⟩, some ⟨.ints .i64 ops, 0, false, 50⟩, some ⟨.ints .u8 X, 2, true, 5⟩, some ⟨.agg [.slice 1 4 1 off (B.length - off) none, .int .i64 e, .bool true], 0, true, 60⟩, some ⟨.ints .u8 B, 1, true, 5⟩, some ⟨.agg [.slice 1 6 1 0 B.length none, .int .i64 (off : Nat), .int .i64 e], 0, true, 57⟩, some ⟨.ints .u8 B, 1, true, 5⟩] [some false])
theorem E7_ok {zs ops X B : List Int} {n L C off : Nat} {e : Int} {i : Nat} (h : allP [.p (decide ((↑i : Int) < (↑L : Int)) = false)]) : Ok (E7 zs ops X B n L C off e i) := Ok.dem (fl := [true, false]) (by kernel_rfl) (by kernel_rfl) (by kernel_rfl) h
theorem E7_ex {zs ops X B : List Int} {n L C off : Nat} {e : Int} {i : Nat} : (E7 zs ops X B n L C off e i).ex = .exit 2 := by kernel_rfl
theorem E7_fm {zs ops X B : List Int} {n L C off : Nat} {e : Int} {i : Nat} : (E7 zs ops X B n L C off e i).fm = [(1, .slice 2 1 0 0 L (some C))] := by kernel_rfl
theorem E7_tab {zs ops X B : List Int} {n L C off : Nat} {e : Int} {i : Nat} : (E7 zs ops X B n L C off e i).tab = [some ⟨.ints .u8 zs, 0, false, 5⟩, some ⟨.ints .i64 ops, 0, false, 50⟩, some ⟨.ints .u8 X, 2, true, 5⟩, some ⟨.agg [.slice 1 4 1 off (B.length - off) none, .int .i64 e, .bool true], 0, true, 60⟩, some ⟨.ints .u8 B, 1, true, 5⟩, some ⟨.agg [.slice 1 6 1 0 B.length none, .int .i64 (↑off
 : Int), .int .i64 e], 0, true, 57⟩, some ⟨.ints .u8 B, 1, true, 5⟩] := by kernel_rfl
end Go.Abs

set_option linter.unusedVariables false
set_option linter.unusedSimpArgs false
set_option maxRecDepth 100000
set_option maxHeartbeats 4000000
namespace Go.Abs
open Go.Proofs Go.Proofs.Try
/-! ### CodecReads: the bytes of a vector are put out -/
noncomputable def A7v (zs ops X B B2 v : List Int) (off nR nq L : Nat) (e e2 a : Int) (cp : Option Nat) (i : Int) (nv : Nat) (k : Int) : Out := trim 8 8 [1,6,7,9,10,11,12] (run eW 137 ⟨8, []⟩ 400 (roundOf 5 f7) [(1, .slice 2 1 0 0 L cp), (6, .var 3 0), (7, .var 5 0), (9, .int .i64 i), (10, .bool true), (11, .slice 1 7 1 0 nv none), (12, .int .i64 k)] [some ⟨.ints .u8 zs, 0, false, 5⟩, some ⟨.ints .i64 ops, 0, false, 50⟩, some ⟨.ints .u8 X, 2, true, 5⟩, some ⟨.agg [.slice 1 4 1 off nR none, .int .i64 e, .bool true], 0, true, 60⟩, some ⟨.ints .u8 B, 1, true, 5⟩, some ⟨.agg [.slice 1 6 1 0 nq none, .int .i64 a, .int .i64 e2], 0, true, 57⟩, some ⟨.ints .u8 B2, 1, true, 5⟩, some ⟨.ints .u8 v, 1, true, 5⟩] [some true])
theorem A7v_ok {zs ops X B B2 v : List Int} {off nR nq L : Nat} {e e2 a : Int} {cp : Option Nat} {i : Int} {nv : Nat} {k : Int} (h : allP [.p (decide (k < (↑nv : Int)) = true), .leI 0 k, .leI (k + 1) (↑nv : Int), .leN (k.toNat + 1) v.length, .rng (-9223372036854775808) (k + 1) 9223372036854775807]) : Ok (A7v zs ops X B B2 v off nR nq L e e2 a cp i nv k) := Ok.dem (fl := [true, false, true, false,
 false, true, true, false, true, false]) (by kernel_rfl) (by kernel_rfl) (by kernel_rfl) h
theorem A7v_ex {zs ops X B B2 v : List Int} {off nR nq L : Nat} {e e2 a : Int} {cp : Option Nat} {i : Int} {nv : Nat} {k : Int} : (A7v zs ops X B B2 v off nR nq L e e2 a cp i nv k).ex = .normal := by kernel_rfl
theorem A7v_fm {zs ops X B B2 v : List Int} {off nR nq L : Nat} {e e2 a : Int} {cp : Option Nat} {i : Int} {nv : Nat} {k : Int} : (A7v zs ops X B B2 v off nR nq L e e2 a cp i nv k).fm = [(1, .slice 2 1 0 0 L cp), (6, .var 3 0), (7, .var 5 0), (9, .int .i64 i), (10, .bool true), (11, .slice 1 7 1 0 nv none), (12, .int .i64 (k + 1))] := by kernel_rfl
theorem A7v_tab {zs ops X B B2 v : List Int} {off nR nq L : Nat} {e e2 a : Int} {cp : Option Nat} {i : Int} {nv : Nat} {k : Int} : (A7v zs ops X B B2 v off nR nq L e e2 a cp i nv k).tab = [some ⟨.ints .u8 zs, 0, false, 5⟩, some ⟨.ints .i64 ops, 0, false, 50⟩, some ⟨.ints .u8 X, 2, true, 5⟩, some ⟨.agg [.slice 1 4 1 off nR none, .int .i64 e, .bool true], 0, true, 60⟩, some ⟨.ints .u8 B, 1, true, 5⟩,
 some ⟨.agg [.slice 1 6 1 0 nq none, .int .i64 a, .int .i64 e2], 0, true, 57⟩, some ⟨.ints .u8 B2, 1, true, 5⟩, some ⟨.ints .u8 (v.set k.toNat 0), 1, true, 5⟩] := by kernel_rfl
noncomputable def D7v (zs ops X B B2 v : List Int) (off nR nq L : Nat) (e e2 a : Int) (cp : Option Nat) (i : Int) (nv : Nat) (k : Int) : Out := trim 8 8 [1,6,7,9,10] (run eW 137 ⟨8, []⟩ 400 (roundOf 5 f7) [(1, .slice 2 1 0 0 L cp), (6, .var 3 0), (7, .var 5 0), (9, .int .i64 i), (10, .bool true), (11, .slice 1 7 1 0 nv none), (12, .int .i64 k)] [some ⟨.ints .u8 zs, 0, false, 5⟩, some ⟨.ints .i64 ops, 0, false, 50⟩, some ⟨.ints .u8 X, 2, true, 5⟩, some ⟨.agg [.slice 1 4 1 off nR none, .int .i64 e, .bool true], 0, true, 60⟩, some ⟨.ints .u8 B, 1, true, 5⟩, some ⟨.agg [.slice 1 6 1 0 nq none, .int .i64 a, .int .i64 e2], 0, true, 57⟩, some ⟨.ints .u8 B2, 1, true, 5⟩, some ⟨.ints .u8 v, 1, true, 5⟩] [some false])
theorem D7v_ok {zs ops X B B2 v : List Int} {off nR nq L : Nat} {e e2 a : Int} {cp : Option Nat} {i : Int} {nv : Nat} {k : Int} (h : allP [.p (decide (k < (↑nv : Int)) = false)]) : Ok (D7v zs ops X B B2 v off nR nq L e e2 a cp i nv k) := Ok.dem (fl := [true, false]) (by kernel_rfl) (by kernel_rfl) (by kernel_rfl) h
theorem D7v_ex {zs ops X B B2 v : List Int} {off nR nq L : Nat} {e e2 a : Int} {cp : Option Nat} {i : Int} {nv : Nat} {k : Int} : (D7v zs ops X B B2 v off nR nq L e e2 a cp i nv k).ex = .exit 5 := by kernel_rfl
theorem D7v_fm {zs ops X B B2 v : List Int} {off nR nq L : Nat} {e e2 a : Int} {cp : Option Nat} {i : Int} {nv : Nat} {k : Int} : (D7v zs ops X B B2 v off nR nq L e e2 a cp i nv k).fm = [(1, .slice 2 1 0 0 L cp), (6, .var 3 0), (7, .var 5 0), (9, .int .i64 i), (10, .bool true)] := by kernel_rfl
theorem D7v_tab {zs ops X B B2 v : List Int} {off nR nq L : Nat} {e e2 a : Int} {cp : Option Nat} {i : Int} {nv : Nat} {k : Int} : (D7v zs ops X B B2 v off nR nq L e e2 a cp i nv k).tab = [some ⟨.ints .u8 zs, 0, false, 5⟩, some ⟨.ints .i64 ops, 0, false, 50⟩, some ⟨.ints .u8 X, 2, true, 5⟩, some ⟨.agg [.slice 1 4 1 off nR none, .int .i64 e, .bool true], 0, true, 60⟩, some ⟨.ints .u8 B, 1, true, 5⟩,
 some ⟨.agg [.slice 1 6 1 0 nq none, .int .i64 a, .int .i64 e2], 0, true, 57⟩, some ⟨.ints .u8 B2, 1, true, 5⟩, some ⟨.ints .u8 v, 1, true, 5⟩] := by kernel_rfl
def zoLaw (v : List Int) : Nat → List Int
  | 0 => v
  | k + 1 => (zoLaw v k).set k 0
theorem zo_len (v : List Int) : ∀ k, (zoLaw v k).length = v.length
  | 0 => rfl
  | k + 1 => by rw [zoLaw, List.length_set, zo_len v k]
theorem loop7v {zs ops X B B2 v : List Int} {off nR nq L : Nat} {e e2 a : Int} {cp : Option Nat} {i : Int} (hv : v.length ≤ 140737488355000) : To eW 137 8 (.block 5 (.loop (roundOf 5 f7))) [(1, .slice 2 1 0 0 L cp), (6, .var 3 0), (7, .var 5 0), (9, .int .i64 i), (10, .bool true), (11, .slice 1 7 1 0 v.length none), (12, .int .i64 0)] [some ⟨.ints .u8 zs, 0, false, 5⟩, some ⟨.ints .i64 ops, 0, false, 50⟩, some ⟨.ints .u8 X, 2, true, 5⟩, some ⟨.agg [.slice 1 4 1 off nR none, .int .i64 e, .bool true], 0, true, 60⟩, some ⟨.ints .u8 B, 1, true, 5⟩, some ⟨.agg [.slice 1 6 1 0 nq none, .int .i64 a, .int .i64 e2], 0, true, 57⟩, some ⟨.ints .u8 B2, 1, true, 5⟩, some ⟨.ints .u8 v, 1, true, 5⟩] .normal [(1, .slice 2 1 0 0 L cp), (6, .var 3 0), (7, .var 5 0), (9, .int .i64 i), (10, .bool true)] [some ⟨.ints .u8 zs, 0, false, 5⟩, some ⟨.ints .i64 ops, 0, false, 50⟩, some ⟨.ints .u8 X, 2, true, 5⟩, some ⟨.agg [.slice 1 4 1 off nR none, .int .i64 e, .bool true], 0, true, 60⟩, some ⟨.ints .u8 B, 1, true, 5⟩, some ⟨.agg [.slice 1 6 1 0 nq none, .int .i64 a, .int .i64 e2], 0, true, 57⟩, some ⟨.ints .u8 B2, 1, true, 5⟩, some ⟨.ints .u8 (zoLaw v v.length), 1, true, 5⟩] := by
  refine To.rounds (E := eW) (n := 137) (k := 8) (id := 5) (c := roundOf 5 f7) (fun k : Nat => [(1, .slice 2 1 0 0 L cp), (6, .var 3 0), (7, .var 5 0), (9, .int .i64 i), (10, .bool true), (11, .slice 1 7 1 0 v.length none), (12, .int .i64 (k : Nat))]) (fun k => [some ⟨.ints .u8 zs, 0, false, 5⟩, some ⟨.ints .i64 ops, 0, false, 50⟩, some ⟨.ints .u8 X, 2, true, 5⟩, some ⟨.agg [.slice 1 4 1 off nR none, .int .i64 e, .bool true], 0, true, 60⟩, some ⟨.ints .u8 B, 1, true, 5⟩, some ⟨.agg [.slice 1 6 1 0 nq none, .int .i64 a, .int .i64 e2], 0, true, 57⟩, some ⟨.ints .u8 B2, 1, true, 5⟩, some ⟨.ints .u8 (zoLaw v k), 1, true, 5⟩]) v.length (fun k hk => ?_) (To.of (o := D7v zs ops X B B2 (zoLaw v v.length) off nR nq L e e2 a cp i v.length (v.length : Nat)) eW_ok hmC (Nat.le_refl 8) OrcOk.nil rfl (D7v_ok ?_) D7v_ex D7v_fm D7v_tab)
  · have hl := zo_len v k
    refine To.of (o := A7v zs ops X B B2 (zoLaw v k) off nR nq L e e2 a cp i v.length (k : Nat)) eW_ok hmC (Nat.le_refl 8) OrcOk.nil rfl (A7v_ok ?_) A7v_ex A7v_fm ?_
    · simp only [allP, Con.h, hl, addO_eq, Nat.zero_add, Int.toNat_natCast, decide_eq_true_eq, eq_self, true_and, and_true]
      omega
    · rw [A7v_tab]
      try simp only [addO_eq, Nat.zero_add, Int.toNat_natCast]
      rfl
  · simp only [allP, Con.h, decide_eq_false_iff_not, eq_self, true_and, and_true]
    omega
noncomputable def g7vc (vs : List AVal) (T : Tab) (zs : List Int) (ops : List Int) (X : List Int) (B : List Int) (B2 : List Int) (v : List Int) (off : Nat) (nR : Nat) (nq : Nat) (L : Nat) (e : Int) (e2 : Int) (a : Int) (cp : Option Nat) (i : Int) (nv : Nat) : Out := ⟨[.tab T [some ⟨.ints .u8 zs, 0, false, 5⟩, some ⟨.ints .i64 ops, 0, false, 50⟩, some ⟨.ints .u8 X, 2, true, 5⟩, some ⟨.agg [.slice 1 4 1 off nR none, .int .i64 e, .bool true], 0, true, 60⟩, some ⟨.ints .u8 B, 1, true, 5⟩, some ⟨.agg [.slice 1 6 1 0 nq none, .int .i64 a, .int .i64 e2], 0, true, 57⟩, some ⟨.ints .u8 B2, 1, true, 5⟩, some ⟨.ints .u8 v, 1, true, 5⟩], .val (.tuple vs) (.tuple [.slice 2 1 0 0 L cp, .var 3 0, .var 5 0, .int .i64 i, .bool true, .slice 1 7 1 0 nv none, .int .i64 0]), .eqN nv v.length, .leN v.length 140737488355000], .normal, [(1, .slice 2 1 0 0 L cp), (6, .var 3 0), (7, .var 5 0), (9, .int .i64 i), (10, .bool true)], [some ⟨.ints .u8 zs, 0, false, 5⟩, some ⟨.ints .i64 ops, 0, false, 50⟩, some ⟨.ints .u8 X, 2, true, 5⟩, some ⟨.agg [.slice 1 4 1 off nR none, .int .i64 e, .bool true], 0, true, 60⟩, some ⟨.ints .u8 B, 1, true, 5⟩, some ⟨.agg [.slice 1 6 1 0 nq none, .int .i64 a, .int .i64 e2], 0, true, 57⟩, some ⟨.ints .u8 B2, 1, true, 5⟩, some ⟨.ints .u8 (zoLaw v v.length), 1, true, 5⟩], []⟩
theorem g7vc_ok {vs : List AVal} {T : Tab} {zs : List Int} {ops : List Int} {X : List Int} {B : List Int} {B2 : List Int} {v : List Int} {off : Nat} {nR : Nat} {nq : Nat} {L : Nat} {e : Int} {e2 : Int} {a : Int} {cp : Option Nat} {i : Int} {nv : Nat} (h : Ok (g7vc vs T zs ops X B B2 v off nR nq L e e2 a cp i nv)) : To eW 137 7 (.block 5 (.loop (roundOf 5 f7))) (zipF [1,6,7,9,10,11,12] vs) T (g7vc vs T zs ops X B B2 v off nR nq L e e2 a cp i nv).ex (g7vc vs T zs ops X B B2 v off nR nq L e e2 a cp i nv).fm (g7vc vs T zs ops X B B2 v off nR nq L e e2 a cp i nv).tab := by
  obtain ⟨hT, hv, h1, h2, _⟩ := h.h
  simp only [Con.h] at hT hv h1 h2
  injection hv with hv
  subst hT hv
  subst h1
  exact To.base (by decide) (loop7v h2)
noncomputable def g7v : List AVal → Tab → Out := fun vs T => g7vc vs T (xsAt T 0) (xsAt T 1) (xsAt T 2) (xsAt T 4) (xsAt T 6) (xsAt T 7) (offOf (cAt T 3 0)) (lenOf (cAt T 3 0)) (lenOf (cAt T 5 0)) (lenOf (vAt vs 0)) (iOf (cAt T 3 1)) (iOf (cAt T 5 2)) (iOf (cAt T 5 1)) (capOf (vAt vs 0)) (iOf (vAt vs 3)) (lenOf (vAt vs 5))
theorem g7v_ok : BlkOk eW f7 5 (.loop (roundOf 5 f7)) (blkGC 7 [0,1,2,3,4,5,6,7] [1,6,7,9,10,11,12] g7v) := blkGC_ok fun vs T h => g7vc_ok h
noncomputable def orc7v : OrcL := [(5, blkGC 7 [0,1,2,3,4,5,6,7] [1,6,7,9,10,11,12] g7v)]
theorem orc7v_ok (kb : Nat) : OrcOk eW 137 ⟨kb, orc7v⟩ (roundOf 2 f7) := OrcOk.cons (fn := f7) g7v_ok (by kernel_rfl) OrcOk.nil
noncomputable def K72 (zs ops X B : List Int) (n L C off : Nat) (e : Int) (i : Nat) : Out := trim 7 7 [1,6,7,9] (run eW 137 ⟨7, orc7v⟩ 400 (roundOf 2 f7) [(1, .slice 2 1 0 0 L (some C)), (6, .var 3 0), (7, .var 5 0), (9, .int .i64 (i : Nat))] [some ⟨.ints .u8 zs, 0, false, 5⟩, some ⟨.ints .i64 ops, 0, false, 50⟩, some ⟨.ints .u8 X, 2, true, 5⟩, some ⟨.agg [.slice 1 4 1 off (B.length - off) none, .int .i64 e, .bool true], 0, true, 60⟩, some ⟨.ints .u8 B, 1, true, 5⟩, some ⟨.agg [.slice 1 6 1 0 B.length none, .int .i64 (off : Nat), .int .i64 e], 0, true, 57⟩, some ⟨.ints .u8 B, 1, true, 5⟩] [some true, some false, some false, some true, some true, some false, some false, some false])
theorem K72_ok {zs ops X B : List Int} {n L C off : Nat} {e : Int} {i : Nat} (h : allP [.p (decide ((↑i : Int) < (↑L : Int)) = true), .leI 0 (↑i : Int), .leI ((↑i : Int) + 1) (↑L : Int), .leN (addO (i * 2) 0 + 1) ops.length, .p ((ops.getD (addO (i * 2) 0) 0 == 0) = false), .p ((ops.getD (addO (i * 2) 0) 0 == 1) = false), .p ((ops.getD (addO (i * 2) 0) 0 == 2) = true), .eqN (B.length - off)
 (B.length - off), .leN off B.length, .p (ByLaw B), .leN B.length 140737488355000, .leN (0 + (rvVLaw B off e).length) (rvVLaw B off e).length, .leN (0 + (rvVLaw B off e).length) (rvVLaw B off e).length, .eqN B.length B.length, .leN off B.length, .p (ByLaw B), .leN B.length 140737488355000, .leN (0 + (rvVLaw B off e).length) (rvVLaw B off e).length, .p ((List.map byteOf (List.take (rvVLaw B off
 e).length (rvVLaw B off e)) == List.map byteOf (List.take (rvVLaw B off e).length (rvVLaw B off e))) = true), .eqN (rvVLaw B off e).length (rvVLaw B off e).length, .leN (rvVLaw B off e).length 140737488355000, .leN (rvOLaw B off e) B.length, .leN B.length 140737488355000, .p (((↑(B.length - rvOLaw B off e) : Int) != (↑(B.length - rvOLaw B off e) : Int)) = false), .p ((rvELaw B off e != rvELaw B off
 e) = false), .eqN (B.length - rvOLaw B off e) (B.length - rvOLaw B off e), .eqN B.length B.length, .leN (rvOLaw B off e) B.length, .p (ByLaw B), .leN B.length 140737488355000, .p ((reLaw B (rvOLaw B off e) (rvELaw B off e) != reLaw B (rvOLaw B off e) (rvELaw B off e)) = false), .rng (-9223372036854775808) ((↑i : Int) + 1) 9223372036854775807]) : Ok (K72 zs ops X B n L C off e i) := Ok.dem (fl :=
 bitsF 111 2547358631082533029455835695205) (by kernel_rfl) (by kernel_rfl) (by kernel_rfl) h
theorem K72_ex {zs ops X B : List Int} {n L C off : Nat} {e : Int} {i : Nat} : (K72 zs ops X B n L C off e i).ex = .normal := by kernel_rfl
theorem K72_fm {zs ops X B : List Int} {n L C off : Nat} {e : Int} {i : Nat} : (K72 zs ops X B n L C off e i).fm = [(1, .slice 2 1 0 0 L (some C)), (6, .var 3 0), (7, .var 5 0), (9, .int .i64 ((↑i : Int) + 1))] := by kernel_rfl
theorem K72_tab {zs ops X B : List Int} {n L C off : Nat} {e : Int} {i : Nat} : (K72 zs ops X B n L C off e i).tab = [some ⟨.ints .u8 zs, 0, false, 5⟩, some ⟨.ints .i64 ops, 0, false, 50⟩, some ⟨.ints .u8 X, 2, true, 5⟩, some ⟨.agg [.slice 1 4 1 (rvOLaw B off e) (B.length - rvOLaw B off e) none, .int .i64 (rvELaw B off e), .bool true], 0, true, 60⟩, some ⟨.ints .u8 B, 1, true, 5⟩, some ⟨.agg
 [.slice 1 6 1 0 B.length none, .int .i64 (↑(rvOLaw B off e) : Int), .int .i64 (rvELaw B off e)], 0, true, 57⟩, some ⟨.ints .u8 B, 1, true, 5⟩] := by kernel_rfl
end Go.Abs

set_option linter.unusedVariables false
set_option linter.unusedSimpArgs false
set_option maxRecDepth 100000
set_option maxHeartbeats 4000000
namespace Go.Abs
open Go.Proofs Go.Proofs.Try
/-! ### CodecReads: the law -/
theorem AWp.cutTG {E : Env} (hE : EnvOk E) (hm : E.P.follows .mixedOrders = true) {n k m : Nat} {f : Nat} {post : AExit → Fm → Tab → Prop} {c : Code} (j : Nat) {fm : Fm} {T : Tab} {ds : List (Option Bool)} {slots : List Nat} {o : Out} (ho : Abs.trim k m slots (runs E n ⟨k, []⟩ f (frontC j c) fm T ds) = o) (hc : Ok o) (hx : o.ex = .normal) (h : AWp E n k (backC j c) o.fm o.tab post) : AWp E n k c fm T post := by
  generalize hr : runs E n ⟨k, []⟩ f (frontC j c) fm T ds = r at ho
  obtain ⟨cs, ex, fm1, T1, ds1⟩ := r
  unfold Abs.trim at ho
  simp only at ho
  split at ho
  · rename_i g hp hb
    subst ho
    exact AWp.cut hE hm j hr ⟨hc.h⟩ hx (AWp.enter hp hb h)
  · subst ho
    exact absurd hc.h failO_no
noncomputable def c7a : Code := match backC 5 (bodyOf f7) with | .seq (.seq a _) _ => a | c => c
noncomputable def c7b : Code := match backC 5 (bodyOf f7) with | .seq _ (.seq (.seq a _) _) => a | c => c
noncomputable def c7c : Code := match backC 5 (bodyOf f7) with | .seq _ (.seq _ c) => c | c => c
theorem split7 : backC 5 (bodyOf f7) = .seq (.seq c7a (.block 0 (.loop (roundOf 0 f7)))) (.seq (.seq c7b (.block 2 (.loop (roundOf 2 f7)))) c7c) := by kernel_rfl
noncomputable def J7a (zs ops X B : List Int) (n L C off : Nat) (e : Int) : Out := trim 7 7 [1,5,6,7,8] (run eW 137 ⟨7, []⟩ 400 c7a [(1, .slice 2 1 0 0 L (some C)), (5, .slice 1 2 2 0 n none), (6, .var 3 0), (7, .var 5 0)] [some ⟨.ints .u8 zs, 0, false, 5⟩, some ⟨.ints .i64 ops, 0, false, 50⟩, some ⟨.ints .u8 X, 2, true, 5⟩, some ⟨.agg [.slice 1 4 1 off (B.length - off) none, .int .i64 e, .bool true], 0, true, 60⟩, some ⟨.ints .u8 B, 1, true, 5⟩, some ⟨.agg [.slice 1 6 1 0 B.length none, .int .i64 (off : Nat), .int .i64 e], 0, true, 57⟩, some ⟨.ints .u8 B, 1, true, 5⟩] [])
theorem J7a_ok {zs ops X B : List Int} {n L C off : Nat} {e : Int} (h : allP []) : Ok (J7a zs ops X B n L C off e) := Ok.dem (fl := []) (by kernel_rfl) (by kernel_rfl) (by kernel_rfl) h
theorem J7a_ex {zs ops X B : List Int} {n L C off : Nat} {e : Int} : (J7a zs ops X B n L C off e).ex = .normal := by kernel_rfl
theorem J7a_fm {zs ops X B : List Int} {n L C off : Nat} {e : Int} : (J7a zs ops X B n L C off e).fm = [(1, .slice 2 1 0 0 L (some C)), (5, .slice 1 2 2 0 n none), (6, .var 3 0), (7, .var 5 0), (8, .int .i64 0)] := by kernel_rfl
theorem J7a_tab {zs ops X B : List Int} {n L C off : Nat} {e : Int} : (J7a zs ops X B n L C off e).tab = [some ⟨.ints .u8 zs, 0, false, 5⟩, some ⟨.ints .i64 ops, 0, false, 50⟩, some ⟨.ints .u8 X, 2, true, 5⟩, some ⟨.agg [.slice 1 4 1 off (B.length - off) none, .int .i64 e, .bool true], 0, true, 60⟩, some ⟨.ints .u8 B, 1, true, 5⟩, some ⟨.agg [.slice 1 6 1 0 B.length none, .int .i64 (↑off : Int),
 .int .i64 e], 0, true, 57⟩, some ⟨.ints .u8 B, 1, true, 5⟩] := by kernel_rfl
noncomputable def J7b (zs ops X B : List Int) (n L C off : Nat) (e : Int) : Out := trim 7 7 [1,6,7,9] (run eW 137 ⟨7, []⟩ 400 c7b [(1, .slice 2 1 0 0 L (some C)), (6, .var 3 0), (7, .var 5 0)] [some ⟨.ints .u8 zs, 0, false, 5⟩, some ⟨.ints .i64 ops, 0, false, 50⟩, some ⟨.ints .u8 X, 2, true, 5⟩, some ⟨.agg [.slice 1 4 1 off (B.length - off) none, .int .i64 e, .bool true], 0, true, 60⟩, some ⟨.ints .u8 B, 1, true, 5⟩, some ⟨.agg [.slice 1 6 1 0 B.length none, .int .i64 (off : Nat), .int .i64 e], 0, true, 57⟩, some ⟨.ints .u8 B, 1, true, 5⟩] [])
theorem J7b_ok {zs ops X B : List Int} {n L C off : Nat} {e : Int} (h : allP []) : Ok (J7b zs ops X B n L C off e) := Ok.dem (fl := []) (by kernel_rfl) (by kernel_rfl) (by kernel_rfl) h
theorem J7b_ex {zs ops X B : List Int} {n L C off : Nat} {e : Int} : (J7b zs ops X B n L C off e).ex = .normal := by kernel_rfl
theorem J7b_fm {zs ops X B : List Int} {n L C off : Nat} {e : Int} : (J7b zs ops X B n L C off e).fm = [(1, .slice 2 1 0 0 L (some C)), (6, .var 3 0), (7, .var 5 0), (9, .int .i64 0)] := by kernel_rfl
theorem J7b_tab {zs ops X B : List Int} {n L C off : Nat} {e : Int} : (J7b zs ops X B n L C off e).tab = [some ⟨.ints .u8 zs, 0, false, 5⟩, some ⟨.ints .i64 ops, 0, false, 50⟩, some ⟨.ints .u8 X, 2, true, 5⟩, some ⟨.agg [.slice 1 4 1 off (B.length - off) none, .int .i64 e, .bool true], 0, true, 60⟩, some ⟨.ints .u8 B, 1, true, 5⟩, some ⟨.agg [.slice 1 6 1 0 B.length none, .int .i64 (↑off : Int),
 .int .i64 e], 0, true, 57⟩, some ⟨.ints .u8 B, 1, true, 5⟩] := by kernel_rfl
noncomputable def Z7 (zs ops X B : List Int) (n L C off : Nat) (e : Int) : Out := trim 2 2 [4] (run eW 137 ⟨2, []⟩ 400 c7c [(1, .slice 2 1 0 0 L (some C))] [some ⟨.ints .u8 zs, 0, false, 5⟩, some ⟨.ints .i64 ops, 0, false, 50⟩, some ⟨.ints .u8 X, 2, true, 5⟩, some ⟨.agg [.slice 1 4 1 off (B.length - off) none, .int .i64 e, .bool true], 0, true, 60⟩, some ⟨.ints .u8 B, 1, true, 5⟩, some ⟨.agg [.slice 1 6 1 0 B.length none, .int .i64 (off : Nat), .int .i64 e], 0, true, 57⟩, some ⟨.ints .u8 B, 1, true, 5⟩] [])
theorem Z7_ok {zs ops X B : List Int} {n L C off : Nat} {e : Int} (h : allP []) : Ok (Z7 zs ops X B n L C off e) := Ok.dem (fl := []) (by kernel_rfl) (by kernel_rfl) (by kernel_rfl) h
theorem Z7_ex {zs ops X B : List Int} {n L C off : Nat} {e : Int} : (Z7 zs ops X B n L C off e).ex = .ret := by kernel_rfl
theorem Z7_fm {zs ops X B : List Int} {n L C off : Nat} {e : Int} : (Z7 zs ops X B n L C off e).fm = [(4, .bool true)] := by kernel_rfl
theorem Z7_tab {zs ops X B : List Int} {n L C off : Nat} {e : Int} : (Z7 zs ops X B n L C off e).tab = [some ⟨.ints .u8 zs, 0, false, 5⟩, some ⟨.ints .i64 ops, 0, false, 50⟩] := by kernel_rfl
def stepL (B : List Int) (K N : Int) (s : Nat × Int) : Nat × Int :=
  if K = 0 then (rnOLaw B s.1 s.2 N, rnELaw B s.1 s.2 N) else if K = 1 then (rlOLaw B s.1 s.2, rlELaw B s.1 s.2) else if K = 2 then (rvOLaw B s.1 s.2, rvELaw B s.1 s.2) else (rtOLaw B s.1 s.2 N, rtELaw B s.1 s.2 N)
def stL (B ops : List Int) : Nat → Nat × Int
  | 0 => (0, 0)
  | k + 1 => stepL B (ops.getD (k * 2) 0) (ops.getD (k * 2 + 1) 0) (stL B ops k)
theorem st_off (B ops : List Int) : ∀ k, (stL B ops k).1 ≤ B.length
  | 0 => Nat.zero_le _
  | k + 1 => by
    have h := st_off B ops k
    unfold stL stepL
    split
    · exact (rn_off h _ _).2
    split
    · exact (rl_off h _).2
    split
    · exact (rv_off h _).2
    · exact (rt_off h _ _).2
theorem rtV_len {B : List Int} {off : Nat} {e m : Int} (h : off ≤ B.length) : (rtVLaw B off e m).length ≤ B.length := by
  unfold rtVLaw rtP
  split
  · exact Nat.zero_le _
  split
  · exact Nat.zero_le _
  split
  · exact Nat.zero_le _
  · show (subLaw B off m.toNat).length ≤ _
    unfold subLaw
    rw [List.length_take, List.length_drop]
    omega
theorem rvV_len {B : List Int} {off : Nat} {e : Int} (h : off ≤ B.length) : (rvVLaw B off e).length ≤ B.length := by
  unfold rvVLaw rvP
  split
  · exact Nat.zero_le _
  · exact rtV_len (rl_off h 0).2
def buLaw (X : List Int) : Nat → List Int
  | 0 => X
  | k + 1 => (buLaw X k).set k (((buLaw X k).getD k 0 + 1) % 256)
theorem bu_len (X : List Int) : ∀ k, (buLaw X k).length = X.length
  | 0 => rfl
  | k + 1 => by rw [buLaw, List.length_set, bu_len X k]
theorem loop7a {zs ops X B : List Int} {n L C off : Nat} {e : Int} (hx : n ≤ X.length) (hn : n ≤ 140737488355000) : To eW 137 7 (.block 0 (.loop (roundOf 0 f7))) [(1, .slice 2 1 0 0 L (some C)), (5, .slice 1 2 2 0 n none), (6, .var 3 0), (7, .var 5 0), (8, .int .i64 0)] [some ⟨.ints .u8 zs, 0, false, 5⟩, some ⟨.ints .i64 ops, 0, false, 50⟩, some ⟨.ints .u8 X, 2, true, 5⟩, some ⟨.agg [.slice 1 4 1 off (B.length - off) none, .int .i64 e, .bool true], 0, true, 60⟩, some ⟨.ints .u8 B, 1, true, 5⟩, some ⟨.agg [.slice 1 6 1 0 B.length none, .int .i64 (off : Nat), .int .i64 e], 0, true, 57⟩, some ⟨.ints .u8 B, 1, true, 5⟩] .normal [(1, .slice 2 1 0 0 L (some C)), (6, .var 3 0), (7, .var 5 0)] [some ⟨.ints .u8 zs, 0, false, 5⟩, some ⟨.ints .i64 ops, 0, false, 50⟩, some ⟨.ints .u8 (buLaw X n), 2, true, 5⟩, some ⟨.agg [.slice 1 4 1 off (B.length - off) none, .int .i64 e, .bool true], 0, true, 60⟩, some ⟨.ints .u8 B, 1, true, 5⟩, some ⟨.agg [.slice 1 6 1 0 B.length none, .int .i64 (off : Nat), .int .i64 e], 0, true, 57⟩, some ⟨.ints .u8 B, 1, true, 5⟩] := by
  refine To.rounds (E := eW) (n := 137) (k := 7) (id := 0) (c := roundOf 0 f7) (fun k : Nat => [(1, .slice 2 1 0 0 L (some C)), (5, .slice 1 2 2 0 n none), (6, .var 3 0), (7, .var 5 0), (8, .int .i64 (k : Nat))]) (fun k => [some ⟨.ints .u8 zs, 0, false, 5⟩, some ⟨.ints .i64 ops, 0, false, 50⟩, some ⟨.ints .u8 (buLaw X k), 2, true, 5⟩, some ⟨.agg [.slice 1 4 1 off (B.length - off) none, .int .i64 e, .bool true], 0, true, 60⟩, some ⟨.ints .u8 B, 1, true, 5⟩, some ⟨.agg [.slice 1 6 1 0 B.length none, .int .i64 (off : Nat), .int .i64 e], 0, true, 57⟩, some ⟨.ints .u8 B, 1, true, 5⟩]) n (fun k hk => ?_) (To.of (o := D7 zs ops (buLaw X n) B n L C off e (n : Nat)) eW_ok hmC (Nat.le_refl 7) OrcOk.nil rfl (D7_ok ?_) D7_ex D7_fm D7_tab)
  · have hl := bu_len X k
    refine To.of (o := A7 zs ops (buLaw X k) B n L C off e (k : Nat)) eW_ok hmC (Nat.le_refl 7) OrcOk.nil rfl (A7_ok ?_) A7_ex A7_fm ?_
    · simp only [allP, Con.h, hl, addO_eq, Nat.zero_add, Int.toNat_natCast, decide_eq_true_eq, eq_self, true_and, and_true]
      omega
    · rw [A7_tab]
      simp only [Int.toNat_natCast]
      rfl
  · simp only [allP, Con.h, decide_eq_false_iff_not, eq_self, true_and, and_true]
    omega
theorem loop7b {zs ops X B : List Int} {n L C off : Nat} {e : Int} (hb : ByLaw B) (hB : B.length ≤ 140737488355000) (ho : L * 2 ≤ ops.length) (hL : L ≤ 140737488355000) : To eW 137 7 (.block 2 (.loop (roundOf 2 f7))) [(1, .slice 2 1 0 0 L (some C)), (6, .var 3 0), (7, .var 5 0), (9, .int .i64 0)] [some ⟨.ints .u8 zs, 0, false, 5⟩, some ⟨.ints .i64 ops, 0, false, 50⟩, some ⟨.ints .u8 X, 2, true, 5⟩, some ⟨.agg [.slice 1 4 1 (stL B ops 0).1 (B.length - (stL B ops 0).1) none, .int .i64 (stL B ops 0).2, .bool true], 0, true, 60⟩, some ⟨.ints .u8 B, 1, true, 5⟩, some ⟨.agg [.slice 1 6 1 0 B.length none, .int .i64 ((stL B ops 0).1 : Nat), .int .i64 (stL B ops 0).2], 0, true, 57⟩, some ⟨.ints .u8 B, 1, true, 5⟩] .normal [(1, .slice 2 1 0 0 L (some C))] [some ⟨.ints .u8 zs, 0, false, 5⟩, some ⟨.ints .i64 ops, 0, false, 50⟩, some ⟨.ints .u8 X, 2, true, 5⟩, some ⟨.agg [.slice 1 4 1 (stL B ops L).1 (B.length - (stL B ops L).1) none, .int .i64 (stL B ops L).2, .bool true], 0, true, 60⟩, some ⟨.ints .u8 B, 1, true, 5⟩, some ⟨.agg [.slice 1 6 1 0 B.length none, .int .i64 ((stL B ops L).1 : Nat), .int .i64 (stL B ops L).2], 0, true, 57⟩, some ⟨.ints .u8 B, 1, true, 5⟩] := by
  refine To.rounds (E := eW) (n := 137) (k := 7) (id := 2) (c := roundOf 2 f7) (fun k : Nat => [(1, .slice 2 1 0 0 L (some C)), (6, .var 3 0), (7, .var 5 0), (9, .int .i64 (k : Nat))]) (fun k => [some ⟨.ints .u8 zs, 0, false, 5⟩, some ⟨.ints .i64 ops, 0, false, 50⟩, some ⟨.ints .u8 X, 2, true, 5⟩, some ⟨.agg [.slice 1 4 1 (stL B ops k).1 (B.length - (stL B ops k).1) none, .int .i64 (stL B ops k).2, .bool true], 0, true, 60⟩, some ⟨.ints .u8 B, 1, true, 5⟩, some ⟨.agg [.slice 1 6 1 0 B.length none, .int .i64 ((stL B ops k).1 : Nat), .int .i64 (stL B ops k).2], 0, true, 57⟩, some ⟨.ints .u8 B, 1, true, 5⟩]) L (fun k hk => ?_) (To.of (o := E7 zs ops X B n L C (stL B ops L).1 (stL B ops L).2 L) eW_ok hmC (Nat.le_refl 7) OrcOk.nil rfl (E7_ok ?_) E7_ex E7_fm E7_tab)
  · have hs := st_off B ops k
    have hst : stL B ops (k + 1) = stepL B (ops.getD (k * 2) 0) (ops.getD (k * 2 + 1) 0) (stL B ops k) := rfl
    show To eW 137 7 (roundOf 2 f7) [(1, .slice 2 1 0 0 L (some C)), (6, .var 3 0), (7, .var 5 0), (9, .int .i64 (k : Nat))] [some ⟨.ints .u8 zs, 0, false, 5⟩, some ⟨.ints .i64 ops, 0, false, 50⟩, some ⟨.ints .u8 X, 2, true, 5⟩, some ⟨.agg [.slice 1 4 1 (stL B ops k).1 (B.length - (stL B ops k).1) none, .int .i64 (stL B ops k).2, .bool true], 0, true, 60⟩, some ⟨.ints .u8 B, 1, true, 5⟩, some ⟨.agg [.slice 1 6 1 0 B.length none, .int .i64 ((stL B ops k).1 : Nat), .int .i64 (stL B ops k).2], 0, true, 57⟩, some ⟨.ints .u8 B, 1, true, 5⟩] .normal [(1, .slice 2 1 0 0 L (some C)), (6, .var 3 0), (7, .var 5 0), (9, .int .i64 ((k + 1 : Nat) : Int))] [some ⟨.ints .u8 zs, 0, false, 5⟩, some ⟨.ints .i64 ops, 0, false, 50⟩, some ⟨.ints .u8 X, 2, true, 5⟩, some ⟨.agg [.slice 1 4 1 (stL B ops (k + 1)).1 (B.length - (stL B ops (k + 1)).1) none, .int .i64 (stL B ops (k + 1)).2, .bool true], 0, true, 60⟩, some ⟨.ints .u8 B, 1, true, 5⟩, some ⟨.agg [.slice 1 6 1 0 B.length none, .int .i64 ((stL B ops (k + 1)).1 : Nat), .int .i64 (stL B ops (k + 1)).2], 0, true, 57⟩, some ⟨.ints .u8 B, 1, true, 5⟩]
    rw [hst]
    generalize stL B ops k = s at hs ⊢
    obtain ⟨off, e⟩ := s
    simp only at hs
    unfold stepL
    by_cases h0 : ops.getD (k * 2) 0 = 0
    · rw [if_pos h0]
      have hq := (rn_off hs e (ops.getD (k * 2 + 1) 0)).2
      refine To.of (o := K70 zs ops X B n L C off e k) eW_ok hmC (Nat.le_refl 7) OrcOk.nil rfl (K70_ok ?_) K70_ex K70_fm (by rw [K70_tab]; simp only [addO_eq])
      simp only [allP, Con.h, addO_eq, Nat.add_zero, h0, hb, hs, hq, hB, beq_self_eq_true, bne_self_eq_false, Nat.le_refl, decide_eq_true_eq, eq_self, true_and, and_true]
      omega
    rw [if_neg h0]
    have q0 : (ops.getD (k * 2) 0 == 0) = false := beq_eq_false_iff_ne.2 h0
    by_cases h1 : ops.getD (k * 2) 0 = 1
    · rw [if_pos h1]
      have hq := (rl_off hs e).2
      refine To.of (o := K71 zs ops X B n L C off e k) eW_ok hmC (Nat.le_refl 7) OrcOk.nil rfl (K71_ok ?_) K71_ex K71_fm K71_tab
      simp only [allP, Con.h, addO_eq, Nat.add_zero, q0, h1, show ((1 : Int) == 0) = false from rfl, hb, hs, hq, hB, beq_self_eq_true, bne_self_eq_false, Nat.le_refl, decide_eq_true_eq, eq_self, true_and, and_true]
      omega
    rw [if_neg h1]
    have q1 : (ops.getD (k * 2) 0 == 1) = false := beq_eq_false_iff_ne.2 h1
    by_cases h2 : ops.getD (k * 2) 0 = 2
    · rw [if_pos h2]
      have hq := (rv_off hs e).2
      have hv := rvV_len (e := e) hs
      refine To.of (o := K72 zs ops X B n L C off e k) eW_ok hmC (Nat.le_refl 7) (orc7v_ok 7) rfl (K72_ok ?_) K72_ex K72_fm K72_tab
      simp only [allP, Con.h, addO_eq, Nat.add_zero, Nat.zero_add, q0, q1, h2, show ((2 : Int) == 0) = false from rfl, show ((2 : Int) == 1) = false from rfl, hb, hs, hq, hB, beq_self_eq_true, bne_self_eq_false, Nat.le_refl, decide_eq_true_eq, eq_self, true_and, and_true]
      omega
    · rw [if_neg h2]
      have q2 : (ops.getD (k * 2) 0 == 2) = false := beq_eq_false_iff_ne.2 h2
      have hq := (rt_off hs e (ops.getD (k * 2 + 1) 0)).2
      refine To.of (o := K73 zs ops X B n L C off e k) eW_ok hmC (Nat.le_refl 7) OrcOk.nil rfl (K73_ok ?_) K73_ex K73_fm (by rw [K73_tab]; simp only [addO_eq])
      simp only [allP, Con.h, addO_eq, Nat.add_zero, Nat.zero_add, q0, q1, q2, hb, hs, hq, hB, beq_self_eq_true, bne_self_eq_false, Nat.le_refl, decide_eq_true_eq, eq_self, true_and, and_true]
      omega
  · simp only [allP, Con.h, decide_eq_false_iff_not, eq_self, true_and, and_true]
    omega
theorem law7 {zs ops : List Int} {n L C : Nat} (hn : n ≤ zs.length) (hz : ∀ z ∈ zs, 0 ≤ z ∧ z < 256) (hk : zs.length ≤ 140737488351232) (ho : L * 2 ≤ ops.length) (hL : L ≤ 140737488355000) :
    Small prog (fun _ => none) 7 [.slice 1 0 0 0 n (some zs.length), .slice 2 1 0 0 L (some C)] [some ⟨.ints .u8 zs, 0, false, 5⟩, some ⟨.ints .i64 ops, 0, false, 50⟩] (.bool true) [some ⟨.ints .u8 zs, 0, false, 5⟩, some ⟨.ints .i64 ops, 0, false, 50⟩] := by
  have hl : (subLaw zs 0 n).length = n := subLaw_len (by omega)
  have hB : (subLaw zs 0 n).length ≤ 140737488355000 := by omega
  have hb : ByLaw (subLaw zs 0 n) := fun i => by
    unfold subLaw
    rw [List.drop_zero, List.getD_eq_getElem?_getD]
    rcases Nat.lt_or_ge i (List.take n zs).length with h | h
    · rw [List.getElem?_eq_getElem h]
      exact hz _ (List.mem_of_mem_take (List.getElem_mem h))
    · rw [List.getElem?_eq_none h]
      exact ⟨Int.le_refl 0, by decide⟩
  have hs : subLaw (subLaw zs 0 n ++ [201, 202]) 0 n = (subLaw zs 0 n) := by
    unfold subLaw
    rw [List.drop_zero, List.drop_zero, List.take_append_of_le_length (by rw [List.length_take]; omega), List.take_take, Nat.min_self]
  refine small_of_awp eW_ok (f := 7) (fn := f7) (c := bodyOf f7) (by kernel_rfl) (by kernel_rfl) (by kernel_rfl) ?_
  show AWp eW 137 2 (bodyOf f7) [(0, .slice 1 0 0 0 n (some zs.length)), (1, .slice 2 1 0 0 L (some C))] [some ⟨.ints .u8 zs, 0, false, 5⟩, some ⟨.ints .i64 ops, 0, false, 50⟩] _
  refine AWp.cutTG eW_ok hmC (m := 7) 5 (o := N7 zs ops n L C) rfl (N7_ok ?_) N7_ex ?_
  · simp only [allP, Con.h, List.length_append, hl, List.length_cons, List.length_nil, and_true]
    omega
  rw [split7, N7_fm, N7_tab, hs]
  have e0 : (n : Nat) = (subLaw zs 0 n).length - 0 := by omega
  show AWp eW 137 2 _ [(1, .slice 2 1 0 0 L (some C)), (5, .slice 1 2 2 0 n none), (6, .var 3 0), (7, .var 5 0)] [some ⟨.ints .u8 zs, 0, false, 5⟩, some ⟨.ints .i64 ops, 0, false, 50⟩, some ⟨.ints .u8 (subLaw zs 0 n ++ [201, 202]), 2, true, 5⟩, some ⟨.agg [.slice 1 4 1 0 n none, .int .i64 0, .bool true], 0, true, 60⟩, some ⟨.ints .u8 (subLaw zs 0 n), 1, true, 5⟩, some ⟨.agg [.slice 1 6 1 0 n none, .int .i64 ((0 : Nat) : Int), .int .i64 0], 0, true, 57⟩, some ⟨.ints .u8 (subLaw zs 0 n), 1, true, 5⟩] _
  have start : ([some ⟨.ints .u8 zs, 0, false, 5⟩, some ⟨.ints .i64 ops, 0, false, 50⟩, some ⟨.ints .u8 (subLaw zs 0 n ++ [201, 202]), 2, true, 5⟩, some ⟨.agg [.slice 1 4 1 0 n none, .int .i64 0, .bool true], 0, true, 60⟩, some ⟨.ints .u8 (subLaw zs 0 n), 1, true, 5⟩, some ⟨.agg [.slice 1 6 1 0 n none, .int .i64 ((0 : Nat) : Int), .int .i64 0], 0, true, 57⟩, some ⟨.ints .u8 (subLaw zs 0 n), 1, true, 5⟩] : Tab) = [some ⟨.ints .u8 zs, 0, false, 5⟩, some ⟨.ints .i64 ops, 0, false, 50⟩, some ⟨.ints .u8 (subLaw zs 0 n ++ [201, 202]), 2, true, 5⟩, some ⟨.agg [.slice 1 4 1 0 ((subLaw zs 0 n).length - 0) none, .int .i64 0, .bool true], 0, true, 60⟩, some ⟨.ints .u8 (subLaw zs 0 n), 1, true, 5⟩, some ⟨.agg [.slice 1 6 1 0 (subLaw zs 0 n).length none, .int .i64 ((0 : Nat) : Int), .int .i64 0], 0, true, 57⟩, some ⟨.ints .u8 (subLaw zs 0 n), 1, true, 5⟩] := by rw [Nat.sub_zero, hl]
  rw [start]
  refine AWp.seq (AWp.seq (AWp.mono (To.base (by decide) (To.of (o := J7a zs ops (subLaw zs 0 n ++ [201, 202]) (subLaw zs 0 n) n L C 0 0) eW_ok hmC (Nat.le_refl 7) OrcOk.nil rfl (J7a_ok trivial) J7a_ex J7a_fm J7a_tab)) fun ex fm T hP => ?_))
  obtain ⟨rfl, rfl, rfl⟩ := hP
  refine AWp.mono (To.base (by decide) (loop7a (by rw [List.length_append, hl]; omega) (by omega))) fun ex fm T hP => ?_
  obtain ⟨rfl, rfl, rfl⟩ := hP
  refine AWp.seq (AWp.seq (AWp.mono (To.base (by decide) (To.of (o := J7b zs ops (buLaw (subLaw zs 0 n ++ [201, 202]) n) (subLaw zs 0 n) n L C 0 0) eW_ok hmC (Nat.le_refl 7) OrcOk.nil rfl (J7b_ok trivial) J7b_ex J7b_fm J7b_tab)) fun ex fm T hP => ?_))
  obtain ⟨rfl, rfl, rfl⟩ := hP
  refine AWp.mono (To.base (by decide) (loop7b (ops := ops) (n := n) (off := 0) (e := 0) (C := C) hb hB ho hL)) fun ex fm T hP => ?_
  obtain ⟨rfl, rfl, rfl⟩ := hP
  refine AWp.mono (To.of (o := Z7 zs ops (buLaw (subLaw zs 0 n ++ [201, 202]) n) (subLaw zs 0 n) n L C (stL (subLaw zs 0 n) ops L).1 (stL (subLaw zs 0 n) ops L).2) eW_ok hmC (Nat.le_refl 2) OrcOk.nil rfl (Z7_ok trivial) Z7_ex Z7_fm Z7_tab) fun ex fm T hP => ?_
  obtain ⟨rfl, rfl, rfl⟩ := hP
  exact ⟨.inr rfl, rfl, [], [.bool true], rfl, trivial, rfl⟩
end Go.Abs
