/- What functions of the given program come to, by the abstract machine: one text of a proof. -/
import Derived.Test.YtlnflmjgnmljeaaBC10
set_option linter.unusedVariables false
set_option linter.unusedSimpArgs false
set_option maxRecDepth 8000
namespace Go.Abs
/-! ### the way back -/
theorem ixor_assoc (a b c : Int) : ixor (ixor a b) c = ixor a (ixor b c) := by simp [ixor, Nat.xor_assoc]
theorem ixor_self (a : Int) : ixor a a = 0 := by simp [ixor]
theorem ixor_nonneg (a b : Int) : 0 ≤ ixor a b := by unfold ixor; omega
theorem zero_ixor {a : Int} (h : 0 ≤ a) : ixor 0 a = a := by simp only [ixor, Int.toNat_zero, Nat.zero_xor, Int.toNat_of_nonneg h]
theorem ixor_zero {a : Int} (h : 0 ≤ a) : ixor a 0 = a := by simp only [ixor, Int.toNat_zero, Nat.xor_zero, Int.toNat_of_nonneg h]
theorem zero_ixor2 (a b : Int) : ixor 0 (ixor a b) = ixor a b := zero_ixor (ixor_nonneg _ _)
instance : Std.Associative ixor := ⟨ixor_assoc⟩
instance : Std.Commutative ixor := ⟨ixor_comm⟩
theorem ixor_back {a k : Int} (h : 0 ≤ a) : ixor (ixor a k) k = a := by rw [ixor_assoc, ixor_self, ixor_zero h]
theorem dbl_lin {x y : Int} (hx : 0 ≤ x ∧ x < 256) (hy : 0 ≤ y ∧ y < 256) : dblLaw (ixor x y) = ixor (dblLaw x) (dblLaw y) := by
  obtain ⟨n, rfl⟩ := Int.eq_ofNat_of_zero_le hx.1
  obtain ⟨m, rfl⟩ := Int.eq_ofNat_of_zero_le hy.1
  have h1 := List.all_eq_true.1 dbl_lin_tab n (List.mem_range.2 (by omega))
  have h2 := List.all_eq_true.1 h1 m (List.mem_range.2 (by omega))
  simpa using h2
/-- what is linear -/
structure Lin (f : Int → Int) : Prop where
  rng : ∀ {x}, 0 ≤ x ∧ x < 256 → 0 ≤ f x ∧ f x < 256
  lin : ∀ {x y}, 0 ≤ x ∧ x < 256 → 0 ≤ y ∧ y < 256 → f (ixor x y) = ixor (f x) (f y)
theorem Lin.id : Lin fun x => x := ⟨fun h => h, fun _ _ => rfl⟩
theorem Lin.dbl {f : Int → Int} (h : Lin f) : Lin fun x => dblLaw (f x) := ⟨fun _ => dblLaw_lt, fun hx hy => by rw [h.lin hx hy, dbl_lin (h.rng hx) (h.rng hy)]⟩
theorem ixor_4 (a b c d : Int) : ixor (ixor a b) (ixor c d) = ixor (ixor a c) (ixor b d) := by ac_rfl
theorem Lin.xor {f g : Int → Int} (h : Lin f) (k : Lin g) : Lin fun x => ixor (f x) (g x) := ⟨fun hx => ixor_lt8 (h.rng hx) (k.rng hx), fun hx hy => by rw [h.lin hx hy, k.lin hx hy, ixor_4]⟩
theorem Lin.of {f g : Int → Int} (h : Lin f) (e : ∀ x, 0 ≤ x ∧ x < 256 → g x = f x) : Lin g := ⟨fun hx => by rw [e _ hx]; exact h.rng hx, fun hx hy => by rw [e _ hx, e _ hy, e _ (ixor_lt8 hx hy)]; exact h.lin hx hy⟩
theorem lin_1 : Lin (timesLaw 1) := Lin.of Lin.id fun x hx => by rw [times_1 x hx, zero_ixor hx.1]
theorem lin_2 : Lin (timesLaw 2) := Lin.of Lin.id.dbl fun x hx => by rw [times_2 x hx, zero_ixor dblLaw_lt.1]
theorem lin_3 : Lin (timesLaw 3) := Lin.of (Lin.id.xor Lin.id.dbl) fun x hx => by rw [times_3 x hx, zero_ixor hx.1]
theorem lin_9 : Lin (timesLaw 9) := Lin.of (Lin.id.xor Lin.id.dbl.dbl.dbl) fun x hx => by rw [times_9 x hx, zero_ixor hx.1]
theorem lin_11 : Lin (timesLaw 11) := Lin.of ((Lin.id.xor Lin.id.dbl).xor Lin.id.dbl.dbl.dbl) fun x hx => by rw [times_11 x hx, zero_ixor hx.1]
theorem lin_13 : Lin (timesLaw 13) := Lin.of ((Lin.id.xor Lin.id.dbl.dbl).xor Lin.id.dbl.dbl.dbl) fun x hx => by rw [times_13 x hx, zero_ixor hx.1]
theorem lin_14 : Lin (timesLaw 14) := Lin.of ((Lin.id.dbl.xor Lin.id.dbl.dbl).xor Lin.id.dbl.dbl.dbl) fun x hx => by rw [times_14 x hx, zero_ixor dblLaw_lt.1]
/-- one byte of a column, from four -/
def rowLaw (p q r s a b c d : Int) : Int := ixor (ixor (ixor (ixor 0 (timesLaw p a)) (timesLaw q b)) (timesLaw r c)) (timesLaw s d)
theorem Lin.four {f : Int → Int} (h : Lin f) {w x y z : Int} (hw : 0 ≤ w ∧ w < 256) (hx : 0 ≤ x ∧ x < 256) (hy : 0 ≤ y ∧ y < 256) (hz : 0 ≤ z ∧ z < 256) : f (ixor (ixor (ixor (ixor 0 w) x) y) z) = ixor (ixor (ixor (f w) (f x)) (f y)) (f z) := by
  rw [zero_ixor hw.1, h.lin (ixor_lt8 (ixor_lt8 hw hx) hy) hz, h.lin (ixor_lt8 hw hx) hy, h.lin hw hx]
def sumLaw (p q r s p1 p2 p3 p4 x : Int) : Int := ixor (ixor (ixor (timesLaw p (timesLaw p1 x)) (timesLaw q (timesLaw p2 x))) (timesLaw r (timesLaw p3 x))) (timesLaw s (timesLaw p4 x))
theorem row_row {p q r s p1 q1 r1 s1 p2 q2 r2 s2 p3 q3 r3 s3 p4 q4 r4 s4 : Int} (hp : Lin (timesLaw p)) (hq : Lin (timesLaw q)) (hr : Lin (timesLaw r)) (hs : Lin (timesLaw s))
    (h1 : Lin (timesLaw p1)) (h2 : Lin (timesLaw q1)) (h3 : Lin (timesLaw r1)) (h4 : Lin (timesLaw s1)) (i1 : Lin (timesLaw p2)) (i2 : Lin (timesLaw q2)) (i3 : Lin (timesLaw r2)) (i4 : Lin (timesLaw s2))
    (j1 : Lin (timesLaw p3)) (j2 : Lin (timesLaw q3)) (j3 : Lin (timesLaw r3)) (j4 : Lin (timesLaw s3)) (k1 : Lin (timesLaw p4)) (k2 : Lin (timesLaw q4)) (k3 : Lin (timesLaw r4)) (k4 : Lin (timesLaw s4))
    {a b c d : Int} (ha : 0 ≤ a ∧ a < 256) (hb : 0 ≤ b ∧ b < 256) (hc : 0 ≤ c ∧ c < 256) (hd : 0 ≤ d ∧ d < 256) :
    rowLaw p q r s (rowLaw p1 q1 r1 s1 a b c d) (rowLaw p2 q2 r2 s2 a b c d) (rowLaw p3 q3 r3 s3 a b c d) (rowLaw p4 q4 r4 s4 a b c d) =
      ixor (ixor (ixor (sumLaw p q r s p1 p2 p3 p4 a) (sumLaw p q r s q1 q2 q3 q4 b)) (sumLaw p q r s r1 r2 r3 r4 c)) (sumLaw p q r s s1 s2 s3 s4 d) := by
  unfold rowLaw sumLaw
  rw [hp.four (h1.rng ha) (h2.rng hb) (h3.rng hc) (h4.rng hd), hq.four (i1.rng ha) (i2.rng hb) (i3.rng hc) (i4.rng hd), hr.four (j1.rng ha) (j2.rng hb) (j3.rng hc) (j4.rng hd), hs.four (k1.rng ha) (k2.rng hb) (k3.rng hc) (k4.rng hd), zero_ixor2]
  ac_rfl
theorem sum_tab {f : Int → Int} {v : Int → Int} (h : ((List.range 256).all fun n : Nat => f n == v n) = true) {x : Int} (hx : 0 ≤ x ∧ x < 256) : f x = v x := by
  obtain ⟨n, rfl⟩ := Int.eq_ofNat_of_zero_le hx.1
  simpa using List.all_eq_true.1 h n (List.mem_range.2 (by omega))
theorem zero_zero : ixor 0 0 = 0 := rfl
theorem unmix_mix_0 {a b c d : Int} (ha : 0 ≤ a ∧ a < 256) (hb : 0 ≤ b ∧ b < 256) (hc : 0 ≤ c ∧ c < 256) (hd : 0 ≤ d ∧ d < 256) : rowLaw 14 11 13 9 (rowLaw 2 3 1 1 a b c d) (rowLaw 1 2 3 1 a b c d) (rowLaw 1 1 2 3 a b c d) (rowLaw 3 1 1 2 a b c d) = a := by
  rw [row_row lin_14 lin_11 lin_13 lin_9 lin_2 lin_3 lin_1 lin_1 lin_1 lin_2 lin_3 lin_1 lin_1 lin_1 lin_2 lin_3 lin_3 lin_1 lin_1 lin_2 ha hb hc hd]
  rw [sum_tab (f := sumLaw 14 11 13 9 2 1 1 3) (v := fun x => x) (by kernel_rfl) ha]
  rw [sum_tab (f := sumLaw 14 11 13 9 3 2 1 1) (v := fun x => 0) (by kernel_rfl) hb]
  rw [sum_tab (f := sumLaw 14 11 13 9 1 3 2 1) (v := fun x => 0) (by kernel_rfl) hc]
  rw [sum_tab (f := sumLaw 14 11 13 9 1 1 3 2) (v := fun x => 0) (by kernel_rfl) hd]
  simp only [ixor_zero ha.1, zero_ixor ha.1, ixor_self, zero_zero]
theorem unmix_mix_1 {a b c d : Int} (ha : 0 ≤ a ∧ a < 256) (hb : 0 ≤ b ∧ b < 256) (hc : 0 ≤ c ∧ c < 256) (hd : 0 ≤ d ∧ d < 256) : rowLaw 9 14 11 13 (rowLaw 2 3 1 1 a b c d) (rowLaw 1 2 3 1 a b c d) (rowLaw 1 1 2 3 a b c d) (rowLaw 3 1 1 2 a b c d) = b := by
  rw [row_row lin_9 lin_14 lin_11 lin_13 lin_2 lin_3 lin_1 lin_1 lin_1 lin_2 lin_3 lin_1 lin_1 lin_1 lin_2 lin_3 lin_3 lin_1 lin_1 lin_2 ha hb hc hd]
  rw [sum_tab (f := sumLaw 9 14 11 13 2 1 1 3) (v := fun x => 0) (by kernel_rfl) ha]
  rw [sum_tab (f := sumLaw 9 14 11 13 3 2 1 1) (v := fun x => x) (by kernel_rfl) hb]
  rw [sum_tab (f := sumLaw 9 14 11 13 1 3 2 1) (v := fun x => 0) (by kernel_rfl) hc]
  rw [sum_tab (f := sumLaw 9 14 11 13 1 1 3 2) (v := fun x => 0) (by kernel_rfl) hd]
  simp only [ixor_zero hb.1, zero_ixor hb.1, ixor_self, zero_zero]
theorem unmix_mix_2 {a b c d : Int} (ha : 0 ≤ a ∧ a < 256) (hb : 0 ≤ b ∧ b < 256) (hc : 0 ≤ c ∧ c < 256) (hd : 0 ≤ d ∧ d < 256) : rowLaw 13 9 14 11 (rowLaw 2 3 1 1 a b c d) (rowLaw 1 2 3 1 a b c d) (rowLaw 1 1 2 3 a b c d) (rowLaw 3 1 1 2 a b c d) = c := by
  rw [row_row lin_13 lin_9 lin_14 lin_11 lin_2 lin_3 lin_1 lin_1 lin_1 lin_2 lin_3 lin_1 lin_1 lin_1 lin_2 lin_3 lin_3 lin_1 lin_1 lin_2 ha hb hc hd]
  rw [sum_tab (f := sumLaw 13 9 14 11 2 1 1 3) (v := fun x => 0) (by kernel_rfl) ha]
  rw [sum_tab (f := sumLaw 13 9 14 11 3 2 1 1) (v := fun x => 0) (by kernel_rfl) hb]
  rw [sum_tab (f := sumLaw 13 9 14 11 1 3 2 1) (v := fun x => x) (by kernel_rfl) hc]
  rw [sum_tab (f := sumLaw 13 9 14 11 1 1 3 2) (v := fun x => 0) (by kernel_rfl) hd]
  simp only [ixor_zero hc.1, zero_ixor hc.1, ixor_self, zero_zero]
theorem unmix_mix_3 {a b c d : Int} (ha : 0 ≤ a ∧ a < 256) (hb : 0 ≤ b ∧ b < 256) (hc : 0 ≤ c ∧ c < 256) (hd : 0 ≤ d ∧ d < 256) : rowLaw 11 13 9 14 (rowLaw 2 3 1 1 a b c d) (rowLaw 1 2 3 1 a b c d) (rowLaw 1 1 2 3 a b c d) (rowLaw 3 1 1 2 a b c d) = d := by
  rw [row_row lin_11 lin_13 lin_9 lin_14 lin_2 lin_3 lin_1 lin_1 lin_1 lin_2 lin_3 lin_1 lin_1 lin_1 lin_2 lin_3 lin_3 lin_1 lin_1 lin_2 ha hb hc hd]
  rw [sum_tab (f := sumLaw 11 13 9 14 2 1 1 3) (v := fun x => 0) (by kernel_rfl) ha]
  rw [sum_tab (f := sumLaw 11 13 9 14 3 2 1 1) (v := fun x => 0) (by kernel_rfl) hb]
  rw [sum_tab (f := sumLaw 11 13 9 14 1 3 2 1) (v := fun x => 0) (by kernel_rfl) hc]
  rw [sum_tab (f := sumLaw 11 13 9 14 1 1 3 2) (v := fun x => x) (by kernel_rfl) hd]
  simp only [ixor_zero hd.1, zero_ixor hd.1, ixor_self, zero_zero]
theorem mix_unmix_0 {a b c d : Int} (ha : 0 ≤ a ∧ a < 256) (hb : 0 ≤ b ∧ b < 256) (hc : 0 ≤ c ∧ c < 256) (hd : 0 ≤ d ∧ d < 256) : rowLaw 2 3 1 1 (rowLaw 14 11 13 9 a b c d) (rowLaw 9 14 11 13 a b c d) (rowLaw 13 9 14 11 a b c d) (rowLaw 11 13 9 14 a b c d) = a := by
  rw [row_row lin_2 lin_3 lin_1 lin_1 lin_14 lin_11 lin_13 lin_9 lin_9 lin_14 lin_11 lin_13 lin_13 lin_9 lin_14 lin_11 lin_11 lin_13 lin_9 lin_14 ha hb hc hd]
  rw [sum_tab (f := sumLaw 2 3 1 1 14 9 13 11) (v := fun x => x) (by kernel_rfl) ha]
  rw [sum_tab (f := sumLaw 2 3 1 1 11 14 9 13) (v := fun x => 0) (by kernel_rfl) hb]
  rw [sum_tab (f := sumLaw 2 3 1 1 13 11 14 9) (v := fun x => 0) (by kernel_rfl) hc]
  rw [sum_tab (f := sumLaw 2 3 1 1 9 13 11 14) (v := fun x => 0) (by kernel_rfl) hd]
  simp only [ixor_zero ha.1, zero_ixor ha.1, ixor_self, zero_zero]
theorem mix_unmix_1 {a b c d : Int} (ha : 0 ≤ a ∧ a < 256) (hb : 0 ≤ b ∧ b < 256) (hc : 0 ≤ c ∧ c < 256) (hd : 0 ≤ d ∧ d < 256) : rowLaw 1 2 3 1 (rowLaw 14 11 13 9 a b c d) (rowLaw 9 14 11 13 a b c d) (rowLaw 13 9 14 11 a b c d) (rowLaw 11 13 9 14 a b c d) = b := by
  rw [row_row lin_1 lin_2 lin_3 lin_1 lin_14 lin_11 lin_13 lin_9 lin_9 lin_14 lin_11 lin_13 lin_13 lin_9 lin_14 lin_11 lin_11 lin_13 lin_9 lin_14 ha hb hc hd]
  rw [sum_tab (f := sumLaw 1 2 3 1 14 9 13 11) (v := fun x => 0) (by kernel_rfl) ha]
  rw [sum_tab (f := sumLaw 1 2 3 1 11 14 9 13) (v := fun x => x) (by kernel_rfl) hb]
  rw [sum_tab (f := sumLaw 1 2 3 1 13 11 14 9) (v := fun x => 0) (by kernel_rfl) hc]
  rw [sum_tab (f := sumLaw 1 2 3 1 9 13 11 14) (v := fun x => 0) (by kernel_rfl) hd]
  simp only [ixor_zero hb.1, zero_ixor hb.1, ixor_self, zero_zero]
theorem mix_unmix_2 {a b c d : Int} (ha : 0 ≤ a ∧ a < 256) (hb : 0 ≤ b ∧ b < 256) (hc : 0 ≤ c ∧ c < 256) (hd : 0 ≤ d ∧ d < 256) : rowLaw 1 1 2 3 (rowLaw 14 11 13 9 a b c d) (rowLaw 9 14 11 13 a b c d) (rowLaw 13 9 14 11 a b c d) (rowLaw 11 13 9 14 a b c d) = c := by
  rw [row_row lin_1 lin_1 lin_2 lin_3 lin_14 lin_11 lin_13 lin_9 lin_9 lin_14 lin_11 lin_13 lin_13 lin_9 lin_14 lin_11 lin_11 lin_13 lin_9 lin_14 ha hb hc hd]
  rw [sum_tab (f := sumLaw 1 1 2 3 14 9 13 11) (v := fun x => 0) (by kernel_rfl) ha]
  rw [sum_tab (f := sumLaw 1 1 2 3 11 14 9 13) (v := fun x => 0) (by kernel_rfl) hb]
  rw [sum_tab (f := sumLaw 1 1 2 3 13 11 14 9) (v := fun x => x) (by kernel_rfl) hc]
  rw [sum_tab (f := sumLaw 1 1 2 3 9 13 11 14) (v := fun x => 0) (by kernel_rfl) hd]
  simp only [ixor_zero hc.1, zero_ixor hc.1, ixor_self, zero_zero]
theorem mix_unmix_3 {a b c d : Int} (ha : 0 ≤ a ∧ a < 256) (hb : 0 ≤ b ∧ b < 256) (hc : 0 ≤ c ∧ c < 256) (hd : 0 ≤ d ∧ d < 256) : rowLaw 3 1 1 2 (rowLaw 14 11 13 9 a b c d) (rowLaw 9 14 11 13 a b c d) (rowLaw 13 9 14 11 a b c d) (rowLaw 11 13 9 14 a b c d) = d := by
  rw [row_row lin_3 lin_1 lin_1 lin_2 lin_14 lin_11 lin_13 lin_9 lin_9 lin_14 lin_11 lin_13 lin_13 lin_9 lin_14 lin_11 lin_11 lin_13 lin_9 lin_14 ha hb hc hd]
  rw [sum_tab (f := sumLaw 3 1 1 2 14 9 13 11) (v := fun x => 0) (by kernel_rfl) ha]
  rw [sum_tab (f := sumLaw 3 1 1 2 11 14 9 13) (v := fun x => 0) (by kernel_rfl) hb]
  rw [sum_tab (f := sumLaw 3 1 1 2 13 11 14 9) (v := fun x => 0) (by kernel_rfl) hc]
  rw [sum_tab (f := sumLaw 3 1 1 2 9 13 11 14) (v := fun x => x) (by kernel_rfl) hd]
  simp only [ixor_zero hd.1, zero_ixor hd.1, ixor_self, zero_zero]
theorem unmix_mix {s : List Int} (hl : s.length = 16) (hb : Bytes s) : unmixLaw (mixLaw s) = s := by
  obtain ⟨a0, a1, a2, a3, a4, a5, a6, a7, a8, a9, a10, a11, a12, a13, a14, a15, rfl⟩ := list16 hl
  have p0 : 0 ≤ a0 ∧ a0 < 256 := hb.get 0
  have p1 : 0 ≤ a1 ∧ a1 < 256 := hb.get 1
  have p2 : 0 ≤ a2 ∧ a2 < 256 := hb.get 2
  have p3 : 0 ≤ a3 ∧ a3 < 256 := hb.get 3
  have p4 : 0 ≤ a4 ∧ a4 < 256 := hb.get 4
  have p5 : 0 ≤ a5 ∧ a5 < 256 := hb.get 5
  have p6 : 0 ≤ a6 ∧ a6 < 256 := hb.get 6
  have p7 : 0 ≤ a7 ∧ a7 < 256 := hb.get 7
  have p8 : 0 ≤ a8 ∧ a8 < 256 := hb.get 8
  have p9 : 0 ≤ a9 ∧ a9 < 256 := hb.get 9
  have p10 : 0 ≤ a10 ∧ a10 < 256 := hb.get 10
  have p11 : 0 ≤ a11 ∧ a11 < 256 := hb.get 11
  have p12 : 0 ≤ a12 ∧ a12 < 256 := hb.get 12
  have p13 : 0 ≤ a13 ∧ a13 < 256 := hb.get 13
  have p14 : 0 ≤ a14 ∧ a14 < 256 := hb.get 14
  have p15 : 0 ≤ a15 ∧ a15 < 256 := hb.get 15
  exact congr16 (unmix_mix_0 p0 p1 p2 p3) (unmix_mix_1 p0 p1 p2 p3) (unmix_mix_2 p0 p1 p2 p3) (unmix_mix_3 p0 p1 p2 p3) (unmix_mix_0 p4 p5 p6 p7) (unmix_mix_1 p4 p5 p6 p7) (unmix_mix_2 p4 p5 p6 p7) (unmix_mix_3 p4 p5 p6 p7) (unmix_mix_0 p8 p9 p10 p11) (unmix_mix_1 p8 p9 p10 p11) (unmix_mix_2 p8 p9 p10 p11) (unmix_mix_3 p8 p9 p10 p11) (unmix_mix_0 p12 p13 p14 p15) (unmix_mix_1 p12 p13 p14 p15) (unmix_mix_2 p12 p13 p14 p15) (unmix_mix_3 p12 p13 p14 p15)
theorem mix_unmix {s : List Int} (hl : s.length = 16) (hb : Bytes s) : mixLaw (unmixLaw s) = s := by
  obtain ⟨a0, a1, a2, a3, a4, a5, a6, a7, a8, a9, a10, a11, a12, a13, a14, a15, rfl⟩ := list16 hl
  have p0 : 0 ≤ a0 ∧ a0 < 256 := hb.get 0
  have p1 : 0 ≤ a1 ∧ a1 < 256 := hb.get 1
  have p2 : 0 ≤ a2 ∧ a2 < 256 := hb.get 2
  have p3 : 0 ≤ a3 ∧ a3 < 256 := hb.get 3
  have p4 : 0 ≤ a4 ∧ a4 < 256 := hb.get 4
  have p5 : 0 ≤ a5 ∧ a5 < 256 := hb.get 5
  have p6 : 0 ≤ a6 ∧ a6 < 256 := hb.get 6
  have p7 : 0 ≤ a7 ∧ a7 < 256 := hb.get 7
  have p8 : 0 ≤ a8 ∧ a8 < 256 := hb.get 8
  have p9 : 0 ≤ a9 ∧ a9 < 256 := hb.get 9
  have p10 : 0 ≤ a10 ∧ a10 < 256 := hb.get 10
  have p11 : 0 ≤ a11 ∧ a11 < 256 := hb.get 11
  have p12 : 0 ≤ a12 ∧ a12 < 256 := hb.get 12
  have p13 : 0 ≤ a13 ∧ a13 < 256 := hb.get 13
  have p14 : 0 ≤ a14 ∧ a14 < 256 := hb.get 14
  have p15 : 0 ≤ a15 ∧ a15 < 256 := hb.get 15
  exact congr16 (mix_unmix_0 p0 p1 p2 p3) (mix_unmix_1 p0 p1 p2 p3) (mix_unmix_2 p0 p1 p2 p3) (mix_unmix_3 p0 p1 p2 p3) (mix_unmix_0 p4 p5 p6 p7) (mix_unmix_1 p4 p5 p6 p7) (mix_unmix_2 p4 p5 p6 p7) (mix_unmix_3 p4 p5 p6 p7) (mix_unmix_0 p8 p9 p10 p11) (mix_unmix_1 p8 p9 p10 p11) (mix_unmix_2 p8 p9 p10 p11) (mix_unmix_3 p8 p9 p10 p11) (mix_unmix_0 p12 p13 p14 p15) (mix_unmix_1 p12 p13 p14 p15) (mix_unmix_2 p12 p13 p14 p15) (mix_unmix_3 p12 p13 p14 p15)
theorem back_box {x : Int} (hx : 0 ≤ x ∧ x < 256) : backLaw (boxLaw x) = x := sum_tab (f := fun x => backLaw (boxLaw x)) (v := fun x => x) (by kernel_rfl) hx
theorem box_back {x : Int} (hx : 0 ≤ x ∧ x < 256) : boxLaw (backLaw x) = x := sum_tab (f := fun x => boxLaw (backLaw x)) (v := fun x => x) (by kernel_rfl) hx
theorem unboxed_boxed {s : List Int} (hl : s.length = 16) (hb : Bytes s) : unboxedLaw (boxedLaw s) = s := by
  rw [← l16_of hl]
  refine l16_congr fun i hi => ?_
  rw [l16_of hl]
  show backLaw ((l16 _).getD i 0) = _
  rw [l16_get _ _ hi, back_box (hb.get i)]
theorem boxed_unboxed {s : List Int} (hl : s.length = 16) (hb : Bytes s) : boxedLaw (unboxedLaw s) = s := by
  rw [← l16_of hl]
  refine l16_congr fun i hi => ?_
  rw [l16_of hl]
  show boxLaw ((l16 _).getD i 0) = _
  rw [l16_get _ _ hi, box_back (hb.get i)]
theorem turned_13 {s : List Int} (hl : s.length = 16) : turnedLaw 3 (turnedLaw 1 s) = s := by
  obtain ⟨a0, a1, a2, a3, a4, a5, a6, a7, a8, a9, a10, a11, a12, a13, a14, a15, rfl⟩ := list16 hl
  rfl
theorem turned_31 {s : List Int} (hl : s.length = 16) : turnedLaw 1 (turnedLaw 3 s) = s := by
  obtain ⟨a0, a1, a2, a3, a4, a5, a6, a7, a8, a9, a10, a11, a12, a13, a14, a15, rfl⟩ := list16 hl
  rfl
theorem plus_back {s k : List Int} (hl : s.length = 16) (hb : Bytes s) : plusLaw (plusLaw s k) k = s := by
  rw [← l16_of hl]
  refine l16_congr fun i hi => ?_
  rw [l16_of hl]
  show ixor ((l16 _).getD i 0) _ = _
  rw [l16_get _ _ hi, ixor_back (hb.get i).1]
theorem decR_encR {ks s : List Int} (hk : Bytes ks) (hl : s.length = 16) (hs : Bytes s) (r : Nat) : decRLaw ks (encRLaw ks s r) r = s := by
  have h1 := turned_bytes (n := 1) (boxed_bytes hs)
  unfold decRLaw encRLaw
  by_cases h : r = 10
  · rw [if_pos h, if_pos h, plus_back rfl h1, turned_13 rfl, unboxed_boxed hl hs]
  · rw [if_neg h, if_neg h, plus_back rfl (mix_bytes _), unmix_mix rfl h1, turned_13 rfl, unboxed_boxed hl hs]
theorem encR_decR {ks s : List Int} (hk : Bytes ks) (hl : s.length = 16) (hs : Bytes s) (r : Nat) : encRLaw ks (decRLaw ks s r) r = s := by
  have h1 := plus_bytes hs (sub_bytes hk (16 * r) 16)
  unfold decRLaw encRLaw
  by_cases h : r = 10
  · rw [if_pos h, if_pos h, boxed_unboxed rfl (turned_bytes h1), turned_31 rfl, plus_back hl hs]
  · rw [if_neg h, if_neg h, boxed_unboxed rfl (turned_bytes (unmix_bytes _)), turned_31 rfl, mix_unmix rfl h1, plus_back hl hs]
theorem dec_enc {ks s : List Int} (hk : Bytes ks) (hl : s.length = 16) (hs : Bytes s) : ∀ j, j ≤ 10 → decLaw ks (encLaw ks s 10) j = encLaw ks s (10 - j)
  | 0, _ => rfl
  | j + 1, h => by
    rw [decLaw, dec_enc hk hl hs j (by omega), show 10 - j = (10 - (j + 1)) + 1 by omega]
    exact decR_encR hk (enc_len ks s _) (enc_bytes hk hs _) _
theorem unblock_block {ks s : List Int} (hk : Bytes ks) (hl : s.length = 16) (hs : Bytes s) : unblockLaw ks (blockLaw ks s) = s := by
  unfold unblockLaw blockLaw
  rw [dec_enc hk hl hs 10 (Nat.le_refl _)]
  exact plus_back hl hs
theorem enc_dec {ks s : List Int} (hk : Bytes ks) (hl : s.length = 16) (hs : Bytes s) : ∀ j, j ≤ 10 → encLaw ks (unblockLaw ks s) j = decLaw ks s (10 - j)
  | 0, _ => by
    show plusLaw (plusLaw (decLaw ks s 10) _) _ = _
    exact plus_back (dec_len hl 10) (dec_bytes hs 10)
  | j + 1, h => by
    rw [encLaw, enc_dec hk hl hs j (by omega), show 10 - j = (10 - (j + 1)) + 1 by omega, decLaw, show 10 - (10 - (j + 1)) = j + 1 by omega]
    exact encR_decR hk (dec_len hl _) (dec_bytes hs _) _
theorem block_unblock {ks s : List Int} (hk : Bytes ks) (hl : s.length = 16) (hs : Bytes s) : blockLaw ks (unblockLaw ks s) = s := by
  unfold blockLaw
  rw [enc_dec hk hl hs 10 (Nat.le_refl _)]
  rfl
end Go.Abs
