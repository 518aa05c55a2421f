/- What is put is got as it was; bytes that are got are put the same: for every input. -/
import Derived.Test.YtmfacmccilipfaaP3
import Derived.Test.YtmfacmccilipfaaAbs2
import Derived.Test.YtmfacmccilipfaaRows
set_option linter.unusedVariables false
namespace Go.Proofs.Ytmfacmccilipfaa.nodesBack
open Go.ChangeShapes Go.WideShapes Go.ChangeAt Go.RowKit Go.Abs

theorem own : ownKnob Try.prog.godebug = none := by kernel_rfl
theorem cells5 : Try.prog.cellsOf 5 = 1 := by kernel_rfl
theorem bytes5 : Try.prog.bytesOf 5 = 1 := by kernel_rfl
set_option maxRecDepth 100000 in
theorem lifted (os : Os) (started : os.Started) (H : Type) (enc : TypeId × Value → H) :
    ReturnsInHanded {} Try.checked os 8 .any (Rows.nodesBackSpec.pre6 enc Try.prog Try.f8 Rows.nodesBackRow.domain false) (Rows.nodesBackSpec.post enc Try.prog Try.f8 false true false false) := by
  refine returnsInHanded_of_change_sized (C := Try.checked) own started (by kernel_rfl) Try.func8
    (ChangeSpec.witness6 (enc := enc) (C := Try.checked) false ⟨#[], #[.agg #[.slice none 0 0, .slice none 0 0, .slice none 0 0, .int .i64 0, .slice none 0 0, .slice none 0 0], .agg #[.slice none 0 0, .slice none 0 0, .slice none 0 0], .agg #[.slice none 0 0, .slice none 0 0, .slice none 0 0, .slice none 0 0, .int .i64 0, .slice none 0 0, .slice none 0 0, .slice none 0 0], .slice none 0 0], []⟩ 8 (by kernel_rfl) (by kernel_rfl) (by kernel_rfl) (by kernel_rfl)) ?_
  intro W base args ds gs before hval0 hW hcnd hsz _
  have hval : ∀ (j : Nat) t v, Try.f8.params[j]? = some t → args[j]? = some v → Value.okWide Try.prog W .any base t v := hval0
  have hW' := hW
  obtain ⟨p, q, hA0, hV, rfl, hfz, hnd⟩ := hW
  have hA : DataW.TrodAll enc Try.prog W 0 (fun _ => true) true Try.f8.params.toList args.toList ds p := hA0
  rw [Try.params8] at hA hval hsz
  obtain ⟨v0, vs0, d0, ds0, p0, q0, hargs, rfl, rfl, t0, r0⟩ := trodAll_cons hA
  obtain ⟨v1, vs1, d1, ds1, p1, q1, rfl, rfl, rfl, t1, r1⟩ := trodAll_cons r0
  obtain ⟨v2, vs2, d2, ds2, p2, q2, rfl, rfl, rfl, t2, r2⟩ := trodAll_cons r1
  obtain ⟨v3, vs3, d3, ds3, p3, q3, rfl, rfl, rfl, t3, r3⟩ := trodAll_cons r2
  obtain ⟨rfl, rfl, rfl⟩ := trodAll_nil r3
  obtain rfl : args = #[v0, v1, v2, v3] := by cases args; simp_all
  obtain ⟨rfl, rfl⟩ := trodVars_none hV
  obtain ⟨u0a, u0b, u0c, u0i, u0d, u0e, y0a, y0b, y0c, y0i, y0d, y0e, fu0, rfl, rfl, t0a, t0b, t0c, t0i, t0d, t0e⟩ := open_six Try.underlying24 rfl (by kernel_rfl) (by kernel_rfl) (hval 0 24 v0 rfl rfl) t0
  obtain ⟨a0, rfl, h0⟩ := trod_i64 Try.underlying3 t0i
  obtain ⟨zs0a, n0a, l0a, k0a, z0a, m0a, g0a, o0a, b0a, c0a, vr0a⟩ := arg_bytesT Try.underlying22 Try.underlying5 cells5 bytes5 t0a (fun e s he => sized_part (j := 0) (i := 0) hsz rfl rfl Try.underlying24 rfl (congrArg some he) Try.underlying22)
  obtain ⟨zs0b, n0b, l0b, k0b, z0b, m0b, g0b, o0b, b0b, c0b, vr0b⟩ := arg_bytesT Try.underlying22 Try.underlying5 cells5 bytes5 t0b (fun e s he => sized_part (j := 0) (i := 1) hsz rfl rfl Try.underlying24 rfl (congrArg some he) Try.underlying22)
  obtain ⟨zs0c, n0c, l0c, k0c, z0c, m0c, g0c, o0c, b0c, c0c, vr0c⟩ := arg_bytesT Try.underlying22 Try.underlying5 cells5 bytes5 t0c (fun e s he => sized_part (j := 0) (i := 2) hsz rfl rfl Try.underlying24 rfl (congrArg some he) Try.underlying22)
  obtain ⟨zs0d, n0d, l0d, k0d, z0d, m0d, g0d, o0d, b0d, c0d, vr0d⟩ := arg_bytesT Try.underlying22 Try.underlying5 cells5 bytes5 t0d (fun e s he => sized_part (j := 0) (i := 4) hsz rfl rfl Try.underlying24 rfl (congrArg some he) Try.underlying22)
  obtain ⟨zs0e, n0e, l0e, k0e, z0e, m0e, g0e, o0e, b0e, c0e, vr0e⟩ := arg_bytesT Try.underlying22 Try.underlying5 cells5 bytes5 t0e (fun e s he => sized_part (j := 0) (i := 5) hsz rfl rfl Try.underlying24 rfl (congrArg some he) Try.underlying22)
  obtain ⟨u1a, u1b, u1c, y1a, y1b, y1c, fu1, rfl, rfl, t1a, t1b, t1c⟩ := open_three Try.underlying46 rfl (by kernel_rfl) (by kernel_rfl) (by kernel_rfl) (by kernel_rfl) (hval 1 46 v1 rfl rfl) t1
  obtain ⟨zs1a, n1a, l1a, k1a, z1a, m1a, g1a, o1a, b1a, c1a, vr1a⟩ := arg_bytesT Try.underlying22 Try.underlying5 cells5 bytes5 t1a (fun e s he => sized_part (j := 1) (i := 0) hsz rfl rfl Try.underlying46 rfl (congrArg some he) Try.underlying22)
  obtain ⟨zs1b, n1b, l1b, k1b, z1b, m1b, g1b, o1b, b1b, c1b, vr1b⟩ := arg_bytesT Try.underlying22 Try.underlying5 cells5 bytes5 t1b (fun e s he => sized_part (j := 1) (i := 1) hsz rfl rfl Try.underlying46 rfl (congrArg some he) Try.underlying22)
  obtain ⟨zs1c, n1c, l1c, k1c, z1c, m1c, g1c, o1c, b1c, c1c, vr1c⟩ := arg_intsT Try.underlying44 Try.underlying3 (by kernel_rfl) (by kernel_rfl) t1c (fun e s he => sized_part (j := 1) (i := 2) hsz rfl rfl Try.underlying46 rfl (congrArg some he) Try.underlying44)
  obtain ⟨u2a, u2b, u2c, u2d, u2i, u2e, u2f, u2g, y2a, y2b, y2c, y2d, y2i, y2e, y2f, y2g, fu2, fw2, rfl, rfl, t2a, t2b, t2c, t2d, t2i, t2e, t2f, t2g⟩ := open_eight Try.underlying58 rfl (by kernel_rfl) (by kernel_rfl) (by kernel_rfl) (by kernel_rfl) Try.underlying24 rfl (by kernel_rfl) (hval 2 58 v2 rfl rfl) t2
  obtain ⟨a2, rfl, h2⟩ := trod_i64 Try.underlying3 t2i
  obtain ⟨zs2a, n2a, l2a, k2a, z2a, m2a, g2a, o2a, b2a, c2a, vr2a⟩ := arg_bytesT Try.underlying22 Try.underlying5 cells5 bytes5 t2a (fun e s he => sized_part (j := 2) (i := 0) hsz rfl rfl Try.underlying58 rfl (congrArg some he) Try.underlying22)
  obtain ⟨zs2g, n2g, l2g, k2g, z2g, m2g, g2g, o2g, b2g, c2g, vr2g⟩ := arg_bytesT Try.underlying22 Try.underlying5 cells5 bytes5 t2g (fun e s he => sized_part (j := 2) (i := 2) hsz rfl rfl Try.underlying58 rfl (congrArg some he) Try.underlying22)
  obtain ⟨zs2b, n2b, l2b, k2b, z2b, m2b, g2b, o2b, b2b, c2b, vr2b⟩ := arg_bytesT Try.underlying22 Try.underlying5 cells5 bytes5 t2b (fun e s he => sized_part2 (j := 2) (i := 1) (i2 := 0) hsz rfl rfl Try.underlying58 rfl rfl Try.underlying24 rfl (congrArg some he) Try.underlying22)
  obtain ⟨zs2c, n2c, l2c, k2c, z2c, m2c, g2c, o2c, b2c, c2c, vr2c⟩ := arg_bytesT Try.underlying22 Try.underlying5 cells5 bytes5 t2c (fun e s he => sized_part2 (j := 2) (i := 1) (i2 := 1) hsz rfl rfl Try.underlying58 rfl rfl Try.underlying24 rfl (congrArg some he) Try.underlying22)
  obtain ⟨zs2d, n2d, l2d, k2d, z2d, m2d, g2d, o2d, b2d, c2d, vr2d⟩ := arg_bytesT Try.underlying22 Try.underlying5 cells5 bytes5 t2d (fun e s he => sized_part2 (j := 2) (i := 1) (i2 := 2) hsz rfl rfl Try.underlying58 rfl rfl Try.underlying24 rfl (congrArg some he) Try.underlying22)
  obtain ⟨zs2e, n2e, l2e, k2e, z2e, m2e, g2e, o2e, b2e, c2e, vr2e⟩ := arg_bytesT Try.underlying22 Try.underlying5 cells5 bytes5 t2e (fun e s he => sized_part2 (j := 2) (i := 1) (i2 := 4) hsz rfl rfl Try.underlying58 rfl rfl Try.underlying24 rfl (congrArg some he) Try.underlying22)
  obtain ⟨zs2f, n2f, l2f, k2f, z2f, m2f, g2f, o2f, b2f, c2f, vr2f⟩ := arg_bytesT Try.underlying22 Try.underlying5 cells5 bytes5 t2f (fun e s he => sized_part2 (j := 2) (i := 1) (i2 := 5) hsz rfl rfl Try.underlying58 rfl rfl Try.underlying24 rfl (congrArg some he) Try.underlying22)
  obtain ⟨zs3, n3, l3, k3, z3, m3, g3, o3, b3, c3, vr3⟩ := arg_bytes Try.underlying22 Try.underlying5 cells5 bytes5 (hval 3 22 v3 rfl rfl) t3 (fun e s he => sized_slice (j := 3) hsz rfl (by rw [he]; rfl) Try.underlying22)
  have hT : HR (fun _ => none) (nuL [l0a, l0b, l0c, l0d, l0e, l1a, l1b, l1c, l2a, l2b, l2c, l2d, l2e, l2f, l2g, l3]) [some ⟨.ints .u8 zs0a, 0, false, 5⟩, some ⟨.ints .u8 zs0b, 0, false, 5⟩, some ⟨.ints .u8 zs0c, 0, false, 5⟩, some ⟨.ints .u8 zs0d, 0, false, 5⟩, some ⟨.ints .u8 zs0e, 0, false, 5⟩, some ⟨.ints .u8 zs1a, 0, false, 5⟩, some ⟨.ints .u8 zs1b, 0, false, 5⟩, some ⟨.ints .i64 zs1c, 0, false, 3⟩, some ⟨.ints .u8 zs2a, 0, false, 5⟩, some ⟨.ints .u8 zs2b, 0, false, 5⟩, some ⟨.ints .u8 zs2c, 0, false, 5⟩, some ⟨.ints .u8 zs2d, 0, false, 5⟩, some ⟨.ints .u8 zs2e, 0, false, 5⟩, some ⟨.ints .u8 zs2f, 0, false, 5⟩, some ⟨.ints .u8 zs2g, 0, false, 5⟩, some ⟨.ints .u8 zs3, 0, false, 5⟩] W := by
    refine HR.args rfl fun p o hp => ?_
    match p, hp with
    | 0, hp => injection hp with hp; subst hp; exact ⟨_, _, l0a, rfl, rfl, g0a, .ints _ _, by rw [o0a]; exact Nat.le_refl _, b0a, bytes_obj c0a, FamOk.no rfl⟩
    | 1, hp => injection hp with hp; subst hp; exact ⟨_, _, l0b, rfl, rfl, g0b, .ints _ _, by rw [o0b]; exact Nat.le_refl _, b0b, bytes_obj c0b, FamOk.no rfl⟩
    | 2, hp => injection hp with hp; subst hp; exact ⟨_, _, l0c, rfl, rfl, g0c, .ints _ _, by rw [o0c]; exact Nat.le_refl _, b0c, bytes_obj c0c, FamOk.no rfl⟩
    | 3, hp => injection hp with hp; subst hp; exact ⟨_, _, l0d, rfl, rfl, g0d, .ints _ _, by rw [o0d]; exact Nat.le_refl _, b0d, bytes_obj c0d, FamOk.no rfl⟩
    | 4, hp => injection hp with hp; subst hp; exact ⟨_, _, l0e, rfl, rfl, g0e, .ints _ _, by rw [o0e]; exact Nat.le_refl _, b0e, bytes_obj c0e, FamOk.no rfl⟩
    | 5, hp => injection hp with hp; subst hp; exact ⟨_, _, l1a, rfl, rfl, g1a, .ints _ _, by rw [o1a]; exact Nat.le_refl _, b1a, bytes_obj c1a, FamOk.no rfl⟩
    | 6, hp => injection hp with hp; subst hp; exact ⟨_, _, l1b, rfl, rfl, g1b, .ints _ _, by rw [o1b]; exact Nat.le_refl _, b1b, bytes_obj c1b, FamOk.no rfl⟩
    | 7, hp => injection hp with hp; subst hp; exact ⟨_, _, l1c, rfl, rfl, g1c, .ints _ _, by rw [o1c]; exact Nat.le_refl _, b1c, ints_obj c1c, FamOk.no rfl⟩
    | 8, hp => injection hp with hp; subst hp; exact ⟨_, _, l2a, rfl, rfl, g2a, .ints _ _, by rw [o2a]; exact Nat.le_refl _, b2a, bytes_obj c2a, FamOk.no rfl⟩
    | 9, hp => injection hp with hp; subst hp; exact ⟨_, _, l2b, rfl, rfl, g2b, .ints _ _, by rw [o2b]; exact Nat.le_refl _, b2b, bytes_obj c2b, FamOk.no rfl⟩
    | 10, hp => injection hp with hp; subst hp; exact ⟨_, _, l2c, rfl, rfl, g2c, .ints _ _, by rw [o2c]; exact Nat.le_refl _, b2c, bytes_obj c2c, FamOk.no rfl⟩
    | 11, hp => injection hp with hp; subst hp; exact ⟨_, _, l2d, rfl, rfl, g2d, .ints _ _, by rw [o2d]; exact Nat.le_refl _, b2d, bytes_obj c2d, FamOk.no rfl⟩
    | 12, hp => injection hp with hp; subst hp; exact ⟨_, _, l2e, rfl, rfl, g2e, .ints _ _, by rw [o2e]; exact Nat.le_refl _, b2e, bytes_obj c2e, FamOk.no rfl⟩
    | 13, hp => injection hp with hp; subst hp; exact ⟨_, _, l2f, rfl, rfl, g2f, .ints _ _, by rw [o2f]; exact Nat.le_refl _, b2f, bytes_obj c2f, FamOk.no rfl⟩
    | 14, hp => injection hp with hp; subst hp; exact ⟨_, _, l2g, rfl, rfl, g2g, .ints _ _, by rw [o2g]; exact Nat.le_refl _, b2g, bytes_obj c2g, FamOk.no rfl⟩
    | 15, hp => injection hp with hp; subst hp; exact ⟨_, _, l3, rfl, rfl, g3, .ints _ _, by rw [o3]; exact Nat.le_refl _, b3, bytes_obj c3, FamOk.no rfl⟩
    | p + 16, hp => simp at hp
  have hown : ∀ (p : Nat) (o : AObj), ([some ⟨.ints .u8 zs0a, 0, false, 5⟩, some ⟨.ints .u8 zs0b, 0, false, 5⟩, some ⟨.ints .u8 zs0c, 0, false, 5⟩, some ⟨.ints .u8 zs0d, 0, false, 5⟩, some ⟨.ints .u8 zs0e, 0, false, 5⟩, some ⟨.ints .u8 zs1a, 0, false, 5⟩, some ⟨.ints .u8 zs1b, 0, false, 5⟩, some ⟨.ints .i64 zs1c, 0, false, 3⟩, some ⟨.ints .u8 zs2a, 0, false, 5⟩, some ⟨.ints .u8 zs2b, 0, false, 5⟩, some ⟨.ints .u8 zs2c, 0, false, 5⟩, some ⟨.ints .u8 zs2d, 0, false, 5⟩, some ⟨.ints .u8 zs2e, 0, false, 5⟩, some ⟨.ints .u8 zs2f, 0, false, 5⟩, some ⟨.ints .u8 zs2g, 0, false, 5⟩, some ⟨.ints .u8 zs3, 0, false, 5⟩] : Tab)[p]? = some (some o) → o.own = false := by
    intro p o hp
    match p, hp with
    | 0, hp => injection hp with hp; injection hp with hp; subst hp; rfl
    | 1, hp => injection hp with hp; injection hp with hp; subst hp; rfl
    | 2, hp => injection hp with hp; injection hp with hp; subst hp; rfl
    | 3, hp => injection hp with hp; injection hp with hp; subst hp; rfl
    | 4, hp => injection hp with hp; injection hp with hp; subst hp; rfl
    | 5, hp => injection hp with hp; injection hp with hp; subst hp; rfl
    | 6, hp => injection hp with hp; injection hp with hp; subst hp; rfl
    | 7, hp => injection hp with hp; injection hp with hp; subst hp; rfl
    | 8, hp => injection hp with hp; injection hp with hp; subst hp; rfl
    | 9, hp => injection hp with hp; injection hp with hp; subst hp; rfl
    | 10, hp => injection hp with hp; injection hp with hp; subst hp; rfl
    | 11, hp => injection hp with hp; injection hp with hp; subst hp; rfl
    | 12, hp => injection hp with hp; injection hp with hp; subst hp; rfl
    | 13, hp => injection hp with hp; injection hp with hp; subst hp; rfl
    | 14, hp => injection hp with hp; injection hp with hp; subst hp; rfl
    | 15, hp => injection hp with hp; injection hp with hp; subst hp; rfl
    | p + 16, hp => simp at hp
  refine (calls_args (law8 k0a k0b k0c k0d k0e k1a k1b k1c k2a k2b k2c k2d k2e k2f k2g k3 m0a m0b m0c m0d m0e m1a m1b m1c m2a m2b m2c m2d m2e m2f m2g m3 z0a z0b z0c z0d z0e z1a z1b z2a z2b z2c z2d z2e z2f z2g z3) hT hown (fun ν y h => h.bool_inv) (VRs.cons (VRs.agg (VRs.cons (vr0a _ 0 rfl) (VRs.cons (vr0b _ 1 rfl) (VRs.cons (vr0c _ 2 rfl) (VRs.cons (.int _ _) (VRs.cons (vr0d _ 3 rfl) (VRs.cons (vr0e _ 4 rfl) (VRs.nil _)))))))) (VRs.cons (VRs.agg (VRs.cons (vr1a _ 5 rfl) (VRs.cons (vr1b _ 6 rfl) (VRs.cons (vr1c _ 7 rfl) (VRs.nil _))))) (VRs.cons (VRs.agg (VRs.cons (vr2a _ 8 rfl) (VRs.cons (vr2b _ 9 rfl) (VRs.cons (vr2c _ 10 rfl) (VRs.cons (vr2d _ 11 rfl) (VRs.cons (.int _ _) (VRs.cons (vr2e _ 12 rfl) (VRs.cons (vr2f _ 13 rfl) (VRs.cons (vr2g _ 14 rfl) (VRs.nil _)))))))))) (VRs.cons (vr3 _ 15 rfl) (VRs.nil _)))))).mono fun e W' ⟨he, hg⟩ => ?_
  subst he
  exact ⟨_, rfl, law_post (tb := 4) (by kernel_rfl) (fun t ht => by
    rw [Try.params8] at ht
    have : ([24, 46, 58, 22] : List TypeId).all (fun t => Try.prog.readableRec t && decide (t < Try.prog.types.size)) = true := by kernel_rfl
    have := List.all_eq_true.1 this t ht
    simp only [Bool.and_eq_true, decide_eq_true_eq] at this
    exact this) rfl hW' rfl rfl Try.underlying4 hg⟩

theorem over : Rows.nodesBackRow.holds Try.pinned (OpenSpec.ofChange Rows.nodesBackSpec) :=
  OpenClaim.holds_of_wide 8 Try.f8 rfl rfl rfl rfl rfl rfl rfl ⟨rfl, rfl, rfl, rfl, rfl⟩ rfl rfl rfl rfl rfl (by kernel_rfl) Try.func8 (by kernel_rfl)
    (of_decide_eq_true (by kernel_rfl)) (by unfold Func.isWrapper; first | (rw [if_pos (by decide +kernel)]; kernel_rfl) | (rw [if_neg (by decide +kernel)]; exact ⟨rfl, rfl⟩))
    (fun os started H enc _ => lifted os started H enc)

theorem proved : Rows.NodesBackSaid :=
  over
#print axioms proved
end Go.Proofs.Ytmfacmccilipfaa.nodesBack
