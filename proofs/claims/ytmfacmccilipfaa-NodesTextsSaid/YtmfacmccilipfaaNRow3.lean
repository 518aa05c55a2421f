/- What is signed of any leaf and package: the program answers as the document, for every input. -/
import Derived.Test.YtmfacmccilipfaaP1
import Derived.Test.YtmfacmccilipfaaAbs2
import Derived.Test.YtmfacmccilipfaaRows
set_option linter.unusedVariables false
namespace Go.Proofs.Ytmfacmccilipfaa.nodesTexts
open Go.ChangeShapes Go.WideShapes Go.ChangeAt Go.RowKit Go.Abs

theorem own : ownKnob Try.prog.godebug = none := by kernel_rfl
theorem cells5 : Try.prog.cellsOf 5 = 1 := by kernel_rfl
theorem bytes5 : Try.prog.bytesOf 5 = 1 := by kernel_rfl
set_option maxRecDepth 100000 in
theorem lifted (os : Os) (started : os.Started) (H : Type) (enc : TypeId × Value → H) :
    ReturnsInHanded {} Try.checked os 7 .any (Rows.nodesTextsSpec.pre6 enc Try.prog Try.f7 Rows.nodesTextsRow.domain false) (Rows.nodesTextsSpec.post enc Try.prog Try.f7 false true false false) := by
  refine returnsInHanded_of_change_sized (C := Try.checked) own started (by kernel_rfl) Try.func7
    (ChangeSpec.witness6 (enc := enc) (C := Try.checked) false ⟨#[], #[.agg #[.slice none 0 0, .slice none 0 0, .slice none 0 0, .int .i64 0, .slice none 0 0, .slice none 0 0], .slice none 0 0, .int .i64 0, .agg #[.slice none 0 0, .slice none 0 0, .slice none 0 0, .slice none 0 0, .int .i64 0, .slice none 0 0, .slice none 0 0, .slice none 0 0]], []⟩ 8 (by kernel_rfl) (by kernel_rfl) (by kernel_rfl) (by kernel_rfl)) ?_
  intro W base args ds gs before hval0 hW hcnd hsz _
  have hval : ∀ (j : Nat) t v, Try.f7.params[j]? = some t → args[j]? = some v → Value.okWide Try.prog W .any base t v := hval0
  have hW' := hW
  obtain ⟨p, q, hA0, hV, rfl, hfz, hnd⟩ := hW
  have hA : DataW.TrodAll enc Try.prog W 0 (fun _ => true) true Try.f7.params.toList args.toList ds p := hA0
  rw [Try.params7] at hA hval hsz
  obtain ⟨v0, vs0, d0, ds0, p0, q0, hargs, rfl, rfl, t0, r0⟩ := trodAll_cons hA
  obtain ⟨v1, vs1, d1, ds1, p1, q1, rfl, rfl, rfl, t1, r1⟩ := trodAll_cons r0
  obtain ⟨v2, vs2, d2, ds2, p2, q2, rfl, rfl, rfl, t2, r2⟩ := trodAll_cons r1
  obtain ⟨v3, vs3, d3, ds3, p3, q3, rfl, rfl, rfl, t3, r3⟩ := trodAll_cons r2
  obtain ⟨rfl, rfl, rfl⟩ := trodAll_nil r3
  obtain rfl : args = #[v0, v1, v2, v3] := by cases args; simp_all
  obtain ⟨rfl, rfl⟩ := trodVars_none hV
  obtain ⟨u0a, u0b, u0c, u0i, u0d, u0e, y0a, y0b, y0c, y0i, y0d, y0e, fu0, rfl, rfl, t0a, t0b, t0c, t0i, t0d, t0e⟩ := open_six Try.underlying24 rfl (by kernel_rfl) (by kernel_rfl) (hval 0 24 v0 rfl rfl) t0
  obtain ⟨a0, rfl, h0⟩ := trod_i64 Try.underlying3 t0i
  obtain ⟨zs0a, n0a, l0a, k0a, z0a, m0a, g0a, o0a, b0a, c0a, vr0a⟩ := arg_bytesT Try.underlying22 Try.underlying5 cells5 bytes5 t0a (fun e s he => sized_part (j := 0) (i := 0) hsz rfl rfl Try.underlying24 rfl (congrArg some he) Try.underlying22)
  obtain ⟨zs0b, n0b, l0b, k0b, z0b, m0b, g0b, o0b, b0b, c0b, vr0b⟩ := arg_bytesT Try.underlying22 Try.underlying5 cells5 bytes5 t0b (fun e s he => sized_part (j := 0) (i := 1) hsz rfl rfl Try.underlying24 rfl (congrArg some he) Try.underlying22)
  obtain ⟨zs0c, n0c, l0c, k0c, z0c, m0c, g0c, o0c, b0c, c0c, vr0c⟩ := arg_bytesT Try.underlying22 Try.underlying5 cells5 bytes5 t0c (fun e s he => sized_part (j := 0) (i := 2) hsz rfl rfl Try.underlying24 rfl (congrArg some he) Try.underlying22)
  obtain ⟨zs0d, n0d, l0d, k0d, z0d, m0d, g0d, o0d, b0d, c0d, vr0d⟩ := arg_bytesT Try.underlying22 Try.underlying5 cells5 bytes5 t0d (fun e s he => sized_part (j := 0) (i := 4) hsz rfl rfl Try.underlying24 rfl (congrArg some he) Try.underlying22)
  obtain ⟨zs0e, n0e, l0e, k0e, z0e, m0e, g0e, o0e, b0e, c0e, vr0e⟩ := arg_bytesT Try.underlying22 Try.underlying5 cells5 bytes5 t0e (fun e s he => sized_part (j := 0) (i := 5) hsz rfl rfl Try.underlying24 rfl (congrArg some he) Try.underlying22)
  obtain ⟨zs1, n1, l1, k1, z1, m1, g1, o1, b1, c1, vr1⟩ := arg_bytes Try.underlying22 Try.underlying5 cells5 bytes5 (hval 1 22 v1 rfl rfl) t1 (fun e s he => sized_slice (j := 1) hsz rfl (by rw [he]; rfl) Try.underlying22)
  obtain ⟨a2, rfl, rfl, rfl, w2⟩ := open_int Try.underlying3 (hval 2 3 v2 rfl rfl) t2
  have h2 : -9223372036854775808 ≤ a2 ∧ a2 ≤ 9223372036854775807 := by simpa [Lit.wf, IntKind.min, IntKind.max, IntKind.signed, IntKind.bits] using w2
  obtain ⟨u3a, u3b, u3c, u3d, u3i, u3e, u3f, u3g, y3a, y3b, y3c, y3d, y3i, y3e, y3f, y3g, fu3, fw3, rfl, rfl, t3a, t3b, t3c, t3d, t3i, t3e, t3f, t3g⟩ := open_eight Try.underlying58 rfl (by kernel_rfl) (by kernel_rfl) (by kernel_rfl) (by kernel_rfl) Try.underlying24 rfl (by kernel_rfl) (hval 3 58 v3 rfl rfl) t3
  obtain ⟨a3, rfl, h3⟩ := trod_i64 Try.underlying3 t3i
  obtain ⟨zs3a, n3a, l3a, k3a, z3a, m3a, g3a, o3a, b3a, c3a, vr3a⟩ := arg_bytesT Try.underlying22 Try.underlying5 cells5 bytes5 t3a (fun e s he => sized_part (j := 3) (i := 0) hsz rfl rfl Try.underlying58 rfl (congrArg some he) Try.underlying22)
  obtain ⟨zs3g, n3g, l3g, k3g, z3g, m3g, g3g, o3g, b3g, c3g, vr3g⟩ := arg_bytesT Try.underlying22 Try.underlying5 cells5 bytes5 t3g (fun e s he => sized_part (j := 3) (i := 2) hsz rfl rfl Try.underlying58 rfl (congrArg some he) Try.underlying22)
  obtain ⟨zs3b, n3b, l3b, k3b, z3b, m3b, g3b, o3b, b3b, c3b, vr3b⟩ := arg_bytesT Try.underlying22 Try.underlying5 cells5 bytes5 t3b (fun e s he => sized_part2 (j := 3) (i := 1) (i2 := 0) hsz rfl rfl Try.underlying58 rfl rfl Try.underlying24 rfl (congrArg some he) Try.underlying22)
  obtain ⟨zs3c, n3c, l3c, k3c, z3c, m3c, g3c, o3c, b3c, c3c, vr3c⟩ := arg_bytesT Try.underlying22 Try.underlying5 cells5 bytes5 t3c (fun e s he => sized_part2 (j := 3) (i := 1) (i2 := 1) hsz rfl rfl Try.underlying58 rfl rfl Try.underlying24 rfl (congrArg some he) Try.underlying22)
  obtain ⟨zs3d, n3d, l3d, k3d, z3d, m3d, g3d, o3d, b3d, c3d, vr3d⟩ := arg_bytesT Try.underlying22 Try.underlying5 cells5 bytes5 t3d (fun e s he => sized_part2 (j := 3) (i := 1) (i2 := 2) hsz rfl rfl Try.underlying58 rfl rfl Try.underlying24 rfl (congrArg some he) Try.underlying22)
  obtain ⟨zs3e, n3e, l3e, k3e, z3e, m3e, g3e, o3e, b3e, c3e, vr3e⟩ := arg_bytesT Try.underlying22 Try.underlying5 cells5 bytes5 t3e (fun e s he => sized_part2 (j := 3) (i := 1) (i2 := 4) hsz rfl rfl Try.underlying58 rfl rfl Try.underlying24 rfl (congrArg some he) Try.underlying22)
  obtain ⟨zs3f, n3f, l3f, k3f, z3f, m3f, g3f, o3f, b3f, c3f, vr3f⟩ := arg_bytesT Try.underlying22 Try.underlying5 cells5 bytes5 t3f (fun e s he => sized_part2 (j := 3) (i := 1) (i2 := 5) hsz rfl rfl Try.underlying58 rfl rfl Try.underlying24 rfl (congrArg some he) Try.underlying22)
  have hT : HR (fun _ => none) (nuL [l0a, l0b, l0c, l0d, l0e, l1, l3a, l3b, l3c, l3d, l3e, l3f, l3g]) [some ⟨.ints .u8 zs0a, 0, false, 5⟩, some ⟨.ints .u8 zs0b, 0, false, 5⟩, some ⟨.ints .u8 zs0c, 0, false, 5⟩, some ⟨.ints .u8 zs0d, 0, false, 5⟩, some ⟨.ints .u8 zs0e, 0, false, 5⟩, some ⟨.ints .u8 zs1, 0, false, 5⟩, some ⟨.ints .u8 zs3a, 0, false, 5⟩, some ⟨.ints .u8 zs3b, 0, false, 5⟩, some ⟨.ints .u8 zs3c, 0, false, 5⟩, some ⟨.ints .u8 zs3d, 0, false, 5⟩, some ⟨.ints .u8 zs3e, 0, false, 5⟩, some ⟨.ints .u8 zs3f, 0, false, 5⟩, some ⟨.ints .u8 zs3g, 0, false, 5⟩] W := by
    refine HR.args rfl fun p o hp => ?_
    match p, hp with
    | 0, hp => injection hp with hp; subst hp; exact ⟨_, _, l0a, rfl, rfl, g0a, .ints _ _, by rw [o0a]; exact Nat.le_refl _, b0a, bytes_obj c0a, FamOk.no rfl⟩
    | 1, hp => injection hp with hp; subst hp; exact ⟨_, _, l0b, rfl, rfl, g0b, .ints _ _, by rw [o0b]; exact Nat.le_refl _, b0b, bytes_obj c0b, FamOk.no rfl⟩
    | 2, hp => injection hp with hp; subst hp; exact ⟨_, _, l0c, rfl, rfl, g0c, .ints _ _, by rw [o0c]; exact Nat.le_refl _, b0c, bytes_obj c0c, FamOk.no rfl⟩
    | 3, hp => injection hp with hp; subst hp; exact ⟨_, _, l0d, rfl, rfl, g0d, .ints _ _, by rw [o0d]; exact Nat.le_refl _, b0d, bytes_obj c0d, FamOk.no rfl⟩
    | 4, hp => injection hp with hp; subst hp; exact ⟨_, _, l0e, rfl, rfl, g0e, .ints _ _, by rw [o0e]; exact Nat.le_refl _, b0e, bytes_obj c0e, FamOk.no rfl⟩
    | 5, hp => injection hp with hp; subst hp; exact ⟨_, _, l1, rfl, rfl, g1, .ints _ _, by rw [o1]; exact Nat.le_refl _, b1, bytes_obj c1, FamOk.no rfl⟩
    | 6, hp => injection hp with hp; subst hp; exact ⟨_, _, l3a, rfl, rfl, g3a, .ints _ _, by rw [o3a]; exact Nat.le_refl _, b3a, bytes_obj c3a, FamOk.no rfl⟩
    | 7, hp => injection hp with hp; subst hp; exact ⟨_, _, l3b, rfl, rfl, g3b, .ints _ _, by rw [o3b]; exact Nat.le_refl _, b3b, bytes_obj c3b, FamOk.no rfl⟩
    | 8, hp => injection hp with hp; subst hp; exact ⟨_, _, l3c, rfl, rfl, g3c, .ints _ _, by rw [o3c]; exact Nat.le_refl _, b3c, bytes_obj c3c, FamOk.no rfl⟩
    | 9, hp => injection hp with hp; subst hp; exact ⟨_, _, l3d, rfl, rfl, g3d, .ints _ _, by rw [o3d]; exact Nat.le_refl _, b3d, bytes_obj c3d, FamOk.no rfl⟩
    | 10, hp => injection hp with hp; subst hp; exact ⟨_, _, l3e, rfl, rfl, g3e, .ints _ _, by rw [o3e]; exact Nat.le_refl _, b3e, bytes_obj c3e, FamOk.no rfl⟩
    | 11, hp => injection hp with hp; subst hp; exact ⟨_, _, l3f, rfl, rfl, g3f, .ints _ _, by rw [o3f]; exact Nat.le_refl _, b3f, bytes_obj c3f, FamOk.no rfl⟩
    | 12, hp => injection hp with hp; subst hp; exact ⟨_, _, l3g, rfl, rfl, g3g, .ints _ _, by rw [o3g]; exact Nat.le_refl _, b3g, bytes_obj c3g, FamOk.no rfl⟩
    | p + 13, hp => simp at hp
  have hown : ∀ (p : Nat) (o : AObj), ([some ⟨.ints .u8 zs0a, 0, false, 5⟩, some ⟨.ints .u8 zs0b, 0, false, 5⟩, some ⟨.ints .u8 zs0c, 0, false, 5⟩, some ⟨.ints .u8 zs0d, 0, false, 5⟩, some ⟨.ints .u8 zs0e, 0, false, 5⟩, some ⟨.ints .u8 zs1, 0, false, 5⟩, some ⟨.ints .u8 zs3a, 0, false, 5⟩, some ⟨.ints .u8 zs3b, 0, false, 5⟩, some ⟨.ints .u8 zs3c, 0, false, 5⟩, some ⟨.ints .u8 zs3d, 0, false, 5⟩, some ⟨.ints .u8 zs3e, 0, false, 5⟩, some ⟨.ints .u8 zs3f, 0, false, 5⟩, some ⟨.ints .u8 zs3g, 0, false, 5⟩] : Tab)[p]? = some (some o) → o.own = false := by
    intro p o hp
    match p, hp with
    | 0, hp => injection hp with hp; injection hp with hp; subst hp; rfl
    | 1, hp => injection hp with hp; injection hp with hp; subst hp; rfl
    | 2, hp => injection hp with hp; injection hp with hp; subst hp; rfl
    | 3, hp => injection hp with hp; injection hp with hp; subst hp; rfl
    | 4, hp => injection hp with hp; injection hp with hp; subst hp; rfl
    | 5, hp => injection hp with hp; injection hp with hp; subst hp; rfl
    | 6, hp => injection hp with hp; injection hp with hp; subst hp; rfl
    | 7, hp => injection hp with hp; injection hp with hp; subst hp; rfl
    | 8, hp => injection hp with hp; injection hp with hp; subst hp; rfl
    | 9, hp => injection hp with hp; injection hp with hp; subst hp; rfl
    | 10, hp => injection hp with hp; injection hp with hp; subst hp; rfl
    | 11, hp => injection hp with hp; injection hp with hp; subst hp; rfl
    | 12, hp => injection hp with hp; injection hp with hp; subst hp; rfl
    | p + 13, hp => simp at hp
  refine (calls_args (law7 k0a k0b k0c k0d k0e k1 k3a k3b k3c k3d k3e k3f k3g m0a m0b m0c m0d m0e m1 m3a m3b m3c m3d m3e m3f m3g) hT hown (fun ν y h => h.bool_inv) (VRs.cons (VRs.agg (VRs.cons (vr0a _ 0 rfl) (VRs.cons (vr0b _ 1 rfl) (VRs.cons (vr0c _ 2 rfl) (VRs.cons (.int _ _) (VRs.cons (vr0d _ 3 rfl) (VRs.cons (vr0e _ 4 rfl) (VRs.nil _)))))))) (VRs.cons (vr1 _ 5 rfl) (VRs.cons (.int _ _) (VRs.cons (VRs.agg (VRs.cons (vr3a _ 6 rfl) (VRs.cons (vr3b _ 7 rfl) (VRs.cons (vr3c _ 8 rfl) (VRs.cons (vr3d _ 9 rfl) (VRs.cons (.int _ _) (VRs.cons (vr3e _ 10 rfl) (VRs.cons (vr3f _ 11 rfl) (VRs.cons (vr3g _ 12 rfl) (VRs.nil _)))))))))) (VRs.nil _)))))).mono fun e W' ⟨he, hg⟩ => ?_
  subst he
  exact ⟨_, rfl, law_post (tb := 4) (by kernel_rfl) (fun t ht => by
    rw [Try.params7] at ht
    have : ([24, 22, 3, 58] : List TypeId).all (fun t => Try.prog.readableRec t && decide (t < Try.prog.types.size)) = true := by kernel_rfl
    have := List.all_eq_true.1 this t ht
    simp only [Bool.and_eq_true, decide_eq_true_eq] at this
    exact this) rfl hW' rfl rfl Try.underlying4 hg⟩

theorem over : Rows.nodesTextsRow.holds Try.pinned (OpenSpec.ofChange Rows.nodesTextsSpec) :=
  OpenClaim.holds_of_wide 7 Try.f7 rfl rfl rfl rfl rfl rfl rfl ⟨rfl, rfl, rfl, rfl, rfl⟩ rfl rfl rfl rfl rfl (by kernel_rfl) Try.func7 (by kernel_rfl)
    (of_decide_eq_true (by kernel_rfl)) (by unfold Func.isWrapper; first | (rw [if_pos (by decide +kernel)]; kernel_rfl) | (rw [if_neg (by decide +kernel)]; exact ⟨rfl, rfl⟩))
    (fun os started H enc _ => lifted os started H enc)

theorem proved : Rows.NodesTextsSaid :=
  over
#print axioms proved
end Go.Proofs.Ytmfacmccilipfaa.nodesTexts
