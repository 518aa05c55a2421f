/- What is signed of unlike leaves, groups or places is unlike: for every input. -/
import Derived.Test.YtmfacmccilipfaaP1
import Derived.Test.YtmfacmccilipfaaAbs2
import Derived.Test.YtmfacmccilipfaaRows
set_option linter.unusedVariables false
namespace Go.Proofs.Ytmfacmccilipfaa.nodesApart
open Go.ChangeShapes Go.WideShapes Go.ChangeAt Go.RowKit Go.Abs

theorem own : ownKnob Try.prog.godebug = none := by kernel_rfl
theorem cells5 : Try.prog.cellsOf 5 = 1 := by kernel_rfl
theorem bytes5 : Try.prog.bytesOf 5 = 1 := by kernel_rfl
set_option maxRecDepth 100000 in
theorem lifted (os : Os) (started : os.Started) (H : Type) (enc : TypeId × Value → H) :
    ReturnsInHanded {} Try.checked os 4 .any (Rows.nodesApartSpec.pre6 enc Try.prog Try.f4 Rows.nodesApartRow.domain false) (Rows.nodesApartSpec.post enc Try.prog Try.f4 false true false false) := by
  refine returnsInHanded_of_change_sized (C := Try.checked) own started (by kernel_rfl) Try.func4
    (ChangeSpec.witness6 (enc := enc) (C := Try.checked) false ⟨#[], #[.agg #[.slice none 0 0, .slice none 0 0, .slice none 0 0, .int .i64 0, .slice none 0 0, .slice none 0 0], .agg #[.slice none 0 0, .slice none 0 0, .slice none 0 0, .int .i64 0, .slice none 0 0, .slice none 0 0], .slice none 0 0, .slice none 0 0, .int .i64 0, .int .i64 0], []⟩ 8 (by kernel_rfl) (by kernel_rfl) (by kernel_rfl) (by kernel_rfl)) ?_
  intro W base args ds gs before hval0 hW hcnd hsz _
  have hval : ∀ (j : Nat) t v, Try.f4.params[j]? = some t → args[j]? = some v → Value.okWide Try.prog W .any base t v := hval0
  have hW' := hW
  obtain ⟨p, q, hA0, hV, rfl, hfz, hnd⟩ := hW
  have hA : DataW.TrodAll enc Try.prog W 0 (fun _ => true) true Try.f4.params.toList args.toList ds p := hA0
  rw [Try.params4] at hA hval hsz
  obtain ⟨v0, vs0, d0, ds0, p0, q0, hargs, rfl, rfl, t0, r0⟩ := trodAll_cons hA
  obtain ⟨v1, vs1, d1, ds1, p1, q1, rfl, rfl, rfl, t1, r1⟩ := trodAll_cons r0
  obtain ⟨v2, vs2, d2, ds2, p2, q2, rfl, rfl, rfl, t2, r2⟩ := trodAll_cons r1
  obtain ⟨v3, vs3, d3, ds3, p3, q3, rfl, rfl, rfl, t3, r3⟩ := trodAll_cons r2
  obtain ⟨v4, vs4, d4, ds4, p4, q4, rfl, rfl, rfl, t4, r4⟩ := trodAll_cons r3
  obtain ⟨v5, vs5, d5, ds5, p5, q5, rfl, rfl, rfl, t5, r5⟩ := trodAll_cons r4
  obtain ⟨rfl, rfl, rfl⟩ := trodAll_nil r5
  obtain rfl : args = #[v0, v1, v2, v3, v4, v5] := by cases args; simp_all
  obtain ⟨rfl, rfl⟩ := trodVars_none hV
  obtain ⟨u0a, u0b, u0c, u0i, u0d, u0e, y0a, y0b, y0c, y0i, y0d, y0e, fu0, rfl, rfl, t0a, t0b, t0c, t0i, t0d, t0e⟩ := open_six Try.underlying24 rfl (by kernel_rfl) (by kernel_rfl) (hval 0 24 v0 rfl rfl) t0
  obtain ⟨a0, rfl, h0⟩ := trod_i64 Try.underlying3 t0i
  obtain ⟨zs0a, n0a, l0a, k0a, z0a, m0a, g0a, o0a, b0a, c0a, vr0a⟩ := arg_bytesT Try.underlying22 Try.underlying5 cells5 bytes5 t0a (fun e s he => sized_part (j := 0) (i := 0) hsz rfl rfl Try.underlying24 rfl (congrArg some he) Try.underlying22)
  obtain ⟨zs0b, n0b, l0b, k0b, z0b, m0b, g0b, o0b, b0b, c0b, vr0b⟩ := arg_bytesT Try.underlying22 Try.underlying5 cells5 bytes5 t0b (fun e s he => sized_part (j := 0) (i := 1) hsz rfl rfl Try.underlying24 rfl (congrArg some he) Try.underlying22)
  obtain ⟨zs0c, n0c, l0c, k0c, z0c, m0c, g0c, o0c, b0c, c0c, vr0c⟩ := arg_bytesT Try.underlying22 Try.underlying5 cells5 bytes5 t0c (fun e s he => sized_part (j := 0) (i := 2) hsz rfl rfl Try.underlying24 rfl (congrArg some he) Try.underlying22)
  obtain ⟨zs0d, n0d, l0d, k0d, z0d, m0d, g0d, o0d, b0d, c0d, vr0d⟩ := arg_bytesT Try.underlying22 Try.underlying5 cells5 bytes5 t0d (fun e s he => sized_part (j := 0) (i := 4) hsz rfl rfl Try.underlying24 rfl (congrArg some he) Try.underlying22)
  obtain ⟨zs0e, n0e, l0e, k0e, z0e, m0e, g0e, o0e, b0e, c0e, vr0e⟩ := arg_bytesT Try.underlying22 Try.underlying5 cells5 bytes5 t0e (fun e s he => sized_part (j := 0) (i := 5) hsz rfl rfl Try.underlying24 rfl (congrArg some he) Try.underlying22)
  obtain ⟨u1a, u1b, u1c, u1i, u1d, u1e, y1a, y1b, y1c, y1i, y1d, y1e, fu1, rfl, rfl, t1a, t1b, t1c, t1i, t1d, t1e⟩ := open_six Try.underlying24 rfl (by kernel_rfl) (by kernel_rfl) (hval 1 24 v1 rfl rfl) t1
  obtain ⟨a1, rfl, h1⟩ := trod_i64 Try.underlying3 t1i
  obtain ⟨zs1a, n1a, l1a, k1a, z1a, m1a, g1a, o1a, b1a, c1a, vr1a⟩ := arg_bytesT Try.underlying22 Try.underlying5 cells5 bytes5 t1a (fun e s he => sized_part (j := 1) (i := 0) hsz rfl rfl Try.underlying24 rfl (congrArg some he) Try.underlying22)
  obtain ⟨zs1b, n1b, l1b, k1b, z1b, m1b, g1b, o1b, b1b, c1b, vr1b⟩ := arg_bytesT Try.underlying22 Try.underlying5 cells5 bytes5 t1b (fun e s he => sized_part (j := 1) (i := 1) hsz rfl rfl Try.underlying24 rfl (congrArg some he) Try.underlying22)
  obtain ⟨zs1c, n1c, l1c, k1c, z1c, m1c, g1c, o1c, b1c, c1c, vr1c⟩ := arg_bytesT Try.underlying22 Try.underlying5 cells5 bytes5 t1c (fun e s he => sized_part (j := 1) (i := 2) hsz rfl rfl Try.underlying24 rfl (congrArg some he) Try.underlying22)
  obtain ⟨zs1d, n1d, l1d, k1d, z1d, m1d, g1d, o1d, b1d, c1d, vr1d⟩ := arg_bytesT Try.underlying22 Try.underlying5 cells5 bytes5 t1d (fun e s he => sized_part (j := 1) (i := 4) hsz rfl rfl Try.underlying24 rfl (congrArg some he) Try.underlying22)
  obtain ⟨zs1e, n1e, l1e, k1e, z1e, m1e, g1e, o1e, b1e, c1e, vr1e⟩ := arg_bytesT Try.underlying22 Try.underlying5 cells5 bytes5 t1e (fun e s he => sized_part (j := 1) (i := 5) hsz rfl rfl Try.underlying24 rfl (congrArg some he) Try.underlying22)
  obtain ⟨zs2, n2, l2, k2, z2, m2, g2, o2, b2, c2, vr2⟩ := arg_bytes Try.underlying22 Try.underlying5 cells5 bytes5 (hval 2 22 v2 rfl rfl) t2 (fun e s he => sized_slice (j := 2) hsz rfl (by rw [he]; rfl) Try.underlying22)
  obtain ⟨zs3, n3, l3, k3, z3, m3, g3, o3, b3, c3, vr3⟩ := arg_bytes Try.underlying22 Try.underlying5 cells5 bytes5 (hval 3 22 v3 rfl rfl) t3 (fun e s he => sized_slice (j := 3) hsz rfl (by rw [he]; rfl) Try.underlying22)
  obtain ⟨a4, rfl, rfl, rfl, w4⟩ := open_int Try.underlying3 (hval 4 3 v4 rfl rfl) t4
  have h4 : -9223372036854775808 ≤ a4 ∧ a4 ≤ 9223372036854775807 := by simpa [Lit.wf, IntKind.min, IntKind.max, IntKind.signed, IntKind.bits] using w4
  obtain ⟨a5, rfl, rfl, rfl, w5⟩ := open_int Try.underlying3 (hval 5 3 v5 rfl rfl) t5
  have h5 : -9223372036854775808 ≤ a5 ∧ a5 ≤ 9223372036854775807 := by simpa [Lit.wf, IntKind.min, IntKind.max, IntKind.signed, IntKind.bits] using w5
  have hT : HR (fun _ => none) (nuL [l0a, l0b, l0c, l0d, l0e, l1a, l1b, l1c, l1d, l1e, l2, l3]) [some ⟨.ints .u8 zs0a, 0, false, 5⟩, some ⟨.ints .u8 zs0b, 0, false, 5⟩, some ⟨.ints .u8 zs0c, 0, false, 5⟩, some ⟨.ints .u8 zs0d, 0, false, 5⟩, some ⟨.ints .u8 zs0e, 0, false, 5⟩, some ⟨.ints .u8 zs1a, 0, false, 5⟩, some ⟨.ints .u8 zs1b, 0, false, 5⟩, some ⟨.ints .u8 zs1c, 0, false, 5⟩, some ⟨.ints .u8 zs1d, 0, false, 5⟩, some ⟨.ints .u8 zs1e, 0, false, 5⟩, some ⟨.ints .u8 zs2, 0, false, 5⟩, some ⟨.ints .u8 zs3, 0, false, 5⟩] W := by
    refine HR.args rfl fun p o hp => ?_
    match p, hp with
    | 0, hp => injection hp with hp; subst hp; exact ⟨_, _, l0a, rfl, rfl, g0a, .ints _ _, by rw [o0a]; exact Nat.le_refl _, b0a, bytes_obj c0a, FamOk.no rfl⟩
    | 1, hp => injection hp with hp; subst hp; exact ⟨_, _, l0b, rfl, rfl, g0b, .ints _ _, by rw [o0b]; exact Nat.le_refl _, b0b, bytes_obj c0b, FamOk.no rfl⟩
    | 2, hp => injection hp with hp; subst hp; exact ⟨_, _, l0c, rfl, rfl, g0c, .ints _ _, by rw [o0c]; exact Nat.le_refl _, b0c, bytes_obj c0c, FamOk.no rfl⟩
    | 3, hp => injection hp with hp; subst hp; exact ⟨_, _, l0d, rfl, rfl, g0d, .ints _ _, by rw [o0d]; exact Nat.le_refl _, b0d, bytes_obj c0d, FamOk.no rfl⟩
    | 4, hp => injection hp with hp; subst hp; exact ⟨_, _, l0e, rfl, rfl, g0e, .ints _ _, by rw [o0e]; exact Nat.le_refl _, b0e, bytes_obj c0e, FamOk.no rfl⟩
    | 5, hp => injection hp with hp; subst hp; exact ⟨_, _, l1a, rfl, rfl, g1a, .ints _ _, by rw [o1a]; exact Nat.le_refl _, b1a, bytes_obj c1a, FamOk.no rfl⟩
    | 6, hp => injection hp with hp; subst hp; exact ⟨_, _, l1b, rfl, rfl, g1b, .ints _ _, by rw [o1b]; exact Nat.le_refl _, b1b, bytes_obj c1b, FamOk.no rfl⟩
    | 7, hp => injection hp with hp; subst hp; exact ⟨_, _, l1c, rfl, rfl, g1c, .ints _ _, by rw [o1c]; exact Nat.le_refl _, b1c, bytes_obj c1c, FamOk.no rfl⟩
    | 8, hp => injection hp with hp; subst hp; exact ⟨_, _, l1d, rfl, rfl, g1d, .ints _ _, by rw [o1d]; exact Nat.le_refl _, b1d, bytes_obj c1d, FamOk.no rfl⟩
    | 9, hp => injection hp with hp; subst hp; exact ⟨_, _, l1e, rfl, rfl, g1e, .ints _ _, by rw [o1e]; exact Nat.le_refl _, b1e, bytes_obj c1e, FamOk.no rfl⟩
    | 10, hp => injection hp with hp; subst hp; exact ⟨_, _, l2, rfl, rfl, g2, .ints _ _, by rw [o2]; exact Nat.le_refl _, b2, bytes_obj c2, FamOk.no rfl⟩
    | 11, hp => injection hp with hp; subst hp; exact ⟨_, _, l3, rfl, rfl, g3, .ints _ _, by rw [o3]; exact Nat.le_refl _, b3, bytes_obj c3, FamOk.no rfl⟩
    | p + 12, hp => simp at hp
  have hown : ∀ (p : Nat) (o : AObj), ([some ⟨.ints .u8 zs0a, 0, false, 5⟩, some ⟨.ints .u8 zs0b, 0, false, 5⟩, some ⟨.ints .u8 zs0c, 0, false, 5⟩, some ⟨.ints .u8 zs0d, 0, false, 5⟩, some ⟨.ints .u8 zs0e, 0, false, 5⟩, some ⟨.ints .u8 zs1a, 0, false, 5⟩, some ⟨.ints .u8 zs1b, 0, false, 5⟩, some ⟨.ints .u8 zs1c, 0, false, 5⟩, some ⟨.ints .u8 zs1d, 0, false, 5⟩, some ⟨.ints .u8 zs1e, 0, false, 5⟩, some ⟨.ints .u8 zs2, 0, false, 5⟩, some ⟨.ints .u8 zs3, 0, false, 5⟩] : Tab)[p]? = some (some o) → o.own = false := by
    intro p o hp
    match p, hp with
    | 0, hp => injection hp with hp; injection hp with hp; subst hp; rfl
    | 1, hp => injection hp with hp; injection hp with hp; subst hp; rfl
    | 2, hp => injection hp with hp; injection hp with hp; subst hp; rfl
    | 3, hp => injection hp with hp; injection hp with hp; subst hp; rfl
    | 4, hp => injection hp with hp; injection hp with hp; subst hp; rfl
    | 5, hp => injection hp with hp; injection hp with hp; subst hp; rfl
    | 6, hp => injection hp with hp; injection hp with hp; subst hp; rfl
    | 7, hp => injection hp with hp; injection hp with hp; subst hp; rfl
    | 8, hp => injection hp with hp; injection hp with hp; subst hp; rfl
    | 9, hp => injection hp with hp; injection hp with hp; subst hp; rfl
    | 10, hp => injection hp with hp; injection hp with hp; subst hp; rfl
    | 11, hp => injection hp with hp; injection hp with hp; subst hp; rfl
    | p + 12, hp => simp at hp
  refine (calls_args ((law4 (i := a4) (k := a5) k0a k0b k0c k0d k0e k1a k1b k1c k1d k1e k2 k3 m0a m0b m0c m0d m0e m1a m1b m1c m1d m1e m2 m3 z0a z0b z0c z0d z0e z1a z1b z1c z1d z1e z2 z3).choose_spec) hT hown (fun ν y h => h.bool_inv) (VRs.cons (VRs.agg (VRs.cons (vr0a _ 0 rfl) (VRs.cons (vr0b _ 1 rfl) (VRs.cons (vr0c _ 2 rfl) (VRs.cons (.int _ _) (VRs.cons (vr0d _ 3 rfl) (VRs.cons (vr0e _ 4 rfl) (VRs.nil _)))))))) (VRs.cons (VRs.agg (VRs.cons (vr1a _ 5 rfl) (VRs.cons (vr1b _ 6 rfl) (VRs.cons (vr1c _ 7 rfl) (VRs.cons (.int _ _) (VRs.cons (vr1d _ 8 rfl) (VRs.cons (vr1e _ 9 rfl) (VRs.nil _)))))))) (VRs.cons (vr2 _ 10 rfl) (VRs.cons (vr3 _ 11 rfl) (VRs.cons (.int _ _) (VRs.cons (.int _ _) (VRs.nil _)))))))).mono fun e W' ⟨he, hg⟩ => ?_
  subst he
  exact ⟨_, rfl, law_post (tb := 4) (by kernel_rfl) (fun t ht => by
    rw [Try.params4] at ht
    have : ([24, 24, 22, 22, 3, 3] : List TypeId).all (fun t => Try.prog.readableRec t && decide (t < Try.prog.types.size)) = true := by kernel_rfl
    have := List.all_eq_true.1 this t ht
    simp only [Bool.and_eq_true, decide_eq_true_eq] at this
    exact this) rfl hW' rfl rfl Try.underlying4 hg⟩

theorem over : Rows.nodesApartRow.holds Try.pinned (OpenSpec.ofChange Rows.nodesApartSpec) :=
  OpenClaim.holds_of_wide 4 Try.f4 rfl rfl rfl rfl rfl rfl rfl ⟨rfl, rfl, rfl, rfl, rfl⟩ rfl rfl rfl rfl rfl (by kernel_rfl) Try.func4 (by kernel_rfl)
    (of_decide_eq_true (by kernel_rfl)) (by unfold Func.isWrapper; first | (rw [if_pos (by decide +kernel)]; kernel_rfl) | (rw [if_neg (by decide +kernel)]; exact ⟨rfl, rfl⟩))
    (fun os started H enc _ => lifted os started H enc)

theorem proved : Rows.NodesApartSaid :=
  over
#print axioms proved
end Go.Proofs.Ytmfacmccilipfaa.nodesApart
