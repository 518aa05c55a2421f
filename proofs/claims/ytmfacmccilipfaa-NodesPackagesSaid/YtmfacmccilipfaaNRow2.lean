/- Any package as bytes, any bytes as a package: the program answers as the document, for every input. -/
import Derived.Test.YtmfacmccilipfaaP4
import Derived.Test.YtmfacmccilipfaaAbs2
import Derived.Test.YtmfacmccilipfaaRows
set_option linter.unusedVariables false
namespace Go.Proofs.Ytmfacmccilipfaa.nodesPackages
open Go.ChangeShapes Go.WideShapes Go.ChangeAt Go.RowKit Go.Abs

theorem own : ownKnob Try.prog.godebug = none := by kernel_rfl
theorem cells5 : Try.prog.cellsOf 5 = 1 := by kernel_rfl
theorem bytes5 : Try.prog.bytesOf 5 = 1 := by kernel_rfl
set_option maxRecDepth 100000 in
theorem lifted (os : Os) (started : os.Started) (H : Type) (enc : TypeId × Value → H) :
    ReturnsInHanded {} Try.checked os 6 .any (Rows.nodesPackagesSpec.pre6 enc Try.prog Try.f6 Rows.nodesPackagesRow.domain false) (Rows.nodesPackagesSpec.post enc Try.prog Try.f6 false true false false) := by
  refine returnsInHanded_of_change_sized (C := Try.checked) own started (by kernel_rfl) Try.func6
    (ChangeSpec.witness6 (enc := enc) (C := Try.checked) false ⟨#[], #[.agg #[.slice none 0 0, .slice none 0 0, .slice none 0 0, .slice none 0 0, .int .i64 0, .slice none 0 0, .slice none 0 0, .slice none 0 0], .slice none 0 0], []⟩ 8 (by kernel_rfl) (by kernel_rfl) (by kernel_rfl) (by kernel_rfl)) ?_
  intro W base args ds gs before hval0 hW hcnd hsz _
  have hval : ∀ (j : Nat) t v, Try.f6.params[j]? = some t → args[j]? = some v → Value.okWide Try.prog W .any base t v := hval0
  have hW' := hW
  obtain ⟨p, q, hA0, hV, rfl, hfz, hnd⟩ := hW
  have hA : DataW.TrodAll enc Try.prog W 0 (fun _ => true) true Try.f6.params.toList args.toList ds p := hA0
  rw [Try.params6] at hA hval hsz
  obtain ⟨v0, vs0, d0, ds0, p0, q0, hargs, rfl, rfl, t0, r0⟩ := trodAll_cons hA
  obtain ⟨v1, vs1, d1, ds1, p1, q1, rfl, rfl, rfl, t1, r1⟩ := trodAll_cons r0
  obtain ⟨rfl, rfl, rfl⟩ := trodAll_nil r1
  obtain rfl : args = #[v0, v1] := by cases args; simp_all
  obtain ⟨rfl, rfl⟩ := trodVars_none hV
  obtain ⟨u0a, u0b, u0c, u0d, u0i, u0e, u0f, u0g, y0a, y0b, y0c, y0d, y0i, y0e, y0f, y0g, fu0, fw0, rfl, rfl, t0a, t0b, t0c, t0d, t0i, t0e, t0f, t0g⟩ := open_eight Try.underlying58 rfl (by kernel_rfl) (by kernel_rfl) (by kernel_rfl) (by kernel_rfl) Try.underlying24 rfl (by kernel_rfl) (hval 0 58 v0 rfl rfl) t0
  obtain ⟨a0, rfl, h0⟩ := trod_i64 Try.underlying3 t0i
  obtain ⟨zs0a, n0a, l0a, k0a, z0a, m0a, g0a, o0a, b0a, c0a, vr0a⟩ := arg_bytesT Try.underlying22 Try.underlying5 cells5 bytes5 t0a (fun e s he => sized_part (j := 0) (i := 0) hsz rfl rfl Try.underlying58 rfl (congrArg some he) Try.underlying22)
  obtain ⟨zs0g, n0g, l0g, k0g, z0g, m0g, g0g, o0g, b0g, c0g, vr0g⟩ := arg_bytesT Try.underlying22 Try.underlying5 cells5 bytes5 t0g (fun e s he => sized_part (j := 0) (i := 2) hsz rfl rfl Try.underlying58 rfl (congrArg some he) Try.underlying22)
  obtain ⟨zs0b, n0b, l0b, k0b, z0b, m0b, g0b, o0b, b0b, c0b, vr0b⟩ := arg_bytesT Try.underlying22 Try.underlying5 cells5 bytes5 t0b (fun e s he => sized_part2 (j := 0) (i := 1) (i2 := 0) hsz rfl rfl Try.underlying58 rfl rfl Try.underlying24 rfl (congrArg some he) Try.underlying22)
  obtain ⟨zs0c, n0c, l0c, k0c, z0c, m0c, g0c, o0c, b0c, c0c, vr0c⟩ := arg_bytesT Try.underlying22 Try.underlying5 cells5 bytes5 t0c (fun e s he => sized_part2 (j := 0) (i := 1) (i2 := 1) hsz rfl rfl Try.underlying58 rfl rfl Try.underlying24 rfl (congrArg some he) Try.underlying22)
  obtain ⟨zs0d, n0d, l0d, k0d, z0d, m0d, g0d, o0d, b0d, c0d, vr0d⟩ := arg_bytesT Try.underlying22 Try.underlying5 cells5 bytes5 t0d (fun e s he => sized_part2 (j := 0) (i := 1) (i2 := 2) hsz rfl rfl Try.underlying58 rfl rfl Try.underlying24 rfl (congrArg some he) Try.underlying22)
  obtain ⟨zs0e, n0e, l0e, k0e, z0e, m0e, g0e, o0e, b0e, c0e, vr0e⟩ := arg_bytesT Try.underlying22 Try.underlying5 cells5 bytes5 t0e (fun e s he => sized_part2 (j := 0) (i := 1) (i2 := 4) hsz rfl rfl Try.underlying58 rfl rfl Try.underlying24 rfl (congrArg some he) Try.underlying22)
  obtain ⟨zs0f, n0f, l0f, k0f, z0f, m0f, g0f, o0f, b0f, c0f, vr0f⟩ := arg_bytesT Try.underlying22 Try.underlying5 cells5 bytes5 t0f (fun e s he => sized_part2 (j := 0) (i := 1) (i2 := 5) hsz rfl rfl Try.underlying58 rfl rfl Try.underlying24 rfl (congrArg some he) Try.underlying22)
  obtain ⟨zs1, n1, l1, k1, z1, m1, g1, o1, b1, c1, vr1⟩ := arg_bytes Try.underlying22 Try.underlying5 cells5 bytes5 (hval 1 22 v1 rfl rfl) t1 (fun e s he => sized_slice (j := 1) hsz rfl (by rw [he]; rfl) Try.underlying22)
  have hT : HR (fun _ => none) (nuL [l0a, l0b, l0c, l0d, l0e, l0f, l0g, l1]) [some ⟨.ints .u8 zs0a, 0, false, 5⟩, some ⟨.ints .u8 zs0b, 0, false, 5⟩, some ⟨.ints .u8 zs0c, 0, false, 5⟩, some ⟨.ints .u8 zs0d, 0, false, 5⟩, some ⟨.ints .u8 zs0e, 0, false, 5⟩, some ⟨.ints .u8 zs0f, 0, false, 5⟩, some ⟨.ints .u8 zs0g, 0, false, 5⟩, some ⟨.ints .u8 zs1, 0, false, 5⟩] W := by
    refine HR.args rfl fun p o hp => ?_
    match p, hp with
    | 0, hp => injection hp with hp; subst hp; exact ⟨_, _, l0a, rfl, rfl, g0a, .ints _ _, by rw [o0a]; exact Nat.le_refl _, b0a, bytes_obj c0a, FamOk.no rfl⟩
    | 1, hp => injection hp with hp; subst hp; exact ⟨_, _, l0b, rfl, rfl, g0b, .ints _ _, by rw [o0b]; exact Nat.le_refl _, b0b, bytes_obj c0b, FamOk.no rfl⟩
    | 2, hp => injection hp with hp; subst hp; exact ⟨_, _, l0c, rfl, rfl, g0c, .ints _ _, by rw [o0c]; exact Nat.le_refl _, b0c, bytes_obj c0c, FamOk.no rfl⟩
    | 3, hp => injection hp with hp; subst hp; exact ⟨_, _, l0d, rfl, rfl, g0d, .ints _ _, by rw [o0d]; exact Nat.le_refl _, b0d, bytes_obj c0d, FamOk.no rfl⟩
    | 4, hp => injection hp with hp; subst hp; exact ⟨_, _, l0e, rfl, rfl, g0e, .ints _ _, by rw [o0e]; exact Nat.le_refl _, b0e, bytes_obj c0e, FamOk.no rfl⟩
    | 5, hp => injection hp with hp; subst hp; exact ⟨_, _, l0f, rfl, rfl, g0f, .ints _ _, by rw [o0f]; exact Nat.le_refl _, b0f, bytes_obj c0f, FamOk.no rfl⟩
    | 6, hp => injection hp with hp; subst hp; exact ⟨_, _, l0g, rfl, rfl, g0g, .ints _ _, by rw [o0g]; exact Nat.le_refl _, b0g, bytes_obj c0g, FamOk.no rfl⟩
    | 7, hp => injection hp with hp; subst hp; exact ⟨_, _, l1, rfl, rfl, g1, .ints _ _, by rw [o1]; exact Nat.le_refl _, b1, bytes_obj c1, FamOk.no rfl⟩
    | p + 8, hp => simp at hp
  have hown : ∀ (p : Nat) (o : AObj), ([some ⟨.ints .u8 zs0a, 0, false, 5⟩, some ⟨.ints .u8 zs0b, 0, false, 5⟩, some ⟨.ints .u8 zs0c, 0, false, 5⟩, some ⟨.ints .u8 zs0d, 0, false, 5⟩, some ⟨.ints .u8 zs0e, 0, false, 5⟩, some ⟨.ints .u8 zs0f, 0, false, 5⟩, some ⟨.ints .u8 zs0g, 0, false, 5⟩, some ⟨.ints .u8 zs1, 0, false, 5⟩] : Tab)[p]? = some (some o) → o.own = false := by
    intro p o hp
    match p, hp with
    | 0, hp => injection hp with hp; injection hp with hp; subst hp; rfl
    | 1, hp => injection hp with hp; injection hp with hp; subst hp; rfl
    | 2, hp => injection hp with hp; injection hp with hp; subst hp; rfl
    | 3, hp => injection hp with hp; injection hp with hp; subst hp; rfl
    | 4, hp => injection hp with hp; injection hp with hp; subst hp; rfl
    | 5, hp => injection hp with hp; injection hp with hp; subst hp; rfl
    | 6, hp => injection hp with hp; injection hp with hp; subst hp; rfl
    | 7, hp => injection hp with hp; injection hp with hp; subst hp; rfl
    | p + 8, hp => simp at hp
  refine (calls_args (law6 k0a k0b k0c k0d k0e k0f k0g k1 m0a m0b m0c m0d m0e m0f m0g m1 (by_mem (fun c hc => z1 c (List.mem_of_mem_drop (List.mem_of_mem_take hc))))) hT hown (fun ν y h => h.bool_inv) (VRs.cons (VRs.agg (VRs.cons (vr0a _ 0 rfl) (VRs.cons (vr0b _ 1 rfl) (VRs.cons (vr0c _ 2 rfl) (VRs.cons (vr0d _ 3 rfl) (VRs.cons (.int _ _) (VRs.cons (vr0e _ 4 rfl) (VRs.cons (vr0f _ 5 rfl) (VRs.cons (vr0g _ 6 rfl) (VRs.nil _)))))))))) (VRs.cons (vr1 _ 7 rfl) (VRs.nil _)))).mono fun e W' ⟨he, hg⟩ => ?_
  subst he
  exact ⟨_, rfl, law_post (tb := 4) (by kernel_rfl) (fun t ht => by
    rw [Try.params6] at ht
    have : ([58, 22] : List TypeId).all (fun t => Try.prog.readableRec t && decide (t < Try.prog.types.size)) = true := by kernel_rfl
    have := List.all_eq_true.1 this t ht
    simp only [Bool.and_eq_true, decide_eq_true_eq] at this
    exact this) rfl hW' rfl rfl Try.underlying4 hg⟩

theorem over : Rows.nodesPackagesRow.holds Try.pinned (OpenSpec.ofChange Rows.nodesPackagesSpec) :=
  OpenClaim.holds_of_wide 6 Try.f6 rfl rfl rfl rfl rfl rfl rfl ⟨rfl, rfl, rfl, rfl, rfl⟩ rfl rfl rfl rfl rfl (by kernel_rfl) Try.func6 (by kernel_rfl)
    (of_decide_eq_true (by kernel_rfl)) (by unfold Func.isWrapper; first | (rw [if_pos (by decide +kernel)]; kernel_rfl) | (rw [if_neg (by decide +kernel)]; exact ⟨rfl, rfl⟩))
    (fun os started H enc _ => lifted os started H enc)

theorem proved : Rows.NodesPackagesSaid :=
  over
#print axioms proved
end Go.Proofs.Ytmfacmccilipfaa.nodesPackages
