/- Any parent as bytes, any bytes as a parent: the program answers as the document, for every input. -/
import Derived.Test.YtmfacmccilipfaaP2
import Derived.Test.YtmfacmccilipfaaAbs2
import Derived.Test.YtmfacmccilipfaaRows
set_option linter.unusedVariables false
namespace Go.Proofs.Ytmfacmccilipfaa.nodesParents
open Go.ChangeShapes Go.WideShapes Go.ChangeAt Go.RowKit Go.Abs

theorem own : ownKnob Try.prog.godebug = none := by kernel_rfl
theorem cells5 : Try.prog.cellsOf 5 = 1 := by kernel_rfl
theorem bytes5 : Try.prog.bytesOf 5 = 1 := by kernel_rfl
set_option maxRecDepth 100000 in
theorem lifted (os : Os) (started : os.Started) (H : Type) (enc : TypeId × Value → H) :
    ReturnsInHanded {} Try.checked os 5 .any (Rows.nodesParentsSpec.pre6 enc Try.prog Try.f5 Rows.nodesParentsRow.domain false) (Rows.nodesParentsSpec.post enc Try.prog Try.f5 false true false false) := by
  refine returnsInHanded_of_change_sized (C := Try.checked) own started (by kernel_rfl) Try.func5
    (ChangeSpec.witness6 (enc := enc) (C := Try.checked) false ⟨#[], #[.agg #[.slice none 0 0, .slice none 0 0, .slice none 0 0], .slice none 0 0], []⟩ 8 (by kernel_rfl) (by kernel_rfl) (by kernel_rfl) (by kernel_rfl)) ?_
  intro W base args ds gs before hval0 hW hcnd hsz _
  have hval : ∀ (j : Nat) t v, Try.f5.params[j]? = some t → args[j]? = some v → Value.okWide Try.prog W .any base t v := hval0
  have hW' := hW
  obtain ⟨p, q, hA0, hV, rfl, hfz, hnd⟩ := hW
  have hA : DataW.TrodAll enc Try.prog W 0 (fun _ => true) true Try.f5.params.toList args.toList ds p := hA0
  rw [Try.params5] at hA hval hsz
  obtain ⟨v0, vs0, d0, ds0, p0, q0, hargs, rfl, rfl, t0, r0⟩ := trodAll_cons hA
  obtain ⟨v1, vs1, d1, ds1, p1, q1, rfl, rfl, rfl, t1, r1⟩ := trodAll_cons r0
  obtain ⟨rfl, rfl, rfl⟩ := trodAll_nil r1
  obtain rfl : args = #[v0, v1] := by cases args; simp_all
  obtain ⟨rfl, rfl⟩ := trodVars_none hV
  obtain ⟨u0a, u0b, u0c, y0a, y0b, y0c, fu0, rfl, rfl, t0a, t0b, t0c⟩ := open_three Try.underlying46 rfl (by kernel_rfl) (by kernel_rfl) (by kernel_rfl) (by kernel_rfl) (hval 0 46 v0 rfl rfl) t0
  obtain ⟨zs0a, n0a, l0a, k0a, z0a, m0a, g0a, o0a, b0a, c0a, vr0a⟩ := arg_bytesT Try.underlying22 Try.underlying5 cells5 bytes5 t0a (fun e s he => sized_part (j := 0) (i := 0) hsz rfl rfl Try.underlying46 rfl (congrArg some he) Try.underlying22)
  obtain ⟨zs0b, n0b, l0b, k0b, z0b, m0b, g0b, o0b, b0b, c0b, vr0b⟩ := arg_bytesT Try.underlying22 Try.underlying5 cells5 bytes5 t0b (fun e s he => sized_part (j := 0) (i := 1) hsz rfl rfl Try.underlying46 rfl (congrArg some he) Try.underlying22)
  obtain ⟨zs0c, n0c, l0c, k0c, z0c, m0c, g0c, o0c, b0c, c0c, vr0c⟩ := arg_intsT Try.underlying44 Try.underlying3 (by kernel_rfl) (by kernel_rfl) t0c (fun e s he => sized_part (j := 0) (i := 2) hsz rfl rfl Try.underlying46 rfl (congrArg some he) Try.underlying44)
  obtain ⟨zs1, n1, l1, k1, z1, m1, g1, o1, b1, c1, vr1⟩ := arg_bytes Try.underlying22 Try.underlying5 cells5 bytes5 (hval 1 22 v1 rfl rfl) t1 (fun e s he => sized_slice (j := 1) hsz rfl (by rw [he]; rfl) Try.underlying22)
  have hT : HR (fun _ => none) (nuL [l0a, l0b, l0c, l1]) [some ⟨.ints .u8 zs0a, 0, false, 5⟩, some ⟨.ints .u8 zs0b, 0, false, 5⟩, some ⟨.ints .i64 zs0c, 0, false, 3⟩, some ⟨.ints .u8 zs1, 0, false, 5⟩] W := by
    refine HR.args rfl fun p o hp => ?_
    match p, hp with
    | 0, hp => injection hp with hp; subst hp; exact ⟨_, _, l0a, rfl, rfl, g0a, .ints _ _, by rw [o0a]; exact Nat.le_refl _, b0a, bytes_obj c0a, FamOk.no rfl⟩
    | 1, hp => injection hp with hp; subst hp; exact ⟨_, _, l0b, rfl, rfl, g0b, .ints _ _, by rw [o0b]; exact Nat.le_refl _, b0b, bytes_obj c0b, FamOk.no rfl⟩
    | 2, hp => injection hp with hp; subst hp; exact ⟨_, _, l0c, rfl, rfl, g0c, .ints _ _, by rw [o0c]; exact Nat.le_refl _, b0c, ints_obj c0c, FamOk.no rfl⟩
    | 3, hp => injection hp with hp; subst hp; exact ⟨_, _, l1, rfl, rfl, g1, .ints _ _, by rw [o1]; exact Nat.le_refl _, b1, bytes_obj c1, FamOk.no rfl⟩
    | p + 4, hp => simp at hp
  have hown : ∀ (p : Nat) (o : AObj), ([some ⟨.ints .u8 zs0a, 0, false, 5⟩, some ⟨.ints .u8 zs0b, 0, false, 5⟩, some ⟨.ints .i64 zs0c, 0, false, 3⟩, some ⟨.ints .u8 zs1, 0, false, 5⟩] : Tab)[p]? = some (some o) → o.own = false := by
    intro p o hp
    match p, hp with
    | 0, hp => injection hp with hp; injection hp with hp; subst hp; rfl
    | 1, hp => injection hp with hp; injection hp with hp; subst hp; rfl
    | 2, hp => injection hp with hp; injection hp with hp; subst hp; rfl
    | 3, hp => injection hp with hp; injection hp with hp; subst hp; rfl
    | p + 4, hp => simp at hp
  refine (calls_args (law5 k0a k0b k0c k1 m0a m0b m0c m1 (by_mem (fun c hc => z1 c (List.mem_of_mem_drop (List.mem_of_mem_take hc))))) hT hown (fun ν y h => h.bool_inv) (VRs.cons (VRs.agg (VRs.cons (vr0a _ 0 rfl) (VRs.cons (vr0b _ 1 rfl) (VRs.cons (vr0c _ 2 rfl) (VRs.nil _))))) (VRs.cons (vr1 _ 3 rfl) (VRs.nil _)))).mono fun e W' ⟨he, hg⟩ => ?_
  subst he
  exact ⟨_, rfl, law_post (tb := 4) (by kernel_rfl) (fun t ht => by
    rw [Try.params5] at ht
    have : ([46, 22] : List TypeId).all (fun t => Try.prog.readableRec t && decide (t < Try.prog.types.size)) = true := by kernel_rfl
    have := List.all_eq_true.1 this t ht
    simp only [Bool.and_eq_true, decide_eq_true_eq] at this
    exact this) rfl hW' rfl rfl Try.underlying4 hg⟩

theorem over : Rows.nodesParentsRow.holds Try.pinned (OpenSpec.ofChange Rows.nodesParentsSpec) :=
  OpenClaim.holds_of_wide 5 Try.f5 rfl rfl rfl rfl rfl rfl rfl ⟨rfl, rfl, rfl, rfl, rfl⟩ rfl rfl rfl rfl rfl (by kernel_rfl) Try.func5 (by kernel_rfl)
    (of_decide_eq_true (by kernel_rfl)) (by unfold Func.isWrapper; first | (rw [if_pos (by decide +kernel)]; kernel_rfl) | (rw [if_neg (by decide +kernel)]; exact ⟨rfl, rfl⟩))
    (fun os started H enc _ => lifted os started H enc)

theorem proved : Rows.NodesParentsSaid :=
  over
#print axioms proved
end Go.Proofs.Ytmfacmccilipfaa.nodesParents
