/- GcmLaws: products do not care about order and grouping, and are spread over sums; the hash of one block is its product. -/
import Derived.Test.YtlnflmjgnmljeaaP2
import Derived.Test.YtlnflmjgnmljeaaAbs2
import Derived.Test.YtlnflmjgnmljeaaRows
set_option linter.unusedVariables false
namespace Go.Proofs.Ytlnflmjgnmljeaa.gcmLaws
open Go.ChangeShapes Go.WideShapes Go.ChangeAt Go.RowKit Go.Abs

theorem own : ownKnob Try.prog.godebug = none := by kernel_rfl
theorem cells5 : Try.prog.cellsOf 5 = 1 := by kernel_rfl
theorem bytes5 : Try.prog.bytesOf 5 = 1 := by kernel_rfl
set_option maxRecDepth 100000 in
theorem lifted (os : Os) (started : os.Started) (H : Type) (enc : TypeId × Value → H) :
    ReturnsInHanded {} Try.checked os 14 .any (Rows.gcmLawsSpec.pre6 enc Try.prog Try.f14 Rows.gcmLawsRow.domain false) (Rows.gcmLawsSpec.post enc Try.prog Try.f14 false true false false) := by
  refine returnsInHanded_of_change_sized (C := Try.checked) own started (by kernel_rfl) Try.func14
    (ChangeSpec.witness6 (enc := enc) (C := Try.checked) false ⟨#[], #[.slice none 0 0, .slice none 0 0, .slice none 0 0], []⟩ 8 (by kernel_rfl) (by kernel_rfl) (by kernel_rfl) (by kernel_rfl)) ?_
  intro W base args ds gs before hval0 hW hcnd hsz _
  have hval : ∀ (j : Nat) t v, Try.f14.params[j]? = some t → args[j]? = some v → Value.okWide Try.prog W .any base t v := hval0
  have hW' := hW
  obtain ⟨p, q, hA0, hV, rfl, hfz, hnd⟩ := hW
  have hA : DataW.TrodAll enc Try.prog W 0 (fun _ => true) true Try.f14.params.toList args.toList ds p := hA0
  rw [Try.params14] at hA hval hsz
  obtain ⟨v0, vs0, d0, ds0, p0, q0, hargs, rfl, rfl, t0, r0⟩ := trodAll_cons hA
  obtain ⟨v1, vs1, d1, ds1, p1, q1, rfl, rfl, rfl, t1, r1⟩ := trodAll_cons r0
  obtain ⟨v2, vs2, d2, ds2, p2, q2, rfl, rfl, rfl, t2, r2⟩ := trodAll_cons r1
  obtain ⟨rfl, rfl, rfl⟩ := trodAll_nil r2
  obtain rfl : args = #[v0, v1, v2] := by cases args; simp_all
  obtain ⟨rfl, rfl⟩ := trodVars_none hV
  obtain ⟨zs0, n0, l0, k0, z0, m0, g0, o0, b0, c0, vr0⟩ := arg_bytes Try.underlying25 Try.underlying5 cells5 bytes5 (hval 0 25 v0 rfl rfl) t0 (fun e s he => sized_slice (j := 0) hsz rfl (by rw [he]; rfl) Try.underlying25)
  obtain ⟨zs1, n1, l1, k1, z1, m1, g1, o1, b1, c1, vr1⟩ := arg_bytes Try.underlying25 Try.underlying5 cells5 bytes5 (hval 1 25 v1 rfl rfl) t1 (fun e s he => sized_slice (j := 1) hsz rfl (by rw [he]; rfl) Try.underlying25)
  obtain ⟨zs2, n2, l2, k2, z2, m2, g2, o2, b2, c2, vr2⟩ := arg_bytes Try.underlying25 Try.underlying5 cells5 bytes5 (hval 2 25 v2 rfl rfl) t2 (fun e s he => sized_slice (j := 2) hsz rfl (by rw [he]; rfl) Try.underlying25)
  have hT : HR (fun _ => none) (nuL [l0, l1, l2]) [some ⟨.ints .u8 zs0, 0, false, 5⟩, some ⟨.ints .u8 zs1, 0, false, 5⟩, some ⟨.ints .u8 zs2, 0, false, 5⟩] W := by
    refine HR.args rfl fun p o hp => ?_
    match p, hp with
    | 0, hp => injection hp with hp; subst hp; exact ⟨_, _, l0, rfl, rfl, g0, .ints _ _, by rw [o0]; exact Nat.le_refl _, b0, bytes_obj c0⟩
    | 1, hp => injection hp with hp; subst hp; exact ⟨_, _, l1, rfl, rfl, g1, .ints _ _, by rw [o1]; exact Nat.le_refl _, b1, bytes_obj c1⟩
    | 2, hp => injection hp with hp; subst hp; exact ⟨_, _, l2, rfl, rfl, g2, .ints _ _, by rw [o2]; exact Nat.le_refl _, b2, bytes_obj c2⟩
    | p + 3, hp => simp at hp
  have hown : ∀ (p : Nat) (o : AObj), ([some ⟨.ints .u8 zs0, 0, false, 5⟩, some ⟨.ints .u8 zs1, 0, false, 5⟩, some ⟨.ints .u8 zs2, 0, false, 5⟩] : Tab)[p]? = some (some o) → o.own = false := by
    intro p o hp
    match p, hp with
    | 0, hp => injection hp with hp; injection hp with hp; subst hp; rfl
    | 1, hp => injection hp with hp; injection hp with hp; subst hp; rfl
    | 2, hp => injection hp with hp; injection hp with hp; subst hp; rfl
    | p + 3, hp => simp at hp
  refine (calls_args ((law14 k0 z0 m0 k1 z1 m1 k2 z2 m2)) hT hown (fun ν y h => h.bool_inv) (VRs.cons (vr0 _ 0 rfl) (VRs.cons (vr1 _ 1 rfl) (VRs.cons (vr2 _ 2 rfl) (VRs.nil _))))).mono fun e W' ⟨he, hg⟩ => ?_
  subst he
  exact ⟨_, rfl, law_post (tb := 4) (by kernel_rfl) (fun t ht => by
    rw [Try.params14] at ht
    have : ([25, 25, 25] : List TypeId).all (fun t => Try.prog.readableRec t && decide (t < Try.prog.types.size)) = true := by kernel_rfl
    have := List.all_eq_true.1 this t ht
    simp only [Bool.and_eq_true, decide_eq_true_eq] at this
    exact this) rfl hW' rfl rfl Try.underlying4 hg⟩

theorem over : Rows.gcmLawsRow.holds Try.pinned (OpenSpec.ofChange Rows.gcmLawsSpec) :=
  OpenClaim.holds_of_wide 14 Try.f14 rfl rfl rfl rfl rfl rfl rfl ⟨rfl, rfl, rfl, rfl, rfl⟩ rfl rfl rfl rfl rfl (by kernel_rfl) Try.func14 (by kernel_rfl)
    (of_decide_eq_true (by kernel_rfl)) (by unfold Func.isWrapper; first | (rw [if_pos (by decide +kernel)]; kernel_rfl) | (rw [if_neg (by decide +kernel)]; exact ⟨rfl, rfl⟩))
    (fun os started H enc _ => lifted os started H enc)

theorem proved : Rows.GcmLawsSaid :=
  over
#print axioms proved
end Go.Proofs.Ytlnflmjgnmljeaa.gcmLaws
