/- The statement CodecWrites: the law returns true at every two whole numbers and every slice of bytes, and leaves what was there as it was. No condition. -/
import Derived.Test.YtmhfelkcibfigaaCB5
import Derived.Test.YtmhfelkcibfigaaAbs2
import Derived.Test.YtmhfelkcibfigaaRows
set_option linter.unusedVariables false
namespace Go.Proofs.Ytmhfelkcibfigaa.codecWrites
open Go.ChangeShapes Go.WideShapes Go.ChangeAt Go.RowKit Go.Abs

theorem own : ownKnob Try.prog.godebug = none := by kernel_rfl
theorem cells5 : Try.prog.cellsOf 5 = 1 := by kernel_rfl
theorem bytes5 : Try.prog.bytesOf 5 = 1 := by kernel_rfl
set_option maxRecDepth 100000 in
theorem lifted (os : Os) (started : os.Started) (H : Type) (enc : TypeId × Value → H) :
    ReturnsInHanded {} Try.checked os 6 .any (Rows.codecWritesSpec.pre6 enc Try.prog Try.f6 Rows.codecWritesRow.domain false) (Rows.codecWritesSpec.post enc Try.prog Try.f6 false true false false) := by
  refine returnsInHanded_of_change_sized (C := Try.checked) own started (by kernel_rfl) Try.func6
    (ChangeSpec.witness6 (enc := enc) (C := Try.checked) false ⟨#[], #[.int .i64 0, .int .i64 0, .slice none 0 0], []⟩ 8 (by kernel_rfl) (by kernel_rfl) (by kernel_rfl) (by kernel_rfl)) ?_
  intro W base args ds gs before hval0 hW hcnd hsz _
  have hval : ∀ (j : Nat) t v, Try.f6.params[j]? = some t → args[j]? = some v → Value.okWide Try.prog W .any base t v := hval0
  have hW' := hW
  obtain ⟨p, q, hA0, hV, rfl, hfz, hnd⟩ := hW
  have hA : DataW.TrodAll enc Try.prog W 0 (fun _ => true) true Try.f6.params.toList args.toList ds p := hA0
  rw [Try.params6] at hA hval hsz
  obtain ⟨v0, vs0, d0, ds0, p0, q0, hargs, rfl, rfl, t0, r0⟩ := trodAll_cons hA
  obtain ⟨v1, vs1, d1, ds1, p1, q1, rfl, rfl, rfl, t1, r1⟩ := trodAll_cons r0
  obtain ⟨v2, vs2, d2, ds2, p2, q2, rfl, rfl, rfl, t2, r2⟩ := trodAll_cons r1
  obtain ⟨rfl, rfl, rfl⟩ := trodAll_nil r2
  obtain rfl : args = #[v0, v1, v2] := by cases args; simp_all
  obtain ⟨rfl, rfl⟩ := trodVars_none hV
  obtain ⟨a0, rfl, rfl, rfl, w0⟩ := open_int Try.underlying3 (hval 0 3 v0 rfl rfl) t0
  have h0 : -9223372036854775808 ≤ a0 ∧ a0 ≤ 9223372036854775807 := by simpa [Lit.wf, IntKind.min, IntKind.max, IntKind.signed, IntKind.bits] using w0
  obtain ⟨a1, rfl, rfl, rfl, w1⟩ := open_int Try.underlying3 (hval 1 3 v1 rfl rfl) t1
  have h1 : -9223372036854775808 ≤ a1 ∧ a1 ≤ 9223372036854775807 := by simpa [Lit.wf, IntKind.min, IntKind.max, IntKind.signed, IntKind.bits] using w1
  obtain ⟨zs2, n2, l2, k2, z2, m2, g2, o2, b2, c2, vr2⟩ := arg_bytes Try.underlying23 Try.underlying5 cells5 bytes5 (hval 2 23 v2 rfl rfl) t2 (fun e s he => sized_slice (j := 2) hsz rfl (by rw [he]; rfl) Try.underlying23)
  have hT : HR (fun _ => none) (nuL [l2]) [some ⟨.ints .u8 zs2, 0, false, 5⟩] W := by
    refine HR.args rfl fun p o hp => ?_
    match p, hp with
    | 0, hp => injection hp with hp; subst hp; exact ⟨_, _, l2, rfl, rfl, g2, .ints _ _, by rw [o2]; exact Nat.le_refl _, b2, bytes_obj c2⟩
    | p + 1, hp => simp at hp
  have hown : ∀ (p : Nat) (o : AObj), ([some ⟨.ints .u8 zs2, 0, false, 5⟩] : Tab)[p]? = some (some o) → o.own = false := by
    intro p o hp
    match p, hp with
    | 0, hp => injection hp with hp; injection hp with hp; subst hp; rfl
    | p + 1, hp => simp at hp
  refine (calls_args (law6 (a := a0) (b := a1) k2 m2) hT hown (fun ν y h => h.bool_inv) (VRs.cons (.int _ _) (VRs.cons (.int _ _) (VRs.cons (vr2 _ 0 rfl) (VRs.nil _))))).mono fun e W' ⟨he, hg⟩ => ?_
  subst he
  exact ⟨_, rfl, law_post (tb := 4) (by kernel_rfl) (fun t ht => by
    rw [Try.params6] at ht
    have : ([3, 3, 23] : List TypeId).all (fun t => Try.prog.readableRec t && decide (t < Try.prog.types.size)) = true := by kernel_rfl
    have := List.all_eq_true.1 this t ht
    simp only [Bool.and_eq_true, decide_eq_true_eq] at this
    exact this) rfl hW' rfl rfl Try.underlying4 hg⟩

theorem over : Rows.codecWritesRow.holds Try.pinned (OpenSpec.ofChange Rows.codecWritesSpec) :=
  OpenClaim.holds_of_wide 6 Try.f6 rfl rfl rfl rfl rfl rfl rfl ⟨rfl, rfl, rfl, rfl, rfl⟩ rfl rfl rfl rfl rfl (by kernel_rfl) Try.func6 (by kernel_rfl)
    (of_decide_eq_true (by kernel_rfl)) (by unfold Func.isWrapper; first | (rw [if_pos (by decide +kernel)]; kernel_rfl) | (rw [if_neg (by decide +kernel)]; exact ⟨rfl, rfl⟩))
    (fun os started H enc _ => lifted os started H enc)

theorem proved : Rows.CodecWritesSaid :=
  over
#print axioms proved
end Go.Proofs.Ytmhfelkcibfigaa.codecWrites
