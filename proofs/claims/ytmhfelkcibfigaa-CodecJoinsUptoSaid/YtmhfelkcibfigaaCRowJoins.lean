/- Vectors one behind the other: for every input of bulk at most 1048576 the law returns true. -/
import Derived.Test.YtmhfelkcibfigaaP0
import Derived.Test.YtmhfelkcibfigaaAbs2
import Derived.Test.YtmhfelkcibfigaaRows
import Derived.Deep.CondSized
import Derived.JoinedCond
set_option linter.unusedVariables false
namespace Go.Proofs.Ytmhfelkcibfigaa.codecJoins
open Go.ChangeShapes Go.WideShapes Go.ChangeAt Go.RowKit Go.Abs

theorem own : ownKnob Try.prog.godebug = none := by kernel_rfl
theorem one_le {H : Type} (d : DataW H) : 1 ≤ Rows.uptoBulk d := by
  cases d with
  | lit l => cases l <;> simp [Rows.uptoBulk]
  | nil => simp [Rows.uptoBulk]
  | ptr d => simp [Rows.uptoBulk]
  | slice elems spare => simp [Rows.uptoBulk]
  | agg parts => simp [Rows.uptoBulk]
  | iface t d => simp [Rows.uptoBulk]
  | map entries => simp [Rows.uptoBulk]
  | held h => simp [Rows.uptoBulk]
theorem length_le {H : Type} (l : List (DataW H)) : l.length ≤ Rows.uptoBulkAll l := by
  induction l with
  | nil => simp [Rows.uptoBulkAll]
  | cons x r ih => have := one_le x; simp only [Rows.uptoBulkAll, List.length_cons]; omega
theorem len_le {H : Type} (d : DataW H) : lenD d + 1 ≤ Rows.uptoBulk d := by
  cases d with
  | slice es sp => have := length_le es; simp only [lenD, Rows.uptoBulk]; omega
  | _ => exact one_le _
theorem lens_le {H : Type} (l : List (DataW H)) : (l.map lenD).sum + l.length ≤ Rows.uptoBulkAll l := by
  induction l with
  | nil => simp [Rows.uptoBulkAll]
  | cons x r ih => have := len_le x; simp only [Rows.uptoBulkAll, List.map_cons, List.sum_cons, List.length_cons]; omega
theorem cells5 : Try.prog.cellsOf 5 = 1 := by kernel_rfl
theorem bytes5 : Try.prog.bytesOf 5 = 1 := by kernel_rfl
theorem cells23 : Try.prog.cellsOf 23 = 1 := by kernel_rfl
theorem bytes23 : Try.prog.bytesOf 23 = 24 := by kernel_rfl
set_option maxRecDepth 100000 in
theorem contract (H : Type) (enc : TypeId × Value → H) (W : World) (base : Nat) (args : Array Value) (ds gs : List (DataW H)) (before : List MemPlace)
    (hval0 : ∀ (j : Nat) t v, Try.f3.params[j]? = some t → args[j]? = some v → Value.okWide Try.prog W .any base t v)
    (hW : DataW.Whole enc Try.prog Try.f3.params.toList Rows.codecJoinsSpec.vars false W args.toList ds gs before) (hk : Rows.uptoSmall H (ds ++ gs) = true)
    (hsz : (DataW.weightsEach Try.prog (Try.f3.params.toList ++ Rows.codecJoinsSpec.plain.varTypes Try.prog) (ds ++ gs)).all (· ≤ reachBytes) = true) :
    Calls Try.prog 3 args W fun e W' => ∃ v, e = .returned v ∧ Rows.codecJoinsSpec.post enc Try.prog Try.f3 false true false false W args v W' := by
  have hval : ∀ (j : Nat) t v, Try.f3.params[j]? = some t → args[j]? = some v → Value.okWide Try.prog W .any base t v := hval0
  have hW' := hW
  obtain ⟨p, q, hA0, hV, rfl, hfz, hnd⟩ := hW
  have hA : DataW.TrodAll enc Try.prog W 0 (fun _ => true) true Try.f3.params.toList args.toList ds p := hA0
  rw [Try.params3] at hA hval hsz
  obtain ⟨v0, vs0, d0, ds0, p0, q0, hargs, rfl, rfl, t0, r0⟩ := trodAll_cons hA
  obtain ⟨rfl, rfl, rfl⟩ := trodAll_nil r0
  obtain rfl : args = #[v0] := by cases args; simp_all
  obtain ⟨rfl, rfl⟩ := trodVars_none hV
  obtain ⟨Y0, kc0, l0, lf0, cc0, zz0, g0, gf0, of0, o0, b0, rl0, rr0, c0, vr0, dd0⟩ := arg_fam Try.underlying22 Try.underlying23 Try.underlying5 cells23 cells5 bytes23 (hval 0 22 v0 rfl rfl) t0 (fun e s he => sized_slice (j := 0) hsz rfl (by rw [he]; rfl) Try.underlying22)
  have hbulk : (Y0.map List.length).sum + Y0.length ≤ 1048576 := by
    have h : Rows.uptoBulkAll [d0] ≤ 1048576 := by
      have := of_decide_eq_true hk
      simpa only [List.append_nil] using this
    have h1 : (Y0.map List.length).sum + Y0.length ≤ Rows.uptoBulk d0 := by
      rcases dd0 with ⟨rfl, rfl⟩ | ⟨es, sp, rfl, he⟩
      · simp
      · have h2 := lens_le es
        have h3 : es.length = Y0.length := by have := congrArg List.length he; simpa using this
        rw [he, h3] at h2
        simp only [Rows.uptoBulk]
        omega
    simp only [Rows.uptoBulkAll] at h
    omega
  have hpost : ∀ W', Below W.heap.size W W' → ∃ v, (Ending.returned (.bool true)) = .returned v ∧ Rows.codecJoinsSpec.post enc Try.prog Try.f3 false true false false W #[v0] v W' := fun W' hg =>
    ⟨_, rfl, law_post (tb := 4) (by kernel_rfl) (fun t ht => by
      rw [Try.params3] at ht
      have : ([22] : List TypeId).all (fun t => Try.prog.readableRec t && decide (t < Try.prog.types.size)) = true := by kernel_rfl
      have := List.all_eq_true.1 this t ht
      simp only [Bool.and_eq_true, decide_eq_true_eq] at this
      exact this) rfl hW' rfl rfl Try.underlying4 hg⟩
  rcases Y0 with _ | ⟨z0, Z0⟩
  · have hT : HR (fun _ => none) (nuL [l0]) [some ⟨.agg [], 0, false, 23⟩] W := by
      refine HR.args rfl fun p o hp => ?_
      match p, hp with
      | 0, hp => injection hp with hp; subst hp; exact ⟨_, _, l0, rfl, rfl, g0, .agg _, Nat.zero_le _, b0, fun i hi => absurd hi (Nat.not_lt_zero i), FamOk.no rfl⟩
      | p + 1, hp => simp at hp
    have hown : ∀ (p : Nat) (o : AObj), ([some ⟨.agg [], 0, false, 23⟩] : Tab)[p]? = some (some o) → o.own = false := by
      intro p o hp
      match p, hp with
      | 0, hp => injection hp with hp; injection hp with hp; subst hp; rfl
      | p + 1, hp => simp at hp
    refine (calls_args (law3e (cp := some kc0)) hT hown (fun ν y h => h.bool_inv) (VRs.cons (vr0 _ 0 rfl) (VRs.nil _))).mono fun e W' ⟨he, hg⟩ => ?_
    subst he
    exact hpost _ hg
  · have hT : HR (fun _ => none) (nuL [l0, lf0]) [some ⟨.frows 1 0 (z0 :: Z0) [], 0, false, 23⟩, some ⟨.fam (z0 :: Z0), 0, false, 5⟩] W := by
      refine HR.args rfl fun p o hp => ?_
      match p, hp with
      | 0, hp => injection hp with hp; subst hp; exact ⟨_, _, l0, rfl, rfl, g0, .frows _ _ _ _, o0, b0, fam_obj (q := 1) rfl gf0 rl0 rr0 c0, FamOk.no rfl⟩
      | 1, hp => injection hp with hp; subst hp; exact ⟨_, _, lf0, rfl, rfl, gf0, .fam _, Nat.zero_le _, fun h => absurd h (by rw [of0]; exact Nat.lt_irrefl 0), fun i hi => absurd hi (Nat.not_lt_zero i), fam_ok rl0 rr0⟩
      | p + 2, hp => simp at hp
    have hown : ∀ (p : Nat) (o : AObj), ([some ⟨.frows 1 0 (z0 :: Z0) [], 0, false, 23⟩, some ⟨.fam (z0 :: Z0), 0, false, 5⟩] : Tab)[p]? = some (some o) → o.own = false := by
      intro p o hp
      match p, hp with
      | 0, hp => injection hp with hp; injection hp with hp; subst hp; rfl
      | 1, hp => injection hp with hp; injection hp with hp; subst hp; rfl
      | p + 2, hp => simp at hp
    refine (calls_args (law3 (cp := some kc0) (by have h1 := bulk_jn (z0 :: Z0); simp only [List.length_cons] at h1 hbulk; omega) (by simp only [List.length_cons] at cc0; omega)) hT hown (fun ν y h => h.bool_inv) (VRs.cons (vr0 _ 0 rfl) (VRs.nil _))).mono fun e W' ⟨he, hg⟩ => ?_
    subst he
    exact hpost _ hg
set_option maxRecDepth 100000 in
theorem lifted (os : Os) (started : os.Started) (H : Type) (enc : TypeId × Value → H) (F : Stop.Interp) :
    ReturnsInHanded {} Try.checked os 3 .any ((Rows.OpenSpec.upto Rows.codecJoinsSpec).pre6 enc Try.prog Try.f3 Rows.codecJoinsUptoRow.domain false) (((Rows.OpenSpec.upto Rows.codecJoinsSpec).at F).post enc Try.prog Try.f3 false true false false) := by
  refine returnsInHanded_of_cond_sized (C := Try.checked) (s := (Rows.OpenSpec.upto Rows.codecJoinsSpec)) (k := Rows.uptoSmall) rfl own started (by kernel_rfl) Try.func3
    (OpenSpec.witness (enc := enc) (C := Try.checked) (s := (Rows.OpenSpec.upto Rows.codecJoinsSpec)) (k := Rows.uptoSmall) rfl false ⟨#[], #[.slice none 0 0], []⟩ 8 (by kernel_rfl) (by kernel_rfl) (by kernel_rfl)
      (x := ([.nil], [], [])) (by kernel_rfl) rfl (by kernel_rfl)) ?_
  intro W base args ds gs before hval hW _ hk hsz _
  exact contract H enc W base args ds gs before hval hW hk hsz
theorem over : Rows.codecJoinsUptoRow.holds Try.pinned (Rows.OpenSpec.upto Rows.codecJoinsSpec) :=
  OpenClaim.holds_of_cond 3 Try.f3 rfl rfl rfl rfl rfl rfl rfl ⟨rfl, rfl, rfl, rfl, rfl⟩ rfl rfl rfl rfl rfl (by kernel_rfl) Try.func3 (by kernel_rfl)
    (of_decide_eq_true (by kernel_rfl)) (by unfold Func.isWrapper; first | (rw [if_pos (by decide +kernel)]; kernel_rfl) | (rw [if_neg (by decide +kernel)]; exact ⟨rfl, rfl⟩))
    (fun os started H enc _ F => lifted os started H enc F)
theorem proved : Rows.CodecJoinsUptoSaid :=
  over
#print axioms proved
end Go.Proofs.Ytmhfelkcibfigaa.codecJoins
