/- Vectors are read as they were written, and all of them; what is read is written the same: for every input of bulk at most 1048576 the law returns true. -/
import Derived.Test.YtmhfelkcibfigaaP1
import Derived.Test.YtmhfelkcibfigaaAbs2
import Derived.Test.YtmhfelkcibfigaaRows
import Derived.Deep.CondSized
import Derived.JoinedCond
set_option linter.unusedVariables false
namespace Go.Proofs.Ytmhfelkcibfigaa.codecBack
open Go.ChangeShapes Go.WideShapes Go.ChangeAt Go.RowKit Go.Abs

theorem own : ownKnob Try.prog.godebug = none := by kernel_rfl
theorem one_le {H : Type} (d : DataW H) : 1 ≤ Rows.uptoBulk d := by
  cases d with
  | lit l => cases l <;> simp [Rows.uptoBulk]
  | nil => simp [Rows.uptoBulk]
  | ptr d => simp [Rows.uptoBulk]
  | slice elems spare => simp [Rows.uptoBulk]
  | agg parts => simp [Rows.uptoBulk]
  | iface t d => simp [Rows.uptoBulk]
  | map entries => simp [Rows.uptoBulk]
  | held h => simp [Rows.uptoBulk]
theorem length_le {H : Type} (l : List (DataW H)) : l.length ≤ Rows.uptoBulkAll l := by
  induction l with
  | nil => simp [Rows.uptoBulkAll]
  | cons x r ih => have := one_le x; simp only [Rows.uptoBulkAll, List.length_cons]; omega
theorem len_le {H : Type} (d : DataW H) : lenD d + 1 ≤ Rows.uptoBulk d := by
  cases d with
  | slice es sp => have := length_le es; simp only [lenD, Rows.uptoBulk]; omega
  | _ => exact one_le _
theorem lens_le {H : Type} (l : List (DataW H)) : (l.map lenD).sum + l.length ≤ Rows.uptoBulkAll l := by
  induction l with
  | nil => simp [Rows.uptoBulkAll]
  | cons x r ih => have := len_le x; simp only [Rows.uptoBulkAll, List.map_cons, List.sum_cons, List.length_cons]; omega
theorem cells5 : Try.prog.cellsOf 5 = 1 := by kernel_rfl
theorem bytes5 : Try.prog.bytesOf 5 = 1 := by kernel_rfl
theorem cells23 : Try.prog.cellsOf 23 = 1 := by kernel_rfl
theorem bytes23 : Try.prog.bytesOf 23 = 24 := by kernel_rfl
set_option maxRecDepth 100000 in
theorem contract (H : Type) (enc : TypeId × Value → H) (W : World) (base : Nat) (args : Array Value) (ds gs : List (DataW H)) (before : List MemPlace)
    (hval0 : ∀ (j : Nat) t v, Try.f4.params[j]? = some t → args[j]? = some v → Value.okWide Try.prog W .any base t v)
    (hW : DataW.Whole enc Try.prog Try.f4.params.toList Rows.codecBackSpec.vars false W args.toList ds gs before) (hk : Rows.uptoSmall H (ds ++ gs) = true)
    (hsz : (DataW.weightsEach Try.prog (Try.f4.params.toList ++ Rows.codecBackSpec.plain.varTypes Try.prog) (ds ++ gs)).all (· ≤ reachBytes) = true) :
    Calls Try.prog 4 args W fun e W' => ∃ v, e = .returned v ∧ Rows.codecBackSpec.post enc Try.prog Try.f4 false true false false W args v W' := by
  have hval : ∀ (j : Nat) t v, Try.f4.params[j]? = some t → args[j]? = some v → Value.okWide Try.prog W .any base t v := hval0
  have hW' := hW
  obtain ⟨p, q, hA0, hV, rfl, hfz, hnd⟩ := hW
  have hA : DataW.TrodAll enc Try.prog W 0 (fun _ => true) true Try.f4.params.toList args.toList ds p := hA0
  rw [Try.params4] at hA hval hsz
  obtain ⟨v0, vs0, d0, ds0, p0, q0, hargs, rfl, rfl, t0, r0⟩ := trodAll_cons hA
  obtain ⟨v1, vs1, d1, ds1, p1, q1, rfl, rfl, rfl, t1, r1⟩ := trodAll_cons r0
  obtain ⟨rfl, rfl, rfl⟩ := trodAll_nil r1
  obtain rfl : args = #[v0, v1] := by cases args; simp_all
  obtain ⟨rfl, rfl⟩ := trodVars_none hV
  obtain ⟨Y0, kc0, l0, lf0, cc0, zz0, g0, gf0, of0, o0, b0, rl0, rr0, c0, vr0, dd0⟩ := arg_fam Try.underlying22 Try.underlying23 Try.underlying5 cells23 cells5 bytes23 (hval 0 22 v0 rfl rfl) t0 (fun e s he => sized_slice (j := 0) hsz rfl (by rw [he]; rfl) Try.underlying22)
  obtain ⟨zs1, n1, l1, k1, z1, m1, g1, o1, b1, c1, vr1, dd1⟩ := arg_bytesD Try.underlying23 Try.underlying5 cells5 bytes5 (hval 1 23 v1 rfl rfl) t1 (fun e s he => sized_slice (j := 1) hsz rfl (by rw [he]; rfl) Try.underlying23)
  have hall : Rows.uptoBulkAll [d0, d1] ≤ 1048576 := by
    have := of_decide_eq_true hk
    simpa only [List.append_nil] using this
  simp only [Rows.uptoBulkAll] at hall
  have hb0 : (Y0.map List.length).sum + Y0.length ≤ Rows.uptoBulk d0 := by
    rcases dd0 with ⟨rfl, rfl⟩ | ⟨es, sp, rfl, he⟩
    · simp
    · have h2 := lens_le es
      have h3 : es.length = Y0.length := by have := congrArg List.length he; simpa using this
      rw [he, h3] at h2
      simp only [Rows.uptoBulk]
      omega
  have hbulk : (Y0.map List.length).sum + Y0.length ≤ 1048576 := by omega
  have hb1 : zs1.length ≤ Rows.uptoBulk d1 := by
    rcases dd1 with ⟨rfl, rfl⟩ | ⟨es, sp, rfl, he⟩
    · simp
    · have h2 := length_le es
      have h3 := length_le sp
      simp only [Rows.uptoBulk]
      omega
  have hbulk1 : zs1.length ≤ 1048576 := by omega
  have hpost : ∀ W', Below W.heap.size W W' → ∃ v, (Ending.returned (.bool true)) = .returned v ∧ Rows.codecBackSpec.post enc Try.prog Try.f4 false true false false W #[v0, v1] v W' := fun W' hg =>
    ⟨_, rfl, law_post (tb := 4) (by kernel_rfl) (fun t ht => by
      rw [Try.params4] at ht
      have : ([22, 23] : List TypeId).all (fun t => Try.prog.readableRec t && decide (t < Try.prog.types.size)) = true := by kernel_rfl
      have := List.all_eq_true.1 this t ht
      simp only [Bool.and_eq_true, decide_eq_true_eq] at this
      exact this) rfl hW' rfl rfl Try.underlying4 hg⟩
  rcases Y0 with _ | ⟨z0, Z0⟩
  · have hT : HR (fun _ => none) (nuL [l0, l1]) [some ⟨.agg [], 0, false, 23⟩, some ⟨.ints .u8 zs1, 0, false, 5⟩] W := by
      refine HR.args rfl fun p o hp => ?_
      match p, hp with
      | 0, hp => injection hp with hp; subst hp; exact ⟨_, _, l0, rfl, rfl, g0, .agg _, Nat.zero_le _, b0, fun i hi => absurd hi (Nat.not_lt_zero i), FamOk.no rfl⟩
      | 1, hp => injection hp with hp; subst hp; exact ⟨_, _, l1, rfl, rfl, g1, .ints _ _, by rw [o1]; exact Nat.le_refl _, b1, bytes_obj c1, FamOk.no rfl⟩
      | p + 2, hp => simp at hp
    have hown : ∀ (p : Nat) (o : AObj), ([some ⟨.agg [], 0, false, 23⟩, some ⟨.ints .u8 zs1, 0, false, 5⟩] : Tab)[p]? = some (some o) → o.own = false := by
      intro p o hp
      match p, hp with
      | 0, hp => injection hp with hp; injection hp with hp; subst hp; rfl
      | 1, hp => injection hp with hp; injection hp with hp; subst hp; rfl
      | p + 2, hp => simp at hp
    refine (calls_args (law4e (c1 := some kc0) (c2 := some zs1.length) k1 (by omega) (by_sub z1)) hT hown (fun ν y h => h.bool_inv) (VRs.cons (vr0 _ 0 rfl) (VRs.cons (vr1 _ 1 rfl) (VRs.nil _)))).mono fun e W' ⟨he, hg⟩ => ?_
    subst he
    exact hpost _ hg
  · have hT : HR (fun _ => none) (nuL [l0, lf0, l1]) [some ⟨.frows 1 0 (z0 :: Z0) [], 0, false, 23⟩, some ⟨.fam (z0 :: Z0), 0, false, 5⟩, some ⟨.ints .u8 zs1, 0, false, 5⟩] W := by
      refine HR.args rfl fun p o hp => ?_
      match p, hp with
      | 0, hp => injection hp with hp; subst hp; exact ⟨_, _, l0, rfl, rfl, g0, .frows _ _ _ _, o0, b0, fam_obj (q := 1) rfl gf0 rl0 rr0 c0, FamOk.no rfl⟩
      | 1, hp => injection hp with hp; subst hp; exact ⟨_, _, lf0, rfl, rfl, gf0, .fam _, Nat.zero_le _, fun h => absurd h (by rw [of0]; exact Nat.lt_irrefl 0), fun i hi => absurd hi (Nat.not_lt_zero i), fam_ok rl0 rr0⟩
      | 2, hp => injection hp with hp; subst hp; exact ⟨_, _, l1, rfl, rfl, g1, .ints _ _, by rw [o1]; exact Nat.le_refl _, b1, bytes_obj c1, FamOk.no rfl⟩
      | p + 3, hp => simp at hp
    have hown : ∀ (p : Nat) (o : AObj), ([some ⟨.frows 1 0 (z0 :: Z0) [], 0, false, 23⟩, some ⟨.fam (z0 :: Z0), 0, false, 5⟩, some ⟨.ints .u8 zs1, 0, false, 5⟩] : Tab)[p]? = some (some o) → o.own = false := by
      intro p o hp
      match p, hp with
      | 0, hp => injection hp with hp; injection hp with hp; subst hp; rfl
      | 1, hp => injection hp with hp; injection hp with hp; subst hp; rfl
      | 2, hp => injection hp with hp; injection hp with hp; subst hp; rfl
      | p + 3, hp => simp at hp
    refine (calls_args (law4 (c1 := some kc0) (c2 := some zs1.length) zz0 (by have h1 := bulk_jn (z0 :: Z0); simp only [List.length_cons] at h1 hbulk; omega) (by simp only [List.length_cons] at hbulk; omega) k1 (by omega) (by_sub z1)) hT hown (fun ν y h => h.bool_inv) (VRs.cons (vr0 _ 0 rfl) (VRs.cons (vr1 _ 2 rfl) (VRs.nil _)))).mono fun e W' ⟨he, hg⟩ => ?_
    subst he
    exact hpost _ hg
set_option maxRecDepth 100000 in
theorem lifted (os : Os) (started : os.Started) (H : Type) (enc : TypeId × Value → H) (F : Stop.Interp) :
    ReturnsInHanded {} Try.checked os 4 .any ((Rows.OpenSpec.upto Rows.codecBackSpec).pre6 enc Try.prog Try.f4 Rows.codecBackUptoRow.domain false) (((Rows.OpenSpec.upto Rows.codecBackSpec).at F).post enc Try.prog Try.f4 false true false false) := by
  refine returnsInHanded_of_cond_sized (C := Try.checked) (s := (Rows.OpenSpec.upto Rows.codecBackSpec)) (k := Rows.uptoSmall) rfl own started (by kernel_rfl) Try.func4
    (OpenSpec.witness (enc := enc) (C := Try.checked) (s := (Rows.OpenSpec.upto Rows.codecBackSpec)) (k := Rows.uptoSmall) rfl false ⟨#[], #[.slice none 0 0, .slice none 0 0], []⟩ 8 (by kernel_rfl) (by kernel_rfl) (by kernel_rfl)
      (x := ([.nil, .nil], [], [])) (by kernel_rfl) rfl (by kernel_rfl)) ?_
  intro W base args ds gs before hval hW _ hk hsz _
  exact contract H enc W base args ds gs before hval hW hk hsz
theorem over : Rows.codecBackUptoRow.holds Try.pinned (Rows.OpenSpec.upto Rows.codecBackSpec) :=
  OpenClaim.holds_of_cond 4 Try.f4 rfl rfl rfl rfl rfl rfl rfl ⟨rfl, rfl, rfl, rfl, rfl⟩ rfl rfl rfl rfl rfl (by kernel_rfl) Try.func4 (by kernel_rfl)
    (of_decide_eq_true (by kernel_rfl)) (by unfold Func.isWrapper; first | (rw [if_pos (by decide +kernel)]; kernel_rfl) | (rw [if_neg (by decide +kernel)]; exact ⟨rfl, rfl⟩))
    (fun os started H enc _ F => lifted os started H enc F)
theorem proved : Rows.CodecBackUptoSaid :=
  over
#print axioms proved
end Go.Proofs.Ytmhfelkcibfigaa.codecBack
