/- In whatever pieces bytes are written, and however often they are asked, the sum is that of all of them: for every input of bulk at most 1048576 the law returns true. -/
import Derived.Test.YtkbfjfookfmobaaDoorP3
import Derived.Test.YtkbfjfookfmobaaDoorAbs2
import Derived.Test.YtkbfjfookfmobaaDoorCards
import Derived.Test.YtkbfjfookfmobaaDoorTie
import Derived.SevenTiedAt
set_option linter.unusedVariables false
namespace Go.Proofs.YtkbfjfookfmobaaDoor.shaPieces
open Go.ChangeShapes Go.WideShapes Go.ChangeAt Go.RowKit Go.Abs

theorem own : ownKnob Tryd.prog.godebug = none := by kernel_rfl
theorem one_le {H : Type} (d : DataW H) : 1 ≤ Rows.uptoBulk d := by
  cases d with
  | lit l => cases l <;> simp [Rows.uptoBulk]
  | nil => simp [Rows.uptoBulk]
  | ptr d => simp [Rows.uptoBulk]
  | slice elems spare => simp [Rows.uptoBulk]
  | agg parts => simp [Rows.uptoBulk]
  | iface t d => simp [Rows.uptoBulk]
  | map entries => simp [Rows.uptoBulk]
  | held h => simp [Rows.uptoBulk]
theorem length_le {H : Type} (l : List (DataW H)) : l.length ≤ Rows.uptoBulkAll l := by
  induction l with
  | nil => simp [Rows.uptoBulkAll]
  | cons x r ih => have := one_le x; simp only [Rows.uptoBulkAll, List.length_cons]; omega
theorem len_le {H : Type} (d : DataW H) : lenD d + 1 ≤ Rows.uptoBulk d := by
  cases d with
  | slice es sp => have := length_le es; simp only [lenD, Rows.uptoBulk]; omega
  | _ => exact one_le _
theorem lens_le {H : Type} (l : List (DataW H)) : (l.map lenD).sum + l.length ≤ Rows.uptoBulkAll l := by
  induction l with
  | nil => simp [Rows.uptoBulkAll]
  | cons x r ih => have := len_le x; simp only [Rows.uptoBulkAll, List.map_cons, List.sum_cons, List.length_cons]; omega
theorem cells5 : Tryd.prog.cellsOf 5 = 1 := by kernel_rfl
theorem bytes5 : Tryd.prog.bytesOf 5 = 1 := by kernel_rfl
theorem cells22 : Tryd.prog.cellsOf 22 = 1 := by kernel_rfl
theorem bytes22 : Tryd.prog.bytesOf 22 = 24 := by kernel_rfl
theorem gTab1 : Tryd.prog.globalNamed "synod/sha.cubes" = some 1 := by kernel_rfl
theorem gType1 : (Tryd.prog.globals[1]?).map (·.type) = some 79 := by kernel_rfl
theorem cellsT79 : Tryd.prog.cellsOf 79 = cubesLaw.length := by kernel_rfl
theorem gTab0 : Tryd.prog.globalNamed "synod/sha.squares" = some 0 := by kernel_rfl
theorem gType0 : (Tryd.prog.globals[0]?).map (·.type) = some 71 := by kernel_rfl
theorem cellsT71 : Tryd.prog.cellsOf 71 = squaresLaw.length := by kernel_rfl
theorem cellsE56 : Tryd.prog.cellsOf 56 = 1 := by kernel_rfl
set_option maxRecDepth 100000 in
theorem contract (H : Type) (enc : TypeId × Value → H) (W : World) (base : Nat) (args : Array Value) (ds gs : List (DataW H)) (before : List MemPlace)
    (hval0 : ∀ (j : Nat) t v, Tryd.f6.params[j]? = some t → args[j]? = some v → Value.okWide Tryd.prog W .any base t v)
    (hW : DataW.Whole enc Tryd.prog Tryd.f6.params.toList Rows.shaPiecesSpec.vars false W args.toList ds gs before) (hk : Rows.uptoSmall H (ds ++ gs) = true)
    (hsz : (DataW.weightsEach Tryd.prog (Tryd.f6.params.toList ++ Rows.shaPiecesSpec.plain.varTypes Tryd.prog) (ds ++ gs)).all (· ≤ reachBytes) = true) (hL : laidMetH Tryd.prog Rows.shaPiecesUptoRow.laid W) :
    Calls Tryd.prog 6 args W fun e W' => ∃ v, e = .returned v ∧ Rows.shaPiecesSpec.post enc Tryd.prog Tryd.f6 false true false false W args v W' := by
  have hval : ∀ (j : Nat) t v, Tryd.f6.params[j]? = some t → args[j]? = some v → Value.okWide Tryd.prog W .any base t v := hval0
  have hW' := hW
  obtain ⟨p, q, hA0, hV, rfl, hfz, hnd⟩ := hW
  have hA : DataW.TrodAll enc Tryd.prog W 0 (fun _ => true) true Tryd.f6.params.toList args.toList ds p := hA0
  rw [Tryd.params6] at hA hval hsz
  obtain ⟨v0, vs0, d0, ds0, p0, q0, hargs, rfl, rfl, t0, r0⟩ := trodAll_cons hA
  obtain ⟨v1, vs1, d1, ds1, p1, q1, rfl, rfl, rfl, t1, r1⟩ := trodAll_cons r0
  obtain ⟨rfl, rfl, rfl⟩ := trodAll_nil r1
  obtain rfl : args = #[v0, v1] := by cases args; simp_all
  obtain ⟨rfl, rfl⟩ := trodVars_none hV
  obtain ⟨b0, rfl, rfl, rfl⟩ := open_bool Tryd.underlying4 (hval 0 4 v0 rfl rfl) t0
  obtain ⟨Y1, kc1, l1, lf1, cc1, zz1, g1, gf1, of1, o1, b1, rl1, rr1, c1, vr1, dd1⟩ := arg_fam Tryd.underlying37 Tryd.underlying22 Tryd.underlying5 cells22 cells5 bytes22 (hval 1 37 v1 rfl rfl) t1 (fun e s he => sized_slice (j := 1) hsz rfl (by rw [he]; rfl) Tryd.underlying37)
  have hall : Rows.uptoBulkAll (H := H) [.lit (.bool b0), d1] ≤ 1048576 := by
    have := of_decide_eq_true hk
    simpa only [List.append_nil] using this
  simp only [Rows.uptoBulkAll] at hall
  have hb1 : (Y1.map List.length).sum + Y1.length ≤ Rows.uptoBulk d1 := by
    rcases dd1 with ⟨rfl, rfl⟩ | ⟨es, sp, rfl, he⟩
    · simp
    · have h2 := lens_le es
      have h3 : es.length = Y1.length := by have := congrArg List.length he; simpa using this
      rw [he, h3] at h2
      simp only [Rows.uptoBulk]
      omega
  have hbulk : (Y1.map List.length).sum + Y1.length ≤ 1048576 := by omega
  have hL0 : laidMet Tryd.prog Rows.shaPiecesUptoRow.laid W := hL
  have tb1 : Lib.TabIs Tryd.prog W "synod/sha.cubes" .u64 cubesLaw := Lib.tabIs_of_head gTab1 gType1 Tryd.underlying79 Tryd.underlying56 cellsE56 cellsT79 hL0
  have hL1 := laidMet_tail hL0
  have tb0 : Lib.TabIs Tryd.prog W "synod/sha.squares" .u64 squaresLaw := Lib.tabIs_of_head gTab0 gType0 Tryd.underlying71 Tryd.underlying56 cellsE56 cellsT71 hL1
  have hg : ∀ b d, glS b = some d → b < W.heap.size ∧ IsData d ∧ ∀ i, i < d.len → ∃ x, W.cell? ⟨b, i, none⟩ = some x ∧ ∀ ν, VR ν (d.get i) x := by
    intro b d hb
    match b, hb with
    | 0, hb => injection hb with hb; subst hb; exact glob_tab tb0 gTab0 (by decide)
    | 1, hb => injection hb with hb; subst hb; exact glob_tab tb1 gTab1 (by decide)
    | b + 2, hb => cases hb
  have hpost : ∀ W', Below W.heap.size W W' → ∃ v, (Ending.returned (.bool true)) = .returned v ∧ Rows.shaPiecesSpec.post enc Tryd.prog Tryd.f6 false true false false W #[.bool b0, v1] v W' := fun W' hgg =>
    ⟨_, rfl, law_post (tb := 4) (by kernel_rfl) (fun t ht => by
      rw [Tryd.params6] at ht
      have : ([4, 37] : List TypeId).all (fun t => Tryd.prog.readableRec t && decide (t < Tryd.prog.types.size)) = true := by kernel_rfl
      have := List.all_eq_true.1 this t ht
      simp only [Bool.and_eq_true, decide_eq_true_eq] at this
      exact this) rfl hW' rfl rfl Tryd.underlying4 hgg⟩
  rcases Y1 with _ | ⟨z1, Z1⟩
  · have hT : HR (fun _ => none) (nuL [l1]) [some ⟨.agg [], 0, false, 22⟩] W := by
      refine HR.args rfl fun p o hp => ?_
      match p, hp with
      | 0, hp => injection hp with hp; subst hp; exact ⟨_, _, l1, rfl, rfl, g1, .agg _, Nat.zero_le _, b1, fun i hi => absurd hi (Nat.not_lt_zero i), FamOk.no rfl⟩
      | p + 1, hp => simp at hp
    have hown : ∀ (p : Nat) (o : AObj), ([some ⟨.agg [], 0, false, 22⟩] : Tab)[p]? = some (some o) → o.own = false := by
      intro p o hp
      match p, hp with
      | 0, hp => injection hp with hp; injection hp with hp; subst hp; rfl
      | p + 1, hp => simp at hp
    refine (calls_argsG (gl := glS) (law6e (lg := b0) (c := some kc1)) (hT.argsG hown hg) hown (fun ν y h => h.bool_inv) (VRs.cons (.bool _) (VRs.cons (vr1 _ 0 rfl) (VRs.nil _)))).mono fun e W' ⟨he, hgg⟩ => ?_
    subst he
    exact hpost _ hgg
  · have hT : HR (fun _ => none) (nuL [l1, lf1]) [some ⟨.frows 1 0 (z1 :: Z1) [], 0, false, 22⟩, some ⟨.fam (z1 :: Z1), 0, false, 5⟩] W := by
      refine HR.args rfl fun p o hp => ?_
      match p, hp with
      | 0, hp => injection hp with hp; subst hp; exact ⟨_, _, l1, rfl, rfl, g1, .frows _ _ _ _, o1, b1, fam_obj (q := 1) rfl gf1 rl1 rr1 c1, FamOk.no rfl⟩
      | 1, hp => injection hp with hp; subst hp; exact ⟨_, _, lf1, rfl, rfl, gf1, .fam _, Nat.zero_le _, fun h => absurd h (by rw [of1]; exact Nat.lt_irrefl 0), fun i hi => absurd hi (Nat.not_lt_zero i), fam_ok rl1 rr1⟩
      | p + 2, hp => simp at hp
    have hown : ∀ (p : Nat) (o : AObj), ([some ⟨.frows 1 0 (z1 :: Z1) [], 0, false, 22⟩, some ⟨.fam (z1 :: Z1), 0, false, 5⟩] : Tab)[p]? = some (some o) → o.own = false := by
      intro p o hp
      match p, hp with
      | 0, hp => injection hp with hp; injection hp with hp; subst hp; rfl
      | 1, hp => injection hp with hp; injection hp with hp; subst hp; rfl
      | p + 2, hp => simp at hp
    refine (calls_argsG (gl := glS) (law6 (lg := b0) (c := some kc1) zz1 (by omega) (by simp only [List.length_cons] at hbulk; omega)) (hT.argsG hown hg) hown (fun ν y h => h.bool_inv) (VRs.cons (.bool _) (VRs.cons (vr1 _ 0 rfl) (VRs.nil _)))).mono fun e W' ⟨he, hgg⟩ => ?_
    subst he
    exact hpost _ hgg
noncomputable def w0_ (os : Os) : World := World.holding Tryd.prog os ⟨#[], #[], []⟩
noncomputable def laidWorld (os : Os) : World := { w0_ os with heap := (((w0_ os).heap.modify 1 fun
      | .cells _ t frozen => .cells (cubesLaw.map (Value.int .u64)).toArray t frozen
      | o => o).modify 0 fun
      | .cells _ t frozen => .cells (squaresLaw.map (Value.int .u64)).toArray t frozen
      | o => o) }
theorem laid_met (os : Os) : laidMet Tryd.prog Rows.shaPiecesUptoRow.laid ((laidWorld os).forCall (fun _ _ => 0) ⟨#[], #[.bool false, .slice none 0 0], []⟩).memory :=
  laidMet_of_run' 8 (by kernel_rfl) (by kernel_rfl)
theorem reads (os : Os) {H : Type} (enc : TypeId × Value → H) : ∃ places, DataW.whole enc Tryd.prog ((laidWorld os).forCall (fun _ _ => 0) ⟨#[], #[.bool false, .slice none 0 0], []⟩).memory Tryd.f6.params.toList Rows.shaPiecesSpec.vars false (#[.bool false, .slice none 0 0] : Array Value).toList 8 = some ([.lit (.bool false), .nil], [], places) :=
  ⟨[], by kernel_rfl⟩
set_option maxRecDepth 100000 in
theorem lifted (os : Os) (started : os.Started) (H : Type) (enc : TypeId × Value → H) (F : Stop.Interp) :
    ReturnsInHanded {} Tryd.checked os 6 .any ((Rows.OpenSpec.upto Rows.shaPiecesSpec).preRow enc Tryd.prog Tryd.f6 Rows.shaPiecesUptoRow.domain false Rows.shaPiecesUptoRow.laid) (((Rows.OpenSpec.upto Rows.shaPiecesSpec).at F).post enc Tryd.prog Tryd.f6 false true false false) := by
  obtain ⟨places, hx⟩ := reads os enc
  refine returnsInHanded_of_row (C := Tryd.checked) (s := (Rows.OpenSpec.upto Rows.shaPiecesSpec)) own started (by kernel_rfl) Tryd.func6
    (witness_row_at (enc := enc) (C := Tryd.checked) false (laidWorld os) #[.bool false, .slice none 0 0] rfl (by kernel_rfl) (by kernel_rfl) (by kernel_rfl)
      (OpenSpec.preRow_of_cond 8 hx (by kernel_rfl) (fun k hk => by cases hk; kernel_rfl) (by kernel_rfl) (laid_met os))) ?_
  intro W base args ds gs before hval hW _ hcnd hsz hL _ _
  exact contract H enc W base args ds gs before hval hW (hcnd _ rfl) hsz hL
theorem said : Rows.ShaPiecesUptoSaid :=
  OpenClaim.holds_of_cond 6 Tryd.f6 rfl rfl rfl rfl rfl rfl rfl ⟨rfl, rfl, rfl, rfl, rfl⟩ rfl rfl rfl rfl rfl (by kernel_rfl) Tryd.func6 (by kernel_rfl)
    (of_decide_eq_true (by kernel_rfl)) (by unfold Func.isWrapper; first | (rw [if_pos (by decide +kernel)]; kernel_rfl) | (rw [if_neg (by decide +kernel)]; exact ⟨rfl, rfl⟩))
    (fun os started H enc _ F => by rw [OpenClaim.pre_eq_preRow]; exact lifted os started H enc F)
theorem plain (f : FuncId) (fn : Func) (hf : Tryd.pinned.checked.prog.funcNamed Rows.shaPiecesUptoRow.func = some f) (hfn : Tryd.pinned.checked.prog.funcs[f]? = some fn) :
    false = Tryd.pinned.checked.prog.looks [] ∧ ∀ (j : Nat) t, fn.params[j]? = some t → Tryd.pinned.checked.prog.wantsStandIn t = false := by
  obtain rfl : f = 6 := Option.some.inj ((show Tryd.prog.funcNamed Rows.shaPiecesUptoRow.func = some 6 by kernel_rfl).symm.trans hf) |>.symm
  obtain rfl : fn = Tryd.f6 := (Option.some.inj (Tryd.func6.symm.trans hfn)).symm
  refine ⟨by kernel_rfl, fun j t ht => ?_⟩
  rw [Tryd.params6] at ht
  have h0 : ([4, 37] : List TypeId).all (fun t => !Tryd.prog.wantsStandIn t) = true := by kernel_rfl
  have h1 := List.all_eq_true.1 h0 t (by simpa using Array.mem_of_getElem? ht)
  exact (show Tryd.prog.wantsStandIn t = false by simpa using h1)

theorem proved : Rows.ShaPiecesUptoCardSaid :=
  Claim7.holds_tied_plain_at .later [] _ _ _ _ said (fun _ h => by cases h) (by kernel_rfl) (fun _ h => by cases h) shaPiecesUpto_row_tie rfl ⟨rfl, rfl⟩ (by kernel_rfl) rfl plain (by kernel_rfl)
#print axioms proved
end Go.Proofs.YtkbfjfookfmobaaDoor.shaPieces
