/- Fewer bytes are a beginning of more; zeros behind a key make no other key, up to 64 bytes: for every input the law returns true. -/
import Derived.Test.YtkbfjfookfmobaaDoorP3
import Derived.Test.YtkbfjfookfmobaaDoorAbs2
import Derived.Test.YtkbfjfookfmobaaDoorCards
import Derived.Test.YtkbfjfookfmobaaDoorTie
import Derived.SevenTiedAt
set_option linter.unusedVariables false
namespace Go.Proofs.YtkbfjfookfmobaaDoor.hkdfBegins
open Go.ChangeShapes Go.WideShapes Go.ChangeAt Go.RowKit Go.Abs

theorem own : ownKnob Tryd.prog.godebug = none := by kernel_rfl
theorem cells5 : Tryd.prog.cellsOf 5 = 1 := by kernel_rfl
theorem bytes5 : Tryd.prog.bytesOf 5 = 1 := by kernel_rfl
theorem gTab1 : Tryd.prog.globalNamed "synod/sha.cubes" = some 1 := by kernel_rfl
theorem gType1 : (Tryd.prog.globals[1]?).map (·.type) = some 79 := by kernel_rfl
theorem cellsT79 : Tryd.prog.cellsOf 79 = cubesLaw.length := by kernel_rfl
theorem gTab0 : Tryd.prog.globalNamed "synod/sha.squares" = some 0 := by kernel_rfl
theorem gType0 : (Tryd.prog.globals[0]?).map (·.type) = some 71 := by kernel_rfl
theorem cellsT71 : Tryd.prog.cellsOf 71 = squaresLaw.length := by kernel_rfl
theorem cellsE56 : Tryd.prog.cellsOf 56 = 1 := by kernel_rfl
set_option maxRecDepth 100000 in
theorem contract (H : Type) (enc : TypeId × Value → H) (W : World) (base : Nat) (args : Array Value) (ds gs : List (DataW H)) (before : List MemPlace)
    (hval0 : ∀ (j : Nat) t v, Tryd.f10.params[j]? = some t → args[j]? = some v → Value.okWide Tryd.prog W .any base t v)
    (hW : DataW.Whole enc Tryd.prog Tryd.f10.params.toList Rows.hkdfBeginsSpec.vars false W args.toList ds gs before)
    (hsz : (DataW.weightsEach Tryd.prog (Tryd.f10.params.toList ++ Rows.hkdfBeginsSpec.plain.varTypes Tryd.prog) (ds ++ gs)).all (· ≤ reachBytes) = true) (hL : laidMetH Tryd.prog Rows.hkdfBeginsRow.laid W) :
    Calls Tryd.prog 10 args W fun e W' => ∃ v, e = .returned v ∧ Rows.hkdfBeginsSpec.post enc Tryd.prog Tryd.f10 false true false false W args v W' := by
  have hval : ∀ (j : Nat) t v, Tryd.f10.params[j]? = some t → args[j]? = some v → Value.okWide Tryd.prog W .any base t v := hval0
  have hW' := hW
  obtain ⟨p, q, hA0, hV, rfl, hfz, hnd⟩ := hW
  have hA : DataW.TrodAll enc Tryd.prog W 0 (fun _ => true) true Tryd.f10.params.toList args.toList ds p := hA0
  rw [Tryd.params10] at hA hval hsz
  obtain ⟨v0, vs0, d0, ds0, p0, q0, hargs, rfl, rfl, t0, r0⟩ := trodAll_cons hA
  obtain ⟨v1, vs1, d1, ds1, p1, q1, rfl, rfl, rfl, t1, r1⟩ := trodAll_cons r0
  obtain ⟨v2, vs2, d2, ds2, p2, q2, rfl, rfl, rfl, t2, r2⟩ := trodAll_cons r1
  obtain ⟨v3, vs3, d3, ds3, p3, q3, rfl, rfl, rfl, t3, r3⟩ := trodAll_cons r2
  obtain ⟨rfl, rfl, rfl⟩ := trodAll_nil r3
  obtain rfl : args = #[v0, v1, v2, v3] := by cases args; simp_all
  obtain ⟨rfl, rfl⟩ := trodVars_none hV
  obtain ⟨zs0, n0, l0, k0, z0, m0, g0, o0, b0, c0, vr0⟩ := arg_bytes Tryd.underlying22 Tryd.underlying5 cells5 bytes5 (hval 0 22 v0 rfl rfl) t0 (fun e s he => sized_slice (j := 0) hsz rfl (by rw [he]; rfl) Tryd.underlying22)
  obtain ⟨zs1, n1, l1, k1, z1, m1, g1, o1, b1, c1, vr1⟩ := arg_bytes Tryd.underlying22 Tryd.underlying5 cells5 bytes5 (hval 1 22 v1 rfl rfl) t1 (fun e s he => sized_slice (j := 1) hsz rfl (by rw [he]; rfl) Tryd.underlying22)
  obtain ⟨a2, rfl, rfl, rfl, w2⟩ := open_int Tryd.underlying3 (hval 2 3 v2 rfl rfl) t2
  have h2 : -9223372036854775808 ≤ a2 ∧ a2 ≤ 9223372036854775807 := by simpa [Lit.wf, IntKind.min, IntKind.max, IntKind.signed, IntKind.bits] using w2
  obtain ⟨a3, rfl, rfl, rfl, w3⟩ := open_int Tryd.underlying3 (hval 3 3 v3 rfl rfl) t3
  have h3 : -9223372036854775808 ≤ a3 ∧ a3 ≤ 9223372036854775807 := by simpa [Lit.wf, IntKind.min, IntKind.max, IntKind.signed, IntKind.bits] using w3
  have hT : HR (fun _ => none) (nuL [l0, l1]) [some ⟨.ints .u8 zs0, 0, false, 5⟩, some ⟨.ints .u8 zs1, 0, false, 5⟩] W := by
    refine HR.args rfl fun p o hp => ?_
    match p, hp with
    | 0, hp => injection hp with hp; subst hp; exact ⟨_, _, l0, rfl, rfl, g0, .ints _ _, by rw [o0]; exact Nat.le_refl _, b0, bytes_obj c0⟩
    | 1, hp => injection hp with hp; subst hp; exact ⟨_, _, l1, rfl, rfl, g1, .ints _ _, by rw [o1]; exact Nat.le_refl _, b1, bytes_obj c1⟩
    | p + 2, hp => simp at hp
  have hown : ∀ (p : Nat) (o : AObj), ([some ⟨.ints .u8 zs0, 0, false, 5⟩, some ⟨.ints .u8 zs1, 0, false, 5⟩] : Tab)[p]? = some (some o) → o.own = false := by
    intro p o hp
    match p, hp with
    | 0, hp => injection hp with hp; injection hp with hp; subst hp; rfl
    | 1, hp => injection hp with hp; injection hp with hp; subst hp; rfl
    | p + 2, hp => simp at hp
  have hL0 : laidMet Tryd.prog Rows.hkdfBeginsRow.laid W := hL
  have tb1 : Lib.TabIs Tryd.prog W "synod/sha.cubes" .u64 cubesLaw := Lib.tabIs_of_head gTab1 gType1 Tryd.underlying79 Tryd.underlying56 cellsE56 cellsT79 hL0
  have hL1 := laidMet_tail hL0
  have tb0 : Lib.TabIs Tryd.prog W "synod/sha.squares" .u64 squaresLaw := Lib.tabIs_of_head gTab0 gType0 Tryd.underlying71 Tryd.underlying56 cellsE56 cellsT71 hL1
  have hg : ∀ b d, glS b = some d → b < W.heap.size ∧ IsData d ∧ ∀ i, i < d.len → ∃ x, W.cell? ⟨b, i, none⟩ = some x ∧ ∀ ν, VR ν (d.get i) x := by
    intro b d hb
    match b, hb with
    | 0, hb => injection hb with hb; subst hb; exact glob_tab tb0 gTab0 (by decide)
    | 1, hb => injection hb with hb; subst hb; exact glob_tab tb1 gTab1 (by decide)
    | b + 2, hb => cases hb
  refine (calls_argsG (gl := glS) (law10 k0 z0 m0 k1 z1 m1) (hT.argsG hown hg) hown (fun ν y h => h.bool_inv) (VRs.cons (vr0 _ 0 rfl) (VRs.cons (vr1 _ 1 rfl) (VRs.cons (.int _ _) (VRs.cons (.int _ _) (VRs.nil _)))))).mono fun e W' ⟨he, hg⟩ => ?_
  subst he
  exact ⟨_, rfl, law_post (tb := 4) (by kernel_rfl) (fun t ht => by
    rw [Tryd.params10] at ht
    have : ([22, 22, 3, 3] : List TypeId).all (fun t => Tryd.prog.readableRec t && decide (t < Tryd.prog.types.size)) = true := by kernel_rfl
    have := List.all_eq_true.1 this t ht
    simp only [Bool.and_eq_true, decide_eq_true_eq] at this
    exact this) rfl hW' rfl rfl Tryd.underlying4 hg⟩

noncomputable def w0_ (os : Os) : World := World.holding Tryd.prog os ⟨#[], #[], []⟩
noncomputable def laidWorld (os : Os) : World := { w0_ os with heap := (((w0_ os).heap.modify 1 fun
      | .cells _ t frozen => .cells (cubesLaw.map (Value.int .u64)).toArray t frozen
      | o => o).modify 0 fun
      | .cells _ t frozen => .cells (squaresLaw.map (Value.int .u64)).toArray t frozen
      | o => o) }
theorem laid_met (os : Os) : laidMet Tryd.prog Rows.hkdfBeginsRow.laid ((laidWorld os).forCall (fun _ _ => 0) ⟨#[], #[.slice none 0 0, .slice none 0 0, .int .i64 0, .int .i64 0], []⟩).memory :=
  laidMet_of_run' 8 (by kernel_rfl) (by kernel_rfl)
theorem reads (os : Os) {H : Type} (enc : TypeId × Value → H) : ∃ places, DataW.whole enc Tryd.prog ((laidWorld os).forCall (fun _ _ => 0) ⟨#[], #[.slice none 0 0, .slice none 0 0, .int .i64 0, .int .i64 0], []⟩).memory Tryd.f10.params.toList Rows.hkdfBeginsSpec.vars false (#[.slice none 0 0, .slice none 0 0, .int .i64 0, .int .i64 0] : Array Value).toList 8 = some ([.nil, .nil, .lit (.int .i64 0), .lit (.int .i64 0)], [], places) :=
  ⟨[], by kernel_rfl⟩
set_option maxRecDepth 100000 in
theorem lifted (os : Os) (started : os.Started) (H : Type) (enc : TypeId × Value → H) (F : Stop.Interp) :
    ReturnsInHanded {} Tryd.checked os 10 .any ((OpenSpec.ofChange Rows.hkdfBeginsSpec).preRow enc Tryd.prog Tryd.f10 Rows.hkdfBeginsRow.domain false Rows.hkdfBeginsRow.laid) (((OpenSpec.ofChange Rows.hkdfBeginsSpec).at F).post enc Tryd.prog Tryd.f10 false true false false) := by
  obtain ⟨places, hx⟩ := reads os enc
  refine returnsInHanded_of_row (C := Tryd.checked) (s := (OpenSpec.ofChange Rows.hkdfBeginsSpec)) own started (by kernel_rfl) Tryd.func10
    (witness_row_at (enc := enc) (C := Tryd.checked) false (laidWorld os) #[.slice none 0 0, .slice none 0 0, .int .i64 0, .int .i64 0] rfl (by kernel_rfl) (by kernel_rfl) (by kernel_rfl)
      (OpenSpec.preRow_of_cond 8 hx (by kernel_rfl) (fun k hk => by cases hk) (by kernel_rfl) (laid_met os))) ?_
  intro W base args ds gs before hval hW _ hcnd hsz hL _ _
  exact contract H enc W base args ds gs before hval hW hsz hL
theorem said : Rows.HkdfBeginsSaid :=
  OpenClaim.holds_of_cond 10 Tryd.f10 rfl rfl rfl rfl rfl rfl rfl ⟨rfl, rfl, rfl, rfl, rfl⟩ rfl rfl rfl rfl rfl (by kernel_rfl) Tryd.func10 (by kernel_rfl)
    (of_decide_eq_true (by kernel_rfl)) (by unfold Func.isWrapper; first | (rw [if_pos (by decide +kernel)]; kernel_rfl) | (rw [if_neg (by decide +kernel)]; exact ⟨rfl, rfl⟩))
    (fun os started H enc _ F => by rw [OpenClaim.pre_eq_preRow]; exact lifted os started H enc F)
theorem plain (f : FuncId) (fn : Func) (hf : Tryd.pinned.checked.prog.funcNamed Rows.hkdfBeginsRow.func = some f) (hfn : Tryd.pinned.checked.prog.funcs[f]? = some fn) :
    false = Tryd.pinned.checked.prog.looks [] ∧ ∀ (j : Nat) t, fn.params[j]? = some t → Tryd.pinned.checked.prog.wantsStandIn t = false := by
  obtain rfl : f = 10 := Option.some.inj ((show Tryd.prog.funcNamed Rows.hkdfBeginsRow.func = some 10 by kernel_rfl).symm.trans hf) |>.symm
  obtain rfl : fn = Tryd.f10 := (Option.some.inj (Tryd.func10.symm.trans hfn)).symm
  refine ⟨by kernel_rfl, fun j t ht => ?_⟩
  rw [Tryd.params10] at ht
  have h0 : ([22, 22, 3, 3] : List TypeId).all (fun t => !Tryd.prog.wantsStandIn t) = true := by kernel_rfl
  have h1 := List.all_eq_true.1 h0 t (by simpa using Array.mem_of_getElem? ht)
  exact (show Tryd.prog.wantsStandIn t = false by simpa using h1)

theorem proved : Rows.HkdfBeginsCardSaid :=
  Claim7.holds_tied_plain_at .later [] _ _ _ _ said (fun _ h => by cases h) (by kernel_rfl) (fun _ h => by cases h) hkdfBegins_row_tie rfl ⟨rfl, rfl⟩ (by kernel_rfl) rfl plain (by kernel_rfl)
#print axioms proved
end Go.Proofs.YtkbfjfookfmobaaDoor.hkdfBegins
