/- An abstract machine over small tables of objects, and its soundness over the given model: no condition. -/
import Derived.Test.YtlnflmjgnmljeaaAbs1
import Derived.ChangeSame
import Derived.SizedLaws
import Derived.WideKeyArgs
import Derived.OpenShut
import Derived.ChangeSlices
import Derived.WalkKit
import Derived.ProofKit
import Derived.Deep.DeepHandedRow
import Derived.Lib.LaidTab
import Derived.RangeFuncNested
import Derived.Lib.MakeNoZero
import Derived.Laws.Externs
import Derived.Lib.SmallJoins
set_option linter.unusedVariables false
namespace Go.Abs
open Go.RowKit Go.WideShapes Go.ChangeShapes
section
variable {H : Type} {enc : TypeId × Value → H} {P : Program}
theorem post_of_below {f : Func} {s : ChangeSpec} {apart fresh handsOn again : Bool} {W W' : World} {args : Array Value} {v : Value} {ds gs : List (DataW H)} {before pa pv : List MemPlace}
    (hW : DataW.Whole enc P f.params.toList s.vars apart W args.toList ds gs before)
    (hres : ∀ (b : Nat) (sp : Nat → Bool) (hd : Bool), DataW.TrodAll enc P W' b sp hd f.resultTypes.toList (v.resultList f.resultTypes.size) (s.fn H (ds ++ gs)).results [])
    (hargs : ∀ sp : Nat → Bool, (∀ p ∈ before, sp p.block = true) → DataW.TrodAll enc P W' 0 sp true f.params.toList args.toList (s.fn H (ds ++ gs)).args pa)
    (hvars : ∀ sp : Nat → Bool, (∀ p ∈ before, sp p.block = true) → DataW.TrodVars enc P W' sp s.vars (s.fn H (ds ++ gs)).vars pv)
    (hps : before = pa ++ pv) (hb : Below W.heap.size W W')
    (hok : ∀ (j : Nat) (t : TypeId) (r : Value), f.resultTypes[j]? = some t → (v.resultList f.resultTypes.size)[j]? = some r → Value.okWide P W' .any 0 t r) :
    s.post enc P f apart fresh handsOn again W args v W' := by
  have hlt : ∀ p ∈ before, p.block < W.heap.size := fun p hp => hW.lt p hp
  have hold : ∀ p ∈ before, (fun b => decide (b < W.heap.size)) p.block = true := fun p hp => by simpa using hlt p hp
  refine ⟨ds, gs, before, [], pa, pv, hW, hres _ _ _, hargs _ hold, hvars _ hold, World.keptBut_mono (fun p hp => ⟨hp, ?_⟩) (hb.frame (· ∈ before)), fun _ => ?_⟩
  · rw [hps, List.mem_append] at hp
    exact Or.inr hp
  · obtain ⟨_, _, _, _, _, hz, hn⟩ := hW
    refine ⟨hok, _, _, ([] ++ pa) ++ pv, ⟨[] ++ pa, pv, trodAll_append (hargs _ (fun _ _ => rfl)) (hres _ _ _), hvars _ (fun _ _ => rfl), rfl, ?_, ?_⟩, ?_⟩
    · intro b off hp
      have hin : MemPlace.cell b off ∈ before := by rw [hps]; simpa using hp
      rw [hb.frozen (hlt _ hin)]
      exact hz b off hin
    · intro ha
      have := hn ha
      rw [hps] at this
      simpa using this
    · intro p hp _
      rw [hps]
      simpa using hp
end
end Go.Abs

set_option linter.unusedVariables false
set_option linter.unusedSimpArgs false
namespace Go.Abs
open Go.RowKit Go.WideShapes Go.ChangeShapes Go.ChangeAt

/-! ## Rows of laws -/
section
variable {H : Type} {enc : TypeId × Value → H} {P : Program}

theorem trodAll_stays (hl : laidOutB P = true) {W W' : World} {sp' : Nat → Bool} : ∀ {ts : List TypeId} {vs : List Value} {ds : List (DataW H)} {ps : List MemPlace}, (∀ t ∈ ts, P.readableRec t = true ∧ t < P.types.size) →
    DataW.TrodAll enc P W 0 (fun _ => true) true ts vs ds ps → (∀ p ∈ ps, W.sameAt W' p) → (∀ p ∈ ps, sp' p.block = true) → DataW.TrodAll enc P W' 0 sp' true ts vs ds ps
  | [], vs, ds, ps, _, h, _, _ => by
    obtain ⟨rfl, rfl, rfl⟩ := trodAll_nil h
    exact h
  | t :: ts, vs, ds, ps, ht, h, h1, h2 => by
    obtain ⟨v, vs', d, ds', p, q, rfl, rfl, rfl, g1, g2⟩ := trodAll_cons h
    exact trodAll_cons_mk (WideElems.Trod_stays hl (ht t (.head _)).1 (ht t (.head _)).2 g1 (fun p hp => h1 p (List.mem_append_left _ hp)) (fun p hp => h2 p (List.mem_append_left _ hp)))
      (trodAll_stays hl (fun t ht' => ht t (.tail _ ht')) g2 (fun p hp => h1 p (List.mem_append_right _ hp)) (fun p hp => h2 p (List.mem_append_right _ hp)))

theorem sameAt_below {W W' : World} (h : Below W.heap.size W W') {p : MemPlace} (hp : p.block < W.heap.size) : W.sameAt W' p := by
  have hb := h.block p.block hp
  cases p with
  | cell b off => exact World.cell?_of_block hb
  | map b => exact hb

/-- a law's ending: true, and all that came in reads as before -/
theorem law_post {f : Func} {s : ChangeSpec} {tb : TypeId} (hl : laidOutB P = true) (hts : ∀ t ∈ f.params.toList, P.readableRec t = true ∧ t < P.types.size) (hvars : s.vars = [])
    {W W' : World} {args : Array Value} {ds gs : List (DataW H)} {before : List MemPlace} (hW : DataW.Whole enc P f.params.toList s.vars false W args.toList ds gs before)
    (hspec : s.fn H (ds ++ gs) = { results := [.lit (.bool true)], args := ds }) (hr : f.resultTypes = #[tb]) (hb : P.underlying tb = some .bool) (hbel : Below W.heap.size W W') :
    s.post enc P f false true false false W args (.bool true) W' := by
  have hW' := hW
  obtain ⟨p, q, hA, hV, rfl, hfz, hnd⟩ := hW
  rw [hvars] at hV
  obtain ⟨rfl, rfl⟩ := trodVars_none hV
  have hlt : ∀ x ∈ p, x.block < W.heap.size := fun x hx => hW'.lt x (by simpa using hx)
  refine post_of_below (pa := p) (pv := []) hW' (fun _ _ _ => ?_) (fun sp hsp => ?_) (fun sp _ => ?_) (by simp) hbel ?_
  · rw [hspec, hr]
    exact trodAll_cons_mk (shut_bool hb _) trodAll_mk0
  · rw [hspec]
    exact trodAll_stays hl hts hA (fun x hx => sameAt_below hbel (hlt x hx)) (fun x hx => hsp x (by simpa using hx))
  · rw [hspec, hvars]
    exact rfl
  · exact ok_one hr rfl (okWide_bool_mk hb _)

/-- a slice of bytes that came in -/
theorem arg_bytes {t e : TypeId} (ht : P.underlying t = some (.slice e)) (he : P.underlying e = some (.int .u8)) (hc : P.cellsOf e = 1) (hby : P.bytesOf e = 1) {W : World} {base : Nat} {v : Value} {d : DataW H} {ps : List MemPlace}
    (hval : Value.okWide P W .any base t v) (hT : DataW.Trod enc P W 0 (fun _ => true) true t v d ps) (hsz : ∀ elems spare, d = .slice elems spare → (elems.length + spare.length) * P.bytesOf e ≤ reachBytes) :
    ∃ (zs : List Int) (n : Nat) (l : Loc), n ≤ zs.length ∧ (∀ z ∈ zs, 0 ≤ z ∧ z < 256) ∧ zs.length ≤ 140737488351232 ∧ l.g = 0 ∧ l.room = zs.length ∧ (0 < l.room → l.a.block < W.heap.size) ∧
      (∀ i, i < zs.length → W.cell? (l.a.add i) = some (.int .u8 (zs.getD i 0))) ∧ (∀ (ν : Nu) (p : Nat), ν p = some l → VR ν (.slice 1 p 0 0 n (some zs.length)) v) := by
  obtain ⟨a1, len, cap, rfl⟩ := okWide_slice ht hval
  obtain ⟨fuel, hf⟩ := hT
  rcases open_ints ht he hc hf with ⟨hcs, hx⟩ | ⟨a, len', cap', zs, hcs, _, hl, hm, hz, hx, hcell, hwz⟩
  · simp [Value.cells] at hcs
    obtain ⟨rfl, rfl, rfl⟩ := hcs
    exact ⟨[], 0, ⟨⟨0, 0, none⟩, 0, 0⟩, Nat.le_refl _, fun z hz => (by cases hz), by simp, rfl, rfl, fun h => (by cases h), fun i hi => (by simp at hi), fun ν p hp => .sliceZ none hp rfl (.inl rfl)⟩
  · simp [Value.cells] at hcs
    obtain ⟨rfl, rfl, rfl⟩ := hcs
    simp only [Prod.mk.injEq] at hx
    obtain ⟨rfl, rfl⟩ := hx
    simp only [if_true] at hz
    have hs := hsz _ _ rfl
    rw [hby] at hs
    have hlen : (lits (H := H) .u8 (zs.take len)).length + (lits (H := H) .u8 (zs.drop len)).length = zs.length := by simp [lits]; omega
    rw [hlen] at hs
    refine ⟨zs, len, ⟨a, 0, zs.length⟩, by omega, fun z hz => ?_, by unfold reachBytes at hs; omega, rfl, rfl, fun h0 => ?_, hcell, fun ν p hp => ?_⟩
    · have := hwz z hz
      simp [Lit.wf, IntKind.min, IntKind.max, IntKind.signed, IntKind.bits] at this
      omega
    · have h1 := hcell 0 h0
      unfold World.cell? at h1
      rcases Nat.lt_or_ge a.block W.heap.size with h | h
      · exact h
      · have hb : (a.add 0).block = a.block := block_add a 0
        rw [hb, Array.getElem?_eq_none h] at h1
        cases h1
    · refine .slice hp rfl ⟨hl, fun k hk => by injection hk with hk; omega, ?_, by simp; omega, fun h => (by cases h)⟩
      simp [Addr.add]

def nuL (ls : List Loc) : Nu := fun p => ls[p]?
/-- what came in is a table of objects that are not written -/
theorem HR.args {T : Tab} {ls : List Loc} {W : World} (hlen : T.length = ls.length)
    (h : ∀ (p : Nat) (o : Option AObj), T[p]? = some o → ∃ (d : AVal) (et : TypeId) (l : Loc), o = some ⟨d, 0, false, et⟩ ∧ ls[p]? = some l ∧ l.g = 0 ∧ IsData d ∧ d.len ≤ l.room ∧ (0 < l.room → l.a.block < W.heap.size) ∧ ∀ i, i < d.len → ∃ x, W.cell? (l.a.add i) = some x ∧ VR (nuL ls) (d.get i) x) :
    HR (fun _ => none) (nuL ls) T W := by
  refine ⟨fun p o l ho hl => ?_, fun p l hl => ?_, fun p hp => ?_, fun p l hl h0 => ?_, fun p q o o' l l' ho ho' hw hne hl hl' h0 h0' => ?_, fun b d hb => (by cases hb)⟩
  · obtain ⟨d, et, l1, e1, e2, e3, e4, e5, e6, e7⟩ := h p _ ho
    injection e1 with e1; subst e1
    simp only [nuL] at hl
    rw [e2] at hl; injection hl with hl; subst hl
    exact ⟨e3.symm, e4, .inr (.inl ⟨rfl, e5, e7⟩)⟩
  · simp only [nuL] at hl
    rw [hlen]; exact (List.getElem?_eq_some_iff.1 hl).1
  · obtain ⟨d, et, l1, e1, _⟩ := h p _ hp
    cases e1
  · simp only [nuL] at hl
    have hlt := (List.getElem?_eq_some_iff.1 hl).1
    obtain ⟨o, ho⟩ : ∃ o, T[p]? = some o := ⟨T[p]'(by omega), List.getElem?_eq_getElem (by omega)⟩
    obtain ⟨d, et, l1, e1, e2, e3, e4, e5, e6, e7⟩ := h p o ho
    rw [e2] at hl; injection hl with hl; subst hl
    exact e6 h0
  · obtain ⟨d, et, l1, e1, _⟩ := h p _ ho
    injection e1 with e1; subst e1
    cases hw

/-- a law over what came in -/
theorem calls_args {f : FuncId} {args : List AVal} {v : AVal} {T T1 : Tab} {ls : List Loc} {w : World} {vs : Array Value} {x : Value} (h : Small P (fun _ => none) f args T v T1) (hT : HR (fun _ => none) (nuL ls) T w) (hown : ∀ (p : Nat) (o : AObj), T[p]? = some (some o) → o.own = false)
    (hx : ∀ ν y, VR ν v y → y = x) (hv : VRs (nuL ls) args vs.toList) :
    Calls P f vs w fun e w' => e = .returned x ∧ Below w.heap.size w w' := by
  refine (h (nuL ls) w vs hT hv).mono ?_
  rintro e w' ⟨y, ν', rfl, h1, h2, h3, h4⟩
  refine ⟨by rw [hx _ _ h1], h4.os, h4.tape, h4.output, h4.size, fun b hb => h4.block b hb ?_⟩
  rintro ⟨p, o, l, ho, hw, _⟩
  rw [hown p o ho] at hw
  cases hw
theorem bytes_obj {W : World} {zs : List Int} {l : Loc} {ν : Nu} (hcell : ∀ i, i < zs.length → W.cell? (l.a.add i) = some (.int .u8 (zs.getD i 0))) : ∀ i, i < (AVal.ints .u8 zs).len → ∃ x, W.cell? (l.a.add i) = some x ∧ VR ν ((AVal.ints .u8 zs).get i) x :=
  fun i hi => ⟨_, hcell i hi, .int _ _⟩
end
end Go.Abs

set_option linter.unusedVariables false
set_option linter.unusedSimpArgs false
namespace Go.Abs

/-- an empty object beside the others -/
theorem HR.pushEmpty {gl : Nat → Option AVal} {ν : Nu} {T : Tab} {w : World} (hr : HR gl ν T w) (kk : IntKind) (et : TypeId) :
    ∃ l0 : Loc, l0.g = 0 ∧ l0.room = 0 ∧ HR gl (upd ν T.length l0) (T ++ [some ⟨.ints kk [], 0, true, et⟩]) w ∧ NuLe ν (upd ν T.length l0) ∧ (∀ b, Own (upd ν T.length l0) (T ++ [some ⟨.ints kk [], 0, true, et⟩]) b → Own ν T b) := by
  have hn : ν T.length = none := by
    cases hν : ν T.length with
    | none => rfl
    | some l => have := hr.lt _ l hν; omega
  obtain ⟨l0, hl0⟩ : ∃ l0 : Loc, l0 = ⟨⟨0, 0, none⟩, 0, 0⟩ := ⟨_, rfl⟩
  have hm : NuLe ν (upd ν T.length l0) := NuLe.upd_new (ν := ν) l0 hn
  have same : ∀ p, p ≠ T.length → upd ν T.length l0 p = ν p := fun p hp => upd_other ν l0 hp
  have self : upd ν T.length l0 T.length = some l0 := upd_same ν _ l0
  have getT : ∀ p o, (T ++ [some (⟨.ints kk [], 0, true, et⟩ : AObj)])[p]? = some o → (p < T.length ∧ T[p]? = some o) ∨ (p = T.length ∧ o = some ⟨.ints kk [], 0, true, et⟩) := by
    intro p o ho
    rcases Nat.lt_or_ge p T.length with hp | hp
    · rw [List.getElem?_append_left hp] at ho; exact .inl ⟨hp, ho⟩
    · rw [List.getElem?_append_right hp] at ho
      have hlt := (List.getElem?_eq_some_iff.1 ho).1
      have hp0 : p = T.length := by simp at hlt; omega
      subst hp0
      simp at ho
      exact .inr ⟨rfl, ho.symm⟩
  have hown : ∀ b, Own (upd ν T.length l0) (T ++ [some ⟨.ints kk [], 0, true, et⟩]) b → Own ν T b := by
    rintro b ⟨p, o, l, h1, h2, h3, h4, h5⟩
    rcases getT p _ h1 with ⟨hp, h1⟩ | ⟨hp, h1⟩
    · rw [same p (by omega)] at h3; exact ⟨p, o, l, h1, h2, h3, h4, h5⟩
    · subst hp; rw [self] at h3; injection h3 with h3; subst h3; subst hl0; simp at h4
  refine ⟨l0, by rw [hl0], by rw [hl0], ⟨fun p o l ho hl => ?_, fun p l hl => ?_, fun p hp => ?_, fun p l hl h0 => ?_, fun p q o o' l l' ho ho' hw hne hl hl' h0 h0' => ?_, fun b d hb => ?_⟩, hm, hown⟩
  · rcases getT p _ ho with ⟨hp, h1⟩ | ⟨hp, h1⟩
    · rw [same p (by omega)] at hl
      obtain ⟨g1, g2⟩ := hr.obj p o l h1 hl
      exact ⟨g1, g2.kept hm fun _ => rfl⟩
    · subst hp; rw [self] at hl; injection hl with hl; subst hl; subst hl0
      injection h1 with h1; subst h1
      exact ⟨rfl, .ints _ _, .inr (.inr ⟨rfl, rfl⟩)⟩
  · by_cases e : p = T.length
    · subst e; simp
    · rw [same p e] at hl; have := hr.lt p l hl; simp; omega
  · rcases getT p _ hp with ⟨hp', h1⟩ | ⟨hp', h1⟩
    · rw [same p (by omega)]; exact hr.hole p h1
    · cases h1
  · by_cases e : p = T.length
    · subst e; rw [self] at hl; injection hl with hl; subst hl; subst hl0; simp at h0
    · rw [same p e] at hl; exact hr.blk p l hl h0
  · rcases getT p _ ho with ⟨hp, h1⟩ | ⟨hp, h1⟩
    · rcases getT q _ ho' with ⟨hq, h2⟩ | ⟨hq, h2⟩
      · rw [same p (by omega)] at hl; rw [same q (by omega)] at hl'
        exact hr.sep p q o o' l l' h1 h2 hw hne hl hl' h0 h0'
      · subst hq; rw [self] at hl'; injection hl' with hl'; subst hl'; subst hl0; simp at h0'
    · subst hp; rw [self] at hl; injection hl with hl; subst hl; subst hl0; simp at h0
  · obtain ⟨h1, h2⟩ := hr.glob b d hb
    exact ⟨fun h3 => h1 (hown b h3), h2⟩

theorem VR.nil_slice {ν : Nu} {x : Value} {q : Nat} {l : Loc} {sz : Nat} {cap : Option Nat} (hl : ν q = some l) (hg : l.g = 0) (hr : l.room = 0) (hc : cap = some 0 ∨ cap = none) (h : VR ν .nilSlice x) : VR ν (.slice sz q 0 0 0 cap) x := by
  cases h
  exact .sliceZ none hl hg.symm (hc.imp id fun h => ⟨h, by rw [hr]; exact Nat.le_refl _⟩)

end Go.Abs

set_option linter.unusedVariables false
set_option linter.unusedSimpArgs false
namespace Go.Abs
/-! ## Only some objects are kept, and they move together -/
def sigG : List Nat → Nat → Nat
  | [], _ => 0
  | p :: r, i => match Nat.beq p i with | true => 0 | false => sigG r i + 1
def hasG : List Nat → Nat → Bool
  | [], _ => false
  | p :: r, i => Nat.beq p i || hasG r i
def nodupG : List Nat → Bool
  | [] => true
  | p :: r => !hasG r p && nodupG r
def startsG : Nat → Nat → List Nat → Bool
  | _, 0, _ => true
  | i, k + 1, p :: r => Nat.beq p i && startsG (i + 1) k r
  | _, _ + 1, [] => false
def getG (T : Tab) (p : Nat) : Option AObj := match T[p]? with | some (some o) => some o | _ => none
def gcL (keep : List Nat) (T : Tab) : List Nat → Tab
  | [] => []
  | p :: r => (match getG T p with | some o => some (renO (sigG keep) o) | none => none) :: gcL keep T r
def gcT (keep : List Nat) (T : Tab) : Tab := gcL keep T keep
def inG (keep : List Nat) (T : Tab) : List Nat → Bool
  | [] => true
  | p :: r => (match getG T p with | some o => idsIn (hasG keep) o.data | none => true) && inG keep T r
def okG (k : Nat) (keep : List Nat) (T : Tab) : Bool := nodupG keep && (startsG 0 k keep && inG keep T keep)
def pickG (keep : List Nat) (fm : Fm) : List Nat → Option Fm
  | [] => some []
  | t :: r => match look fm t, pickG keep fm r with
    | some v, some f => match idsIn (hasG keep) v with
      | true => some ((t, ren (sigG keep) v) :: f)
      | false => none
    | _, _ => none
theorem hasG_get : ∀ {l : List Nat} {i : Nat}, hasG l i = true → l[sigG l i]? = some i
  | p :: r, i, h => by
    simp only [hasG, Bool.or_eq_true] at h
    simp only [sigG]
    cases hp : Nat.beq p i with
    | true => have := Nat.eq_of_beq_eq_true hp; subst this; rfl
    | false => simp only [hp, Bool.false_eq_true, false_or] at h; simpa using hasG_get h
theorem hasG_mem : ∀ {l : List Nat} {j p : Nat}, l[j]? = some p → hasG l p = true
  | q :: r, 0, p, h => by simp at h; subst h; simp [hasG]
  | q :: r, j + 1, p, h => by simp only [hasG, Bool.or_eq_true]; exact .inr (hasG_mem (by simpa using h))
theorem nodupG_ok : ∀ {l : List Nat}, nodupG l = true → ∀ (i j p : Nat), l[i]? = some p → l[j]? = some p → i = j
  | q :: r, h, 0, 0, p, _, _ => rfl
  | q :: r, h, 0, j + 1, p, hi, hj => by
    simp at hi; subst hi
    have := hasG_mem (l := r) (j := j) (by simpa using hj)
    simp [nodupG, this] at h
  | q :: r, h, i + 1, 0, p, hi, hj => by
    simp at hj; subst hj
    have := hasG_mem (l := r) (j := i) (by simpa using hi)
    simp [nodupG, this] at h
  | q :: r, h, i + 1, j + 1, p, hi, hj => by
    simp only [nodupG, Bool.and_eq_true] at h
    rw [nodupG_ok h.2 i j p (by simpa using hi) (by simpa using hj)]
theorem startsG_ok : ∀ {k i : Nat} {l : List Nat}, startsG i k l = true → ∀ j, j < k → l[j]? = some (i + j)
  | k + 1, i, p :: r, h, 0, _ => by simp only [startsG, Bool.and_eq_true] at h; rw [Nat.eq_of_beq_eq_true h.1]; rfl
  | k + 1, i, p :: r, h, j + 1, hj => by
    simp only [startsG, Bool.and_eq_true] at h
    rw [List.getElem?_cons_succ, startsG_ok h.2 j (by omega)]
    congr 1; omega
theorem gcL_get (keep : List Nat) (T : Tab) : ∀ (l : List Nat) (j : Nat), (gcL keep T l)[j]? = (l[j]?).map fun p => match getG T p with | some o => some (renO (sigG keep) o) | none => none
  | [], j => by simp [gcL]
  | p :: r, 0 => rfl
  | p :: r, j + 1 => by simpa [gcL] using gcL_get keep T r j
theorem gcL_len (keep : List Nat) (T : Tab) : ∀ (l : List Nat), (gcL keep T l).length = l.length
  | [] => rfl
  | p :: r => by simp [gcL, gcL_len keep T r]
theorem inG_ok {keep : List Nat} {T : Tab} : ∀ {l : List Nat}, inG keep T l = true → ∀ (j p : Nat) (o : AObj), l[j]? = some p → getG T p = some o → idsIn (hasG keep) o.data = true
  | q :: r, h, 0, p, o, hp, ho => by simp at hp; subst hp; simp only [inG, ho, Bool.and_eq_true] at h; exact h.1
  | q :: r, h, j + 1, p, o, hp, ho => by simp only [inG, Bool.and_eq_true] at h; exact inG_ok h.2 j p o (by simpa using hp) ho
theorem getG_some {T : Tab} {p : Nat} {o : AObj} (h : getG T p = some o) : T[p]? = some (some o) := by
  unfold getG at h; split at h
  · rename_i o' h'; injection h with h; subst h; exact h'
  · cases h
theorem pickG_ok {keep : List Nat} {fm : Fm} : ∀ {l : List Nat} {f : Fm}, pickG keep fm l = some f → ∀ t v, look f t = some v → ∃ u, look fm t = some u ∧ idsIn (hasG keep) u = true ∧ v = ren (sigG keep) u
  | [], f, h, t, v, hl => by simp [pickG] at h; subst h; simp [look] at hl
  | s :: r, f, h, t, v, hl => by
    simp only [pickG] at h
    split at h
    · rename_i u f' h1 h2
      split at h
      · rename_i h3
        injection h with h; subst h
        simp only [look] at hl
        split at hl
        · rename_i he
          have := Nat.eq_of_beq_eq_true he; subst this
          injection hl with hl; subst hl
          exact ⟨u, h1, h3, rfl⟩
        · exact pickG_ok h2 t v hl
      · cases h
    · cases h
def nuG (keep : List Nat) (ν : Nu) : Nu := fun j => match keep[j]? with | some p => ν p | none => none
theorem nuG_some {keep : List Nat} {ν : Nu} {j : Nat} {l : Loc} (h : nuG keep ν j = some l) : ∃ p, keep[j]? = some p ∧ ν p = some l := by
  unfold nuG at h; split at h
  · rename_i p hp; exact ⟨p, hp, h⟩
  · cases h
theorem nuG_key {keep : List Nat} {ν : Nu} : ∀ i l, hasG keep i = true → ν i = some l → nuG keep ν (sigG keep i) = some l := fun i l hi hl => by
  unfold nuG; rw [hasG_get hi]; exact hl
theorem gcT_some {keep : List Nat} {T : Tab} {j : Nat} {o' : AObj} (h : (gcT keep T)[j]? = some (some o')) : ∃ p o, keep[j]? = some p ∧ T[p]? = some (some o) ∧ o' = renO (sigG keep) o := by
  unfold gcT at h
  rw [gcL_get] at h
  cases hk : keep[j]? with
  | none => rw [hk] at h; cases h
  | some p =>
    rw [hk] at h
    simp only [Option.map_some] at h
    cases hg : getG T p with
    | none => rw [hg] at h; cases h
    | some o => rw [hg] at h; injection h with h; injection h with h; exact ⟨p, o, rfl, getG_some hg, h.symm⟩
theorem getG_of {T : Tab} {p : Nat} {o : AObj} (h : T[p]? = some (some o)) : getG T p = some o := by unfold getG; rw [h]
theorem Own.gc {keep : List Nat} {ν : Nu} {T : Tab} {b : Nat} (h : Own (nuG keep ν) (gcT keep T) b) : Own ν T b := by
  obtain ⟨j, o', l, h1, h2, h3, h4⟩ := h
  obtain ⟨p, o, e1, e2, rfl⟩ := gcT_some h1
  obtain ⟨p', e3, e4⟩ := nuG_some h3
  rw [e1] at e3; injection e3 with e3; subst e3
  exact ⟨p, o, l, e2, h2, e4, h4⟩
theorem HR.gc {gl : Nat → Option AVal} {ν : Nu} {T : Tab} {w : World} {k : Nat} {keep : List Nat} (h : HR gl ν T w) (hk : okG k keep T = true) : HR gl (nuG keep ν) (gcT keep T) w := by
  simp only [okG, Bool.and_eq_true] at hk
  obtain ⟨h1, h2, h3⟩ := hk
  refine ⟨fun j o' l ho hl => ?_, fun j l hl => ?_, fun j hj => ?_, fun j l hl h0 => ?_, fun i j o o' l l' ho ho' hw hne hl hl' => ?_, fun b d hb => ?_⟩
  · obtain ⟨p, o, e1, e2, rfl⟩ := gcT_some ho
    obtain ⟨p', e3, e4⟩ := nuG_some hl
    rw [e1] at e3; injection e3 with e3; subst e3
    obtain ⟨g1, g2⟩ := h.obj p o l e2 e4
    exact ⟨g1, g2.ren nuG_key (inG_ok h3 j p o e1 (getG_of e2))⟩
  · obtain ⟨p, e1, _⟩ := nuG_some hl
    unfold gcT; rw [gcL_len]; exact (List.getElem?_eq_some_iff.1 e1).1
  · unfold gcT at hj
    rw [gcL_get] at hj
    unfold nuG
    cases hk : keep[j]? with
    | none => rfl
    | some p =>
      simp only [hk, Option.map_some] at hj
      cases hν : ν p with
      | none => simp only [hν]
      | some l =>
        exfalso
        have hlt := h.lt p l hν
        have e : T[p]? = some T[p] := List.getElem?_eq_getElem hlt
        cases hT : T[p] with
        | none => rw [hT] at e; rw [h.hole p e] at hν; cases hν
        | some o => rw [hT] at e; rw [getG_of e] at hj; injection hj with hj; cases hj
  · obtain ⟨p, _, e⟩ := nuG_some hl
    exact h.blk p l e h0
  · obtain ⟨p, a, e1, e2, rfl⟩ := gcT_some ho
    obtain ⟨q, b, f1, f2, rfl⟩ := gcT_some ho'
    obtain ⟨p', e3, e4⟩ := nuG_some hl
    rw [e1] at e3; injection e3 with e3; subst e3
    obtain ⟨q', f3, f4⟩ := nuG_some hl'
    rw [f1] at f3; injection f3 with f3; subst f3
    exact h.sep p q a b l l' e2 f2 hw (fun e => hne (by subst e; exact nodupG_ok h1 i j p e1 f1)) e4 f4
  · obtain ⟨g1, g2⟩ := h.glob b d hb
    exact ⟨fun g => g1 g.gc, g2⟩
theorem NuLeB.gc {keep : List Nat} {ν ν' : Nu} {T : Tab} {k : Nat} (h : NuLeB k ν ν') (hk : okG k keep T = true) : NuLeB k ν (nuG keep ν') := fun p hp l hl => by
  simp only [okG, Bool.and_eq_true] at hk
  obtain ⟨l', h1, h2⟩ := h p hp l hl
  have e := startsG_ok hk.2.1 p hp
  rw [Nat.zero_add] at e
  exact ⟨l', by unfold nuG; rw [e]; exact h1, h2⟩
theorem SRel.gc {E : Env} {D : List Deferred} {ν : Nu} {fm f : Fm} {T : Tab} {n k : Nat} {a : Act} {w : World} {keep : List Nat} {slots : List Nat} (h : SRel E D ν fm T n a w) (hk : okG k keep T = true) (hf : pickG keep fm slots = some f) : SRel E D (nuG keep ν) f (gcT keep T) n a w := by
  refine ⟨h.hr.gc hk, fun t v hv => ?_, h.size, h.defers⟩
  obtain ⟨u, h1, h2, rfl⟩ := pickG_ok hf t v hv
  exact (h.fm t u h1).ren nuG_key h2
/-- the outcome, with only some objects, moved together -/
def trimG (k : Nat) (keep : List Nat) (slots : List Nat) (o : Out) : Out :=
  match o with
  | ⟨cs, ex, fm, T, ds⟩ => match pickG keep fm slots, okG k keep T with
    | some f, true => ⟨cs, ex, f, gcT keep T, ds⟩
    | _, _ => failO
theorem AWp.trimG {E : Env} {n k : Nat} {keep : List Nat} {c : Code} {fm : Fm} {T : Tab} {o : Out} {slots : List Nat} (hc : allP (trimG k keep slots o).cs) (h : allP o.cs → AWp E n k c fm T (Is o)) : AWp E n k c fm T (Is (trimG k keep slots o)) := by
  obtain ⟨cs, ex, fm1, T1, ds⟩ := o
  unfold Abs.trimG at hc ⊢
  simp only at hc ⊢
  cases hp : pickG keep fm1 slots with
  | none => simp only [hp] at hc; exact absurd hc failO_no
  | some f =>
    cases hb : okG k keep T1 with
    | false => simp only [hp, hb] at hc; exact absurd hc failO_no
    | true =>
      simp only [hp, hb] at hc ⊢
      intro rr D ν a w hs hrd
      refine wpIn_mono (h hc rr D ν a w hs hrd) fun e a' w' ⟨ex', fm', T', ν', e1, ⟨e2, e3, e4⟩, ⟨ms, s', mk⟩, n', f'⟩ => ?_
      simp only at e2 e3 e4
      subst e2 e3 e4
      exact ⟨ex', f, gcT keep T', nuG keep ν', e1, ⟨rfl, rfl, rfl⟩, ⟨ms, s'.gc hb hp, mk⟩, n'.gc hb, f'.sub fun b hb => hb.gc⟩
theorem To.ofG {E : Env} (hE : EnvOk E) (hm : E.P.follows .mixedOrders = true) {n k : Nat} {keep : List Nat} {orc : Orc} (hk : k ≤ orc.kb) {c : Code} (hO : OrcOk E n orc c) {f : Nat} {fm : Fm} {T : Tab} {ds : List (Option Bool)} {slots : List Nat} {o : Out}
    (ho : trimG k keep slots (run E n orc f c fm T ds) = o) (h : Ok o) {ex : AExit} {fm' : Fm} {T' : Tab} (e1 : o.ex = ex) (e2 : o.fm = fm') (e3 : o.tab = T') : To E n k c fm T ex fm' T' := by
  subst e1 e2 e3 ho
  exact AWp.trimG h.h fun h => (run_sound hE hm hk hO f (fun _ _ h => h) h).1
/-- a function's outcome, with only some objects, moved together -/
theorem small_gc {P : Program} {gl : Nat → Option AVal} {f : FuncId} {args : List AVal} {T0 T1 : Tab} {v : AVal} (keep : List Nat) (h : Small P gl f args T0 v T1) {v' : AVal} {T' : Tab} (hk : okG T0.length keep T1 = true) (hv : idsIn (hasG keep) v = true) (e1 : ren (sigG keep) v = v') (e2 : gcT keep T1 = T') :
    Small P gl f args T0 v' T' := by
  subst e1 e2
  intro ν w vs hr hvs
  refine (h ν w vs hr hvs).mono ?_
  rintro e w' ⟨x, ν', rfl, h1, h2, h3, h4⟩
  exact ⟨x, nuG keep ν', rfl, h1.ren nuG_key hv, h2.gc hk, h3.gc hk, h4.sub fun b hb => hb.gc⟩
/-- a function's run, with only some objects, moved together -/
def resG (k : Nat) (keep : List Nat) (r : Res) : Res :=
  match r with
  | ⟨cs, v, T⟩ => match idsIn (hasG keep) v && okG k keep T with
    | true => ⟨cs, ren (sigG keep) v, gcT keep T⟩
    | false => fail
theorem small_ofG {E : Env} (hE : EnvOk E) (hm : E.P.follows .mixedOrders = true) {f : FuncId} {fn : Func} (hf : E.P.funcs[f]? = some fn) (hb : fn.body.isSome = true) {orc : OrcL} (hO : FnOrc E fn orc) {fuel : Nat} {args : List AVal} {T : Tab} {ds : List (Option Bool)} {R : Res} {keep : List Nat}
    (hR : resG T.length keep (runF E fn orc fuel args T ds) = R) (h : OkR R) {v : AVal} {T1 : Tab} (hv : R.val = v) (ht : R.tab = T1) : Small E.P E.gl f args T v T1 := by
  subst hv ht hR
  have hS := runF_small hE hm hf hb orc hO fuel (args := args) (T := T) ds
  generalize runF E fn orc fuel args T ds = r at h hS ⊢
  obtain ⟨cs, v, T1⟩ := r
  obtain ⟨h⟩ := h
  unfold resG at h ⊢
  simp only at h ⊢
  cases hb : idsIn (hasG keep) v && okG T.length keep T1 with
  | false => simp only [hb] at h; exact absurd h nofail
  | true =>
    simp only [hb] at h ⊢
    simp only [Bool.and_eq_true] at hb
    exact small_gc keep (hS h) hb.2 hb.1 rfl rfl
attribute [irreducible] resG trimG
end Go.Abs

set_option linter.unusedVariables false
set_option linter.unusedSimpArgs false
namespace Go.Abs
open Go.RowKit Go.WideShapes Go.ChangeShapes Go.ChangeAt
/-! ## Rows whose laws read tables of the program -/
section
variable {P : Program}
end
end Go.Abs

set_option linter.unusedVariables false
namespace Go.Abs
/-! ## What stands in a table or a list of values, taken out -/
def vAt : List AVal → Nat → AVal
  | [], _ => un
  | v :: _, 0 => v
  | _ :: r, i + 1 => vAt r i
def dAt (T : Tab) (p : Nat) : AVal := match nth T p with | some o => o.data | none => un
def gAt (T : Tab) (p : Nat) : Nat := match nth T p with | some o => o.g | none => 0
def owAt (T : Tab) (p : Nat) : Bool := match nth T p with | some o => o.own | none => false
def etAt (T : Tab) (p : Nat) : TypeId := match nth T p with | some o => o.et | none => 0
def xsOf : AVal → List Int | .ints _ xs => xs | _ => []
def vsOf : AVal → List AVal | .agg vs => vs | _ => []
def iOf : AVal → Int | .int _ n => n | _ => 0
def offOf : AVal → Nat | .slice _ _ _ off _ _ => off | .ptr _ _ off => off | _ => 0
def lenOf : AVal → Nat | .slice _ _ _ _ len _ => len | _ => 0
def capOf : AVal → Option Nat | .slice _ _ _ _ _ cap => cap | _ => none
def xsAt (T : Tab) (p : Nat) : List Int := xsOf (dAt T p)
def cAt (T : Tab) (p i : Nat) : AVal := vAt (vsOf (dAt T p)) i
end Go.Abs
namespace Go.Abs
/-- flags, out of a number's bits -/
def bitsF : Nat → Nat → List Bool
  | 0, _ => []
  | k + 1, n => Nat.beq (n % 2) 1 :: bitsF k (n / 2)
end Go.Abs

set_option linter.unusedVariables false
set_option linter.unusedSimpArgs false
namespace Go.Abs
end Go.Abs

set_option linter.unusedVariables false
set_option linter.unusedSimpArgs false
namespace Go.Abs
/-! ## Range over a function: code that runs beside the loops' records -/
/-- what a record is of: its loop, as text, and what is known of the temporaries at its entry -/
structure Host where
  ps : Array Tmp
  assign : Code
  body : Code
  fm : Fm
  n : Nat
abbrev St := LoopState × Option Code
abbrev Amb := List (Nat × Host)

theorem VR.monoB {k : Nat} {ν ν' : Nu} {v : AVal} {x : Value} (hm : NuLeB k ν ν') (hv : idsIn (fun i => Nat.blt i k) v = true) (h : VR ν v x) : VR ν' v x := by
  let ν2 : Nu := fun p => if p < k then ν' p else ν p
  have h1 : NuLe ν ν2 := fun p l hl => by
    by_cases hp : p < k
    · obtain ⟨l', g1, g2⟩ := hm p hp l hl
      exact ⟨l', by simp only [ν2, if_pos hp]; exact g1, g2⟩
    · exact ⟨l, by simp only [ν2, if_neg hp]; exact hl, .inr ⟨rfl, rfl, rfl⟩⟩
  have h2 := (h.mono h1).ren (ν' := ν') (r := fun i => i) (live := fun i => Nat.blt i k) (fun i l hi hl => by
    have hp : i < k := by simpa using hi
    simpa only [ν2, if_pos hp] using hl) hv
  rwa [ren_id] at h2
def fmIn (k : Nat) (fm : Fm) : Prop := ∀ t v, look fm t = some v → idsIn (fun i => Nat.blt i k) v = true
def ambIn (k : Nat) (A : Amb) : Prop := ∀ x ∈ A, fmIn k x.2.fm
def RecOk (ν : Nu) (l : Nat) (H : Host) (st : St) (w : World) : Prop :=
  ∃ rc : Loop, w.heap[l]? = some (.loop rc) ∧ rc.state = st.1 ∧ rc.pending = st.2 ∧ rc.params = H.ps ∧ rc.assign = H.assign ∧ rc.body = H.body ∧ H.n ≤ rc.tmps.size ∧ ∀ t v, look H.fm t = some v → VR ν v (rc.tmps.getD t undef)
def RecsOk (ν : Nu) : Amb → List St → World → Prop
  | [], [], _ => True
  | (l, H) :: A, st :: σ, w => RecOk ν l H st w ∧ RecsOk ν A σ w ∧ ∀ x ∈ A, x.1 ≠ l
  | _, _, _ => False
theorem RecOk.keep {k : Nat} {ν ν' : Nu} {l : Nat} {H : Host} {st : St} {w w' : World} (h : RecOk ν l H st w) (hin : fmIn k H.fm) (hm : NuLeB k ν ν') (hw : w'.heap[l]? = w.heap[l]?) : RecOk ν' l H st w' := by
  obtain ⟨rc, h1, h2, h3, h4, h5, h6, h7, h8⟩ := h
  exact ⟨rc, by rw [hw]; exact h1, h2, h3, h4, h5, h6, h7, fun t v hl => (h8 t v hl).monoB hm (hin t v hl)⟩
theorem RecsOk.keep {k : Nat} {ν ν' : Nu} {w w' : World} (hm : NuLeB k ν ν') : ∀ {A : Amb} {σ : List St}, RecsOk ν A σ w → ambIn k A → (∀ x ∈ A, w'.heap[x.1]? = w.heap[x.1]?) → RecsOk ν' A σ w'
  | [], [], _, _, _ => trivial
  | [], _ :: _, h, _, _ => h.elim
  | _ :: _, [], h, _, _ => h.elim
  | (l, H) :: A, st :: σ, ⟨h1, h2, h3⟩, hin, hw => ⟨h1.keep (hin _ (.head _)) hm (hw _ (.head _)), RecsOk.keep hm h2 (fun x hx => hin x (.tail _ hx)) (fun x hx => hw x (.tail _ hx)), h3⟩
theorem RecsOk.loop {ν : Nu} {w : World} : ∀ {A : Amb} {σ : List St}, RecsOk ν A σ w → ∀ x ∈ A, ∃ rc, w.heap[x.1]? = some (.loop rc)
  | (l, H) :: A, st :: σ, ⟨h1, h2, h3⟩, x, hx => by
    rcases List.mem_cons.1 hx with rfl | hx
    · obtain ⟨rc, h, _⟩ := h1; exact ⟨rc, h⟩
    · exact RecsOk.loop h2 x hx
/-- the blocks that may change -/
def OwnA (A : Amb) (ν : Nu) (T : Tab) (b : Nat) : Prop := Own ν T b ∨ ∃ x ∈ A, x.1 = b
theorem size_of {w : World} {b : Nat} {o : Obj} (h : w.heap[b]? = some o) : b < w.heap.size := by
  rcases Nat.lt_or_ge b w.heap.size with h' | h'
  · exact h'
  · rw [Array.getElem?_eq_none h'] at h; cases h
theorem Fr.amb {A : Amb} {ν ν' : Nu} {T T' : Tab} {w w' : World} (h : Fr (Own ν T) w (Own ν' T') w') : Fr (OwnA A ν T) w (OwnA A ν' T') w' :=
  ⟨h.os, h.tape, h.output, h.size, fun b hb hO => h.block b hb (fun h => hO (.inl h)), fun b hb => by
    rcases hb with hb | hb
    · exact (h.own b hb).imp .inl id
    · exact .inl (.inr hb)⟩
/-- a block that is neither cells nor a record stays -/
theorem Fr.other {gl : Nat → Option AVal} {A : Amb} {σ : List St} {ν : Nu} {T : Tab} {O : Nat → Prop} {w w' : World} (hf : Fr (OwnA A ν T) w O w') (hr : HR gl ν T w) (hA : RecsOk ν A σ w) {b : Nat} {o : Obj} (ho : w.heap[b]? = some o) (h1 : ∀ c t z, o ≠ .cells c t z) (h2 : ∀ r, o ≠ .loop r) : w'.heap[b]? = some o := by
  rw [hf.block b (size_of ho) (fun h => ?_)]
  · exact ho
  · rcases h with h | ⟨x, hx, rfl⟩
    · exact hr.notOwn ho h1 h
    · obtain ⟨rc, hrc⟩ := hA.loop x hx
      rw [hrc] at ho; injection ho with ho; exact h2 rc ho.symm
theorem RdOk.amb {rr : Option Nat} {gl : Nat → Option AVal} {A : Amb} {σ σ' : List St} {ν ν' : Nu} {T : Tab} {O : Nat → Prop} {w w' : World} (h : RdOk rr w) (hr : HR gl ν T w) (hA : RecsOk ν A σ w) (hA' : RecsOk ν' A σ' w') (hf : Fr (OwnA A ν T) w O w') : RdOk rr w' := fun l hl => by
  obtain ⟨r, h1⟩ := h l hl
  by_cases hx : ∃ x ∈ A, x.1 = l
  · obtain ⟨x, hx, rfl⟩ := hx
    exact hA'.loop x hx
  · refine ⟨r, ?_⟩
    rw [hf.block l (size_of h1) (fun h => ?_)]
    · exact h1
    · rcases h with h | h
      · exact hr.notOwn h1 (fun _ _ _ h => by cases h) h
      · exact hx h
theorem MarksOk.trans2 {ms ms2 : List Deferred} {w w1 w2 : World} (h : MarksOk ms w w1) (h2 : MarksOk ms2 w1 w2) (hs : w.heap.size ≤ w1.heap.size) (hk : ∀ (b : Nat) x, w1.heap[b]? = some (.deferred x) → w2.heap[b]? = some (.deferred x)) : MarksOk (ms2 ++ ms) w w2 := by
  have lt : ∀ d ∈ ms, ∃ r, d = { target := .collected r, args := #[] } ∧ w.heap.size ≤ r ∧ r < w1.heap.size ∧ w2.heap[r]? = some (.deferred (some [])) := fun d hd => by
    obtain ⟨r, e, g1, g2⟩ := h.1 d hd
    exact ⟨r, e, g1, size_of g2, hk _ _ g2⟩
  refine ⟨fun d hd => ?_, List.nodup_append.2 ⟨h2.2, h.2, fun a ha b hb e => ?_⟩⟩
  · rcases List.mem_append.1 hd with hd | hd
    · obtain ⟨r, e, g1, g2⟩ := h2.1 d hd
      exact ⟨r, e, by omega, g2⟩
    · obtain ⟨r, e, g1, _, g2⟩ := lt d hd
      exact ⟨r, e, g1, g2⟩
  · obtain ⟨r, e1, g1, _⟩ := h2.1 a ha
    obtain ⟨r', e2, _, g2, _⟩ := lt b hb
    rw [e, e2] at e1
    injection e1 with e1; injection e1 with e1
    omega

def YPost (E : Env) (n k : Nat) (A : Amb) (post : AExit → Fm → Tab → List St → Prop) (D : List Deferred) (ν : Nu) (T : Tab) (w : World) (e : Exit) (a' : Act) (w' : World) : Prop :=
  ∃ ex fm' T' σ' ν', e = AExit.to ex ∧ post ex fm' T' σ' ∧ SRelM E D w ν' fm' T' n a' w' ∧ RecsOk ν' A σ' w' ∧ NuLeB k ν ν' ∧ Fr (OwnA A ν T) w (OwnA A ν' T') w'
/-- code that runs beside records -/
def YWp (E : Env) (n k : Nat) (A : Amb) (c : Code) (fm : Fm) (T : Tab) (σ : List St) (post : AExit → Fm → Tab → List St → Prop) : Prop :=
  ∀ (rr : Option Nat) D ν a w, SRel E D ν fm T n a w → RdOk rr w → RecsOk ν A σ w → c.wpIn (Fc rr) 0 E.P (YPost E n k A post D ν T w) a w

section
variable {E : Env} {n k : Nat} {A : Amb} {fm : Fm} {T : Tab} {σ : List St} {post : AExit → Fm → Tab → List St → Prop}
theorem YWp.mono {c : Code} {post' : AExit → Fm → Tab → List St → Prop} (h : YWp E n k A c fm T σ post) (hp : ∀ ex fm T σ, post ex fm T σ → post' ex fm T σ) : YWp E n k A c fm T σ post' :=
  fun rr D ν a w hs hrd hA => wpIn_mono (h rr D ν a w hs hrd hA) fun e a' w' ⟨ex, fm', T', σ', ν', h1, h2, h3⟩ => ⟨ex, fm', T', σ', ν', h1, hp _ _ _ _ h2, h3⟩
/-- code that knows nothing of records -/
theorem YWp.lift {c : Code} (hin : ambIn k A) (h : AWp E n k c fm T fun ex fm' T' => post ex fm' T' σ) : YWp E n k A c fm T σ post := by
  intro rr D ν a w hs hrd hA
  refine wpIn_mono (h rr D ν a w hs hrd) fun e a' w' ⟨ex, fm', T', ν', h1, h2, h3, h4, h5⟩ => ⟨ex, fm', T', σ, ν', h1, h2, h3, hA.keep h4 hin fun x hx => ?_, h4, h5.amb⟩
  obtain ⟨rc, hrc⟩ := hA.loop x hx
  exact h5.block _ (size_of hrc) (hs.hr.notOwn hrc (fun _ _ _ h => by cases h))
theorem YPost.trans {D ms : List Deferred} {ν ν1 : Nu} {w w1 : World} {T1 : Tab} {fm1 : Fm} {a1 : Act} {σ1 : List St} {e : Exit} {a' : Act} {w' : World} (h : YPost E n k A post (ms ++ D) ν1 T1 w1 e a' w') (s1 : SRel E (ms ++ D) ν1 fm1 T1 n a1 w1) (m1 : MarksOk ms w w1) (A1 : RecsOk ν1 A σ1 w1) (hm : NuLeB k ν ν1) (hf : Fr (OwnA A ν T) w (OwnA A ν1 T1) w1) : YPost E n k A post D ν T w e a' w' := by
  obtain ⟨ex, fm', T', σ', ν', h1, h2, ⟨ms2, h3, m2⟩, h6, h4, h5⟩ := h
  exact ⟨ex, fm', T', σ', ν', h1, h2, ⟨ms2 ++ ms, by rw [List.append_assoc]; exact h3, m1.trans2 m2 hf.size fun b x hb => h5.other s1.hr A1 hb (fun _ _ _ h => by cases h) (fun _ h => by cases h)⟩, h6, hm.trans h4, hf.trans h5⟩
theorem YWp.seq {x y : Code} (h : YWp E n k A x fm T σ fun ex fm' T' σ' => match ex with | .normal => YWp E n k A y fm' T' σ' post | ex => post ex fm' T' σ') : YWp E n k A (.seq x y) fm T σ post := by
  intro rr D ν a w hs hrd hA
  refine wpIn_seq (wpIn_mono (h rr D ν a w hs hrd hA) fun e a' w' ⟨ex, fm', T', σ', ν', h1, h2, h3, h6, h4, h5⟩ => ?_)
  subst h1
  cases ex with
  | normal =>
    obtain ⟨ms, h3, hm⟩ := h3
    exact wpIn_mono (h2 rr _ ν' a' w' h3 (hrd.amb hs.hr hA h6 h5) h6) fun e a2 w2 hp => hp.trans h3 hm h6 h4 h5
  | exit id => exact ⟨.exit id, fm', T', σ', ν', rfl, h2, h3, h6, h4, h5⟩
  | goto l => exact ⟨.goto l, fm', T', σ', ν', rfl, h2, h3, h6, h4, h5⟩
  | ret => exact ⟨.ret, fm', T', σ', ν', rfl, h2, h3, h6, h4, h5⟩
theorem YWp.block {id : Nat} {c : Code} (h : YWp E n k A c fm T σ fun ex fm' T' σ' => match ex with | .exit id' => if id' = id then post .normal fm' T' σ' else post (.exit id') fm' T' σ' | ex => post ex fm' T' σ') : YWp E n k A (.block id c) fm T σ post := by
  intro rr D ν a w hs hrd hA
  refine wpIn_block (wpIn_mono (h rr D ν a w hs hrd hA) fun e a' w' ⟨ex, fm', T', σ', ν', h1, h2, h3, h6, h4, h5⟩ => ?_)
  subst h1
  cases ex with
  | normal => exact ⟨.normal, fm', T', σ', ν', rfl, h2, h3, h6, h4, h5⟩
  | exit id' =>
    simp only [AExit.to, Exit.inBlock]
    simp only at h2
    split
    · rename_i e
      rw [if_pos e] at h2
      exact ⟨.normal, fm', T', σ', ν', rfl, h2, h3, h6, h4, h5⟩
    · rename_i e
      rw [if_neg e] at h2
      exact ⟨.exit id', fm', T', σ', ν', rfl, h2, h3, h6, h4, h5⟩
  | goto l => exact ⟨.goto l, fm', T', σ', ν', rfl, h2, h3, h6, h4, h5⟩
  | ret => exact ⟨.ret, fm', T', σ', ν', rfl, h2, h3, h6, h4, h5⟩
theorem YWp.cond {c : Operand} {x y : Code} {b : Bool} (hb : evOf fm c = some (.bool b)) (ht : b = true → YWp E n k A x fm T σ post) (hf : b = false → YWp E n k A y fm T σ post) : YWp E n k A (.cond c x y) fm T σ post := by
  intro rr D ν a w hs hrd hA
  have h1 := (evOf_rel hs c _ hb).bool_inv
  exact wpIn_cond_split h1 (fun e => ht e rr D ν a w hs hrd hA) (fun e => hf e rr D ν a w hs hrd hA)
theorem YWp.loop {c : Code} (I : Fm → Tab → List St → Nat → Prop) (m0 : Nat) (h0 : I fm T σ m0)
    (round : ∀ fm T σ m, I fm T σ m → YWp E n k A c fm T σ fun ex fm' T' σ' => match ex with | .normal => ∃ m', m' < m ∧ I fm' T' σ' m' | ex => post ex fm' T' σ') : YWp E n k A (.loop c) fm T σ post := by
  intro rr D ν a w hs hrd hA b kk cs hro hbb hrm
  have key : ∀ (m : Nat) (fm1 : Fm) (T1 : Tab) (σ1 : List St) (ν1 : Nu) (a1 : Act) (w1 : World) (ms : List Deferred), I fm1 T1 σ1 m → SRel E (ms ++ D) ν1 fm1 T1 n a1 w1 → MarksOk ms w w1 → RecsOk ν1 A σ1 w1 → NuLeB k ν ν1 → Fr (OwnA A ν T) w (OwnA A ν1 T1) w1 →
      ∃ e a' w', YPost E n k A post D ν T w e a' w' ∧ ArrivesIn (Machine.fenced E.P (Fc rr)) E.P (lone (b.atR a1 (.code c :: .inLoop c :: kk)) cs w1) b kk cs e a' w' := by
    intro m
    induction m using Nat.strongRecOn with
    | _ m ih =>
      intro fm1 T1 σ1 ν1 a1 w1 ms hI hs1 mk hA1 hm hf
      obtain ⟨e, a2, w2, hP, harr⟩ := round fm1 T1 σ1 m hI rr _ ν1 a1 w1 hs1 (hrd.amb hs.hr hA hA1 hf) hA1 b (.inLoop c :: kk) cs hro hbb hrm
      obtain ⟨ex, fm2, T2, σ2, ν2, h1, h2, ⟨ms2, h3, mk2⟩, h6, h4, h5⟩ := hP.trans hs1 mk hA1 hm hf
      subst h1
      cases ex with
      | normal =>
        obtain ⟨m', hlt, hI'⟩ := h2
        obtain ⟨e3, a3, w3, hp3, harr3⟩ := ih m' hlt fm2 T2 σ2 ν2 a2 w2 ms2 hI' h3 mk2 h6 h4 h5
        exact ⟨e3, a3, w3, hp3, .of_steps (StepsIn.trans harr (.one (fenced_calm hbb hrm rfl) stepR_inLoop)) harr3⟩
      | exit id => exact ⟨_, a2, w2, ⟨.exit id, fm2, T2, σ2, ν2, rfl, h2, ⟨ms2, h3, mk2⟩, h6, h4, h5⟩, .pass (x := .inLoop c) rfl (fun _ _ => .inl (by simp [AExit.to])) harr⟩
      | goto l => exact ⟨_, a2, w2, ⟨.goto l, fm2, T2, σ2, ν2, rfl, h2, ⟨ms2, h3, mk2⟩, h6, h4, h5⟩, .pass (x := .inLoop c) rfl (fun _ _ => .inl (by simp [AExit.to])) harr⟩
      | ret => exact ⟨_, a2, w2, ⟨.ret, fm2, T2, σ2, ν2, rfl, h2, ⟨ms2, h3, mk2⟩, h6, h4, h5⟩, .pass (x := .inLoop c) rfl (fun _ _ => .inl (by simp [AExit.to])) harr⟩
  obtain ⟨e, a', w', hp, harr⟩ := key m0 fm T σ ν a w [] h0 hs (MarksOk.nil _ _) hA (NuLeB.refl _ _) (Fr.refl _ _)
  exact ⟨e, a', w', hp, .of_steps (.one (fenced_calm hbb hrm rfl) stepR_loop) harr⟩
end
end Go.Abs

set_option linter.unusedVariables false
set_option linter.unusedSimpArgs false
namespace Go.Abs
theorem Oper.wpIn_mono2 {F : Fence} {n : Nat} {P : Program} {o : Oper} {a : Act} {w : World} {K K' : Act → World → Prop} {Q Q' : Exit → Act → World → Prop} (hk : ∀ a w, K a w → K' a w) (hq : ∀ ch a w, Q (.panic ch) a w → Q' (.panic ch) a w) (ho : ∀ a w, Q .outgrown a w → Q' .outgrown a w)
    (h : o.wpIn F n P a w K Q) : o.wpIn F n P a w K' Q' := by
  have hl : LetsOut Q → LetsOut Q' := fun ⟨a, w, h⟩ => ⟨a, w, ho a w h⟩
  unfold Oper.wpIn at *
  refine ⟨h.1, ?_⟩
  have h := h.2
  generalize (o.semAt F.round a.eval).run P w = r at *
  cases r with
  | ok nx w' =>
    cases nx with
    | value v => exact hk _ _ h
    | skip => exact hk _ _ h
    | defer d => exact hk _ _ h
    | enter f args =>
      refine ⟨h.1, h.2.mono fun e w2 he => ?_⟩
      cases e with
      | returned v => exact hk _ _ he
      | panicked ch => exact hq _ _ _ he
      | outgrown => exact hl he
    | row row args => exact ⟨h.1, h.2.mono fun v w2 he => hk _ _ he⟩
    | round l f tm s b =>
      refine ⟨h.1, h.2.mono fun e w2 he => ?_⟩
      cases e with
      | returned v => exact hk _ _ he
      | panicked ch => exact hq _ _ _ he
      | outgrown => exact hl he
    | _ => exact h.elim
  | halt t w' =>
    cases t with
    | panic v => exact hq _ _ _ h
    | _ => exact h.elim
/-- what follows in a list of operations -/
def thenQ (K : Act → World → Prop) (Q : Exit → Act → World → Prop) : Exit → Act → World → Prop
  | .normal, a, w => K a w
  | e, a, w => Q e a w
theorem wpListIn_app {F : Fence} {n : Nat} {P : Program} {ops : Array Oper} {Q : Exit → Act → World → Prop} {l2 : List Oper} : ∀ (l1 : List Oper) (a : Act) (w : World), wpListIn F n P ops (thenQ (wpListIn F n P ops Q l2) Q) l1 a w → wpListIn F n P ops Q (l1 ++ l2) a w
  | [], a, w, h => h
  | o :: r, a, w, h => by
    show wpListIn F n P ops Q (o :: (r ++ l2)) a w
    unfold wpListIn at h ⊢
    split at h
    · rename_i hw
      rw [if_pos hw]
      exact Oper.wpIn_mono2 (fun a w h => wpListIn_app r a w h) (fun _ _ _ h => h) (fun _ _ h => h) h
    · rename_i hw
      rw [if_neg hw]
      exact ⟨h.1, wpListIn_app r _ _ h.2⟩
theorem putObj_self {w : World} {l : Nat} {o o' : Obj} (h : w.heap[l]? = some o) : (w.putObj l o').heap[l]? = some o' := by
  simp only [World.putObj]
  rw [Array.getElem?_setIfInBounds_self_of_lt (size_of h)]
theorem putObj_ne {w : World} {l b : Nat} {o' : Obj} (h : l ≠ b) : (w.putObj l o').heap[b]? = w.heap[b]? := by
  simp only [World.putObj]
  rw [Array.getElem?_setIfInBounds_ne h]
theorem RecsOk.same {ν : Nu} {w w' : World} : ∀ {A : Amb} {σ : List St}, RecsOk ν A σ w → (∀ x ∈ A, w'.heap[x.1]? = w.heap[x.1]?) → RecsOk ν A σ w'
  | [], [], _, _ => trivial
  | [], _ :: _, h, _ => h.elim
  | _ :: _, [], h, _ => h.elim
  | (l, H) :: A, st :: σ, ⟨⟨rc, h1, h1'⟩, h2, h3⟩, hw => ⟨⟨rc, by rw [hw _ (.head _)]; exact h1, h1'⟩, RecsOk.same h2 (fun x hx => hw x (.tail _ hx)), h3⟩
/-- a record is written -/
theorem RecsOk.put {ν : Nu} {w : World} : ∀ {A : Amb} {σ : List St}, RecsOk ν A σ w → ∀ {i l : Nat} {H : Host}, A[i]? = some (l, H) → ∀ {st : St}, σ[i]? = some st →
    ∃ rc : Loop, w.heap[l]? = some (.loop rc) ∧ rc.state = st.1 ∧ rc.pending = st.2 ∧ rc.params = H.ps ∧ rc.assign = H.assign ∧ rc.body = H.body ∧ H.n ≤ rc.tmps.size ∧ (∀ t v, look H.fm t = some v → VR ν v (rc.tmps.getD t undef)) ∧
      ∀ (s : LoopState) (pd : Option Code), RecsOk ν A (σ.set i (s, pd)) (w.putObj l (.loop { rc with state := s, pending := pd }))
  | (l0, H0) :: A, st0 :: σ, ⟨h1, h2, h3⟩, 0, l, H, hi, st, hs => by
    simp at hi hs
    obtain ⟨rfl, rfl⟩ := hi
    subst hs
    obtain ⟨rc, g1, g2, g3, g4, g5, g6, g7, g8⟩ := h1
    exact ⟨rc, g1, g2, g3, g4, g5, g6, g7, g8, fun s pd => ⟨⟨{ rc with state := s, pending := pd }, putObj_self g1, rfl, rfl, g4, g5, g6, g7, g8⟩, h2.same fun x hx => putObj_ne (Ne.symm (h3 x hx)), h3⟩⟩
  | (l0, H0) :: A, st0 :: σ, ⟨h1, h2, h3⟩, i + 1, l, H, hi, st, hs => by
    obtain ⟨rc, g1, g2, g3, g4, g5, g6, g7, g8, g9⟩ := h2.put (i := i) (by simpa using hi) (by simpa using hs)
    have hmem : (l, H) ∈ A := List.mem_of_getElem? (i := i) (by simpa using hi)
    refine ⟨rc, g1, g2, g3, g4, g5, g6, g7, g8, fun s pd => ⟨?_, g9 s pd, h3⟩⟩
    obtain ⟨r0, k1, k2⟩ := h1
    exact ⟨r0, by rw [putObj_ne (h3 _ hmem)]; exact k1, k2⟩
theorem cell_put {w : World} {l : Nat} {r r' : Loop} (h : w.heap[l]? = some (.loop r)) {a : Addr} {x : Value} (hc : w.cell? a = some x) : (w.putObj l (.loop r')).cell? a = some x := by
  unfold World.cell? at hc ⊢
  by_cases e : l = a.block
  · subst e; rw [h] at hc; cases hc
  · rw [putObj_ne e]; exact hc
theorem HR.putLoop {gl : Nat → Option AVal} {ν : Nu} {T : Tab} {w : World} (hr : HR gl ν T w) {l : Nat} {r r' : Loop} (h : w.heap[l]? = some (.loop r)) : HR gl ν T (w.putObj l (.loop r')) := by
  have hsz : (w.putObj l (.loop r')).heap.size = w.heap.size := by simp [World.putObj]
  refine ⟨fun p o l1 ho hl => ?_, hr.lt, hr.hole, fun p l1 hl h0 => by rw [hsz]; exact hr.blk p l1 hl h0, hr.sep, fun b d hb => ?_⟩
  · obtain ⟨h1, h2, h3⟩ := hr.obj p o l1 ho hl
    refine ⟨h1, h2, ?_⟩
    rcases h3 with ⟨h3, h4⟩ | ⟨h3, h4, h5⟩ | h3
    · obtain ⟨cur, g1, g2⟩ := h4.row
      refine .inl ⟨h3, ⟨cur, ?_, g2⟩, h4.spot, h4.room⟩
      rw [putObj_ne (fun e => by rw [← e, h] at g1; injection g1 with g1; cases g1)]; exact g1
    · exact .inr (.inl ⟨h3, h4, fun i hi => let ⟨x, g1, g2⟩ := h5 i hi; ⟨x, cell_put h g1, g2⟩⟩)
    · exact .inr (.inr h3)
  · obtain ⟨h1, h2, h3, h4⟩ := hr.glob b d hb
    exact ⟨h1, by rw [hsz]; exact h2, h3, fun i hi => let ⟨x, g1, g2⟩ := h4 i hi; ⟨x, cell_put h g1, g2⟩⟩
theorem Fr.putLoop {A : Amb} {ν : Nu} {T : Tab} {w : World} {l : Nat} {o : Obj} (hl : ∃ x ∈ A, x.1 = l) : Fr (OwnA A ν T) w (OwnA A ν T) (w.putObj l o) := by
  refine ⟨rfl, rfl, rfl, by simp [World.putObj], fun b hb hO => putObj_ne (fun e => ?_), fun b hb => .inl hb⟩
  subst e
  exact hO (.inr hl)
/-- how a round ends -/
def endOf : AExit → Bool × St
  | .normal => (true, (.ready, none))
  | .ret => (false, (.done, some .ret))
  | .exit id => (false, (.done, some (.exit id)))
  | .goto l => (false, (.done, some (.goto l)))

section
variable {E : Env} {n k : Nat} {A : Amb} {fm : Fm} {T : Tab} {σ : List St} {post : AExit → Fm → Tab → List St → Prop}
/-- a region that calls yield, once -/
theorem YWp.yieldRegion (hE : EnvOk E) {id : Nat} {opsA : Array Oper} {l1 l2 : List Oper} {oy : Oper} (hsp : opsA.toList = l1 ++ oy :: l2) {ds1 : List (Option Bool)} {o1 : Out}
    (ho1 : runOps E opsA.toList n l1 fm (T ++ holes (cntA E l1)) T.length ds1 = o1) (hc1 : Ok o1)
    {f x : Operand} {t : Nat} {c : Call} (hop : oy.op = .call c) (hcal : c.callee = .value f) (hargs : c.args = #[x]) (hg : oy.guard = none) (hdst : oy.dst = some t) (htn : t < n)
    {i l : Nat} {H : Host} (hf : evOf o1.fm f = some (.func (.yield l) [] [])) {v : AVal} (hx : evOf o1.fm x = some v) (hi : A[i]? = some (l, H)) (hσ : σ[i]? = some (.ready, none)) {p : Nat} (hps : H.ps = #[p]) (hpn : p < H.n)
    {kk : Nat} (hkk : k ≤ kk) (hfm : fmIn kk o1.fm) (hamb : ambIn k A)
    (host : YWp E H.n kk A H.assign ((p, v) :: H.fm) o1.tab σ fun ex fB TB σB => ex = .normal ∧ σB[i]? = some (.ready, none) ∧
      YWp E H.n kk A H.body fB TB (σB.set i (.busy, none)) fun ex f' T' σ' => i < σ'.length ∧ ∃ ds2 o2, runOps E opsA.toList n l2 ((t, .bool (endOf ex).1) :: o1.fm) (T' ++ holes (cntA E l2)) T'.length ds2 = o2 ∧ Ok o2 ∧ post .normal o2.fm o2.tab (σ'.set i (endOf ex).2)) :
    YWp E n k A (.region id opsA false) fm T σ post := by
  intro rr D ν a w hs hrd hA
  refine wpIn_region_list ?_
  rw [hsp]
  refine wpListIn_app l1 a w ?_
  obtain ⟨g1, g2, g3⟩ := Holes_holes hs.hr (cntA E l1)
  rw [← show opsA.toList.toArray = opsA by simp]
  refine runOps_sound hE l1 ⟨g1, hs.fm, hs.size, hs.defers⟩ g3 (by rw [ho1]; exact hc1.h) fun ν1 a1 w1 s1 n1 f1 => ?_
  rw [ho1] at s1 f1
  have f1' : Fr (Own ν T) w (Own ν1 o1.tab) w1 := ⟨f1.os, f1.tape, f1.output, f1.size, fun b hb ho => f1.block b hb (fun h => ho (g2 b h)), fun b hb => (f1.own b hb).imp (g2 b) (fun h => h)⟩
  have A1 : RecsOk ν1 A σ w1 := hA.keep (n1.b k) hamb fun x hx => by
    obtain ⟨rc, hrc⟩ := hA.loop x hx
    exact f1'.block _ (size_of hrc) (hs.hr.notOwn hrc (fun _ _ _ h => by cases h))
  have rd1 : RdOk rr w1 := hrd.fr hs.hr f1'
  show wpListIn _ _ _ _ _ (oy :: l2) a1 w1
  unfold wpListIn
  rw [if_pos (by simp [Region.wanted, hg])]
  refine ⟨fun _ _ => trivial, ?_⟩
  have hsem : oy.semAt (Fc rr).round a1.eval = execOp a1.eval oy := by
    cases rr with
    | none => exact Oper.semAt_none _ _
    | some l => exact Oper.semAt_some l _ _ (fun c h => by rw [hop] at h; cases h)
  obtain ⟨rc, r1, r2, r3, r4, r5, r6, r7, r8, r9⟩ := A1.put hi hσ
  have hfe := evOf_rel s1 f _ hf
  have hxe := evOf_rel s1 x _ hx
  have hfv : a1.eval f = .func (.yield l) #[] #[] := by
    generalize a1.eval f = y at hfe
    cases hfe with
    | func fn h1 h2 h3 h4 =>
      rename_i xs ys
      have e1 : xs = #[] := by apply Array.eq_empty_of_size_eq_zero; simpa using h1.symm
      have e2 : ys = #[] := by apply Array.eq_empty_of_size_eq_zero; simpa using h3.symm
      rw [e1, e2]
  have hrun : (oy.semAt (Fc rr).round a1.eval).run E.P w1 = .ok (.round l rc.fn (rc.tmps.setIfInBounds p (a1.eval x)) rc.assign rc.body) w1 := by
    rw [hsem]
    have hy := run_yield (P := E.P) (args := #[a1.eval x]) r1 (by rw [r4, hps]; rfl)
    simp only [r4, hps] at hy
    simp [execOp, hop, resolve, hcal, hargs, hfv, Deferred.ofValue, invoke]
    simpa using hy
  rw [hrun]
  refine ⟨fun h => (Fc.depth h).elim, ?_⟩
  refine roundIn_of_wpIn Fc.fn ?_
  have hfence : (Fc rr).inRound l = Fc (some l) := rfl
  rw [hfence]
  -- the round's frame
  have sR : SRel E [] ν1 ((p, v) :: H.fm) o1.tab H.n { tmps := rc.tmps.setIfInBounds p (a1.eval x), defers := [] } w1 := by
    refine ⟨s1.hr, fun t' u hu => ?_, by simpa using r7, rfl⟩
    by_cases e : p = t'
    · subst e
      simp only [look, Nat.beq_refl] at hu
      injection hu with hu; subst hu
      have : p < rc.tmps.size := by omega
      simpa [Array.getD, this] using hxe
    · rw [look_cons_ne e] at hu
      have := r8 t' u hu
      simpa [Array.getElem?_setIfInBounds_ne e] using this
  have rdl : ∀ w2 : World, (∃ r, w2.heap[l]? = some (.loop r)) → RdOk (some l) w2 := fun w2 h l' hl' => by injection hl' with hl'; subst hl'; exact h
  rw [r5, r6]
  refine wpIn_mono (host (some l) [] ν1 _ w1 sR (rdl w1 ⟨rc, r1⟩) A1) fun e2 a2 w2 ⟨ex, fB, TB, σB, ν2, h1, ⟨hn1, hn2, hbody⟩, ⟨ms2, s2, mk2⟩, A2, m2, f2⟩ => ?_
  subst hn1 h1
  obtain ⟨rc2, q1, q2, q3, q4, q5, q6, q7, q8, q9⟩ := A2.put hi hn2
  refine ⟨_, run_beginRound q1 q2, ?_⟩
  have hmem : ∃ x ∈ A, x.1 = l := ⟨(l, H), List.mem_of_getElem? hi, rfl⟩
  have A3 : RecsOk ν2 A (σB.set i (.busy, none)) (w2.putObj l (.loop { rc2 with state := .busy })) := by
    have := q9 .busy none
    rwa [show ({ rc2 with state := .busy, pending := none } : Loop) = { rc2 with state := .busy } by rw [show (none : Option Code) = rc2.pending from q3.symm]] at this
  have s3 : SRel E (ms2 ++ []) ν2 fB TB H.n a2 (w2.putObj l (.loop { rc2 with state := .busy })) := ⟨s2.hr.putLoop q1, s2.fm, s2.size, s2.defers⟩
  have f3 : Fr (OwnA A ν2 TB) w2 (OwnA A ν2 TB) (w2.putObj l (.loop { rc2 with state := .busy })) := Fr.putLoop hmem
  refine wpIn_mono (hbody (some l) _ ν2 a2 _ s3 (rdl _ ⟨_, putObj_self q1⟩) A3) fun e4 a4 w4 ⟨ex, f', T', σ', ν4, h1, ⟨hlen, ds2, o2, ho2, hc2, hpost⟩, ⟨ms4, s4, mk4⟩, A4, m4, f4⟩ => ?_
  subst h1
  obtain ⟨st4, hst4⟩ : ∃ st, σ'[i]? = some st := ⟨σ'[i], List.getElem?_eq_getElem hlen⟩
  obtain ⟨rc4, z1, z2, z3, z4, z5, z6, z7, z8, z9⟩ := A4.put hi hst4
  -- what follows yield
  have after : ∀ (b : Bool) (st : St), (b, st) = endOf ex → wpListIn (Fc rr) 0 E.P opsA.toList.toArray (YPost E n k A post D ν T w) l2 (a1.put oy.dst (.bool b)) (w4.putObj l (.loop { rc4 with state := st.1, pending := st.2 })) := by
    intro b st he
    rw [← he] at ho2 hpost
    simp only at ho2 hpost
    have A5 := z9 st.1 st.2
    have f5 : Fr (OwnA A ν4 T') w4 (OwnA A ν4 T') (w4.putObj l (.loop { rc4 with state := st.1, pending := st.2 })) := Fr.putLoop hmem
    have fall := f2.trans (f3.trans (f4.trans f5))
    have mm : NuLeB kk ν1 ν4 := m2.trans m4
    have s5 : SRel E D ν4 ((t, .bool b) :: o1.fm) T' n (a1.put oy.dst (.bool b)) (w4.putObj l (.loop { rc4 with state := st.1, pending := st.2 })) := by
      have h0 : SRel E D ν4 o1.fm T' n a1 (w4.putObj l (.loop { rc4 with state := st.1, pending := st.2 })) := ⟨s4.hr.putLoop z1, fun t' u hu => (s1.fm t' u hu).monoB mm (hfm t' u hu), s1.size, s1.defers⟩
      have := h0.put (d := oy.dst) (v := .bool b) (x := .bool b) (NuLe.refl ν4) h0.hr (by rw [hdst]; simpa [dstOk] using htn) (.bool b)
      rw [hdst] at this ⊢
      exact this
    obtain ⟨y1, y2, y3⟩ := Holes_holes s5.hr (cntA E l2)
    refine runOps_sound hE l2 ⟨y1, s5.fm, s5.size, s5.defers⟩ y3 (by rw [ho2]; exact hc2.h) fun ν6 a6 w6 s6 n6 f6 => ?_
    rw [ho2] at s6 f6
    have f6' : Fr (Own ν4 T') (w4.putObj l (.loop { rc4 with state := st.1, pending := st.2 })) (Own ν6 o2.tab) w6 := ⟨f6.os, f6.tape, f6.output, f6.size, fun b hb ho => f6.block b hb (fun h => ho (y2 b h)), fun b hb => (f6.own b hb).imp (y2 b) (fun h => h)⟩
    have A6 : RecsOk ν6 A (σ'.set i st) w6 := A5.keep (n6.b k) hamb fun x hx => by
      obtain ⟨rc, hrc⟩ := A5.loop x hx
      exact f6'.block _ (size_of hrc) (s5.hr.notOwn hrc (fun _ _ _ h => by cases h))
    refine ⟨.normal, o2.fm, o2.tab, σ'.set i st, ν6, rfl, hpost, s6.m, A6, ?_, f1'.amb.trans (fall.trans f6'.amb)⟩
    exact (n1.b k).trans ((show NuLeB k ν1 ν4 from fun p hp => mm p (by omega)).trans (n6.b k))
  cases ex with
  | normal => exact ⟨_, _, run_endRound none z1, after true _ rfl⟩
  | ret => exact ⟨_, _, run_endRound (some .ret) z1, after false _ rfl⟩
  | exit id => exact ⟨_, _, run_endRound (some (.exit id)) z1, after false _ rfl⟩
  | goto l' => exact ⟨_, _, run_endRound (some (.goto l')) z1, after false _ rfl⟩
end
end Go.Abs

set_option linter.unusedVariables false
set_option linter.unusedSimpArgs false
namespace Go.Abs
/-- blocks were laid at the end; nothing else -/
structure Gr (w w' : World) : Prop where
  os : w'.os = w.os
  tape : w'.tape = w.tape
  output : w'.output = w.output
  size : w.heap.size ≤ w'.heap.size
  low : ∀ b : Nat, b < w.heap.size → w'.heap[b]? = w.heap[b]?
theorem Gr.alloc (w : World) (o : Obj) : Gr w (w.alloc o) :=
  ⟨rfl, rfl, rfl, by simp, fun b hb => by
    simp only [World.alloc]
    rw [Array.getElem?_push, if_neg (by omega)]⟩
theorem Gr.trans {a b c : World} (h : Gr a b) (k : Gr b c) : Gr a c :=
  ⟨k.os.trans h.os, k.tape.trans h.tape, k.output.trans h.output, Nat.le_trans h.size k.size, fun x hx => (k.low x (Nat.lt_of_lt_of_le hx h.size)).trans (h.low x hx)⟩
theorem HR.gr {gl : Nat → Option AVal} {ν : Nu} {T : Tab} {w w' : World} (hr : HR gl ν T w) (h : Gr w w') : HR gl ν T w' := by
  have hc : ∀ {a : Addr} {x : Value}, w.cell? a = some x → w'.cell? a = some x := fun {a x} hc => by
    unfold World.cell? at hc ⊢
    cases ho : w.heap[a.block]? with
    | none => rw [ho] at hc; cases hc
    | some o => rw [ho] at hc; rw [h.low _ (size_of ho), ho]; exact hc
  refine ⟨fun p o l ho hl => ?_, hr.lt, hr.hole, fun p l hl h0 => Nat.lt_of_lt_of_le (hr.blk p l hl h0) h.size, hr.sep, fun b d hb => ?_⟩
  · obtain ⟨h1, h2, h3⟩ := hr.obj p o l ho hl
    refine ⟨h1, h2, ?_⟩
    rcases h3 with ⟨h3, h4⟩ | ⟨h3, h4, h5⟩ | h3
    · obtain ⟨cur, g1, g2⟩ := h4.row
      exact .inl ⟨h3, ⟨cur, by rw [h.low _ (size_of g1)]; exact g1, g2⟩, h4.spot, h4.room⟩
    · exact .inr (.inl ⟨h3, h4, fun i hi => let ⟨x, g1, g2⟩ := h5 i hi; ⟨x, hc g1, g2⟩⟩)
    · exact .inr (.inr h3)
  · obtain ⟨h1, h2, h3, h4⟩ := hr.glob b d hb
    exact ⟨h1, Nat.lt_of_lt_of_le h2 h.size, h3, fun i hi => let ⟨x, g1, g2⟩ := h4 i hi; ⟨x, hc g1, g2⟩⟩
theorem Gr.fr {A : Amb} {ν : Nu} {T : Tab} {w w' : World} (h : Gr w w') : Fr (OwnA A ν T) w (OwnA A ν T) w' := ⟨h.os, h.tape, h.output, h.size, fun b hb _ => h.low b hb, fun b hb => .inl hb⟩
section
variable {E : Env} {n k : Nat} {A : Amb} {fm : Fm} {T : Tab} {σ : List St} {post : AExit → Fm → Tab → List St → Prop}
theorem World.alloc_heap_new' (w : World) (o : Obj) {n : Nat} (h : w.heap.size = n) : (w.alloc o).heap[n]? = some o := by subst h; exact World.alloc_heap_new w o
/-- entering -/
theorem enter_any {P : Program} {rr : Option Nat} {w : World} (hrd : RdOk rr w) (fn : FuncId) (tmps : Array Value) (ps : Array Tmp) (assign body : Code) :
    ∃ (l : Nat) (mark : List Deferred) (w1 : World) (rc : Loop), (Instr.enterLoop fn tmps ps assign body rr).run P w = .ok (l, mark) w1 ∧ w1.heap[l]? = some (.loop rc) ∧ rc.state = .ready ∧ rc.pending = none ∧ rc.params = ps ∧ rc.assign = assign ∧ rc.body = body ∧ rc.tmps = tmps ∧
      w.heap.size ≤ l ∧ Gr w w1 ∧ MarksOk mark w w1 := by
  cases rr with
  | none =>
    refine ⟨_, _, _, _, run_enterLoop_outer fn tmps ps assign body, World.alloc_heap_new' _ _ (World.size_alloc _ _), rfl, rfl, rfl, rfl, rfl, rfl, by omega, (Gr.alloc _ _).trans (Gr.alloc _ _), ?_, by simp⟩
    intro d hd
    simp at hd; subst hd
    refine ⟨_, rfl, Nat.le_refl _, ?_⟩
    rw [(Gr.alloc _ _).low _ (by simp)]
    exact World.alloc_heap_new w _
  | some l0 =>
    obtain ⟨r0, h0⟩ := hrd l0 rfl
    exact ⟨_, _, _, _, run_enterLoop_inner h0 fn tmps ps assign body, World.alloc_heap_new w _, rfl, rfl, rfl, rfl, rfl, rfl, Nat.le_refl _, Gr.alloc _ _, MarksOk.nil _ _⟩

/-- THE STATEMENT -/
theorem YWp.rangeFunc (hE : EnvOk E) {g : Operand} {p : Tmp} {assign body : Code} {gf : Nat} {first caps : List AVal} {gfn : Func} {c : Code}
    (hg : evOf fm g = some (.func (.func gf) first caps)) (hfn : E.P.funcs[gf]? = some gfn) (hb : gfn.body = some c) (hext : (gfn.name == "runtime.NumGoroutine") = false)
    {kk : Nat} (hkk : k ≤ kk) (hin : fmIn kk fm) (hsz : Nat.ble (first.length + (1 + caps.length)) gfn.ntmps = true)
    (callee : ∀ l, YWp E gfn.ntmps kk ((l, ⟨#[p], assign, body, fm, n⟩) :: A) c (argF (first ++ (.func (.yield l) [] [] :: caps)) 0) T ((.ready, none) :: σ) fun ex fm' T' σ' =>
      (ex = .normal ∨ ex = .ret) ∧ (∃ cs us, aRes E fm' T' gfn.results.toList = some (cs, us) ∧ allP cs) ∧ ∃ st σ2, σ' = st :: σ2 ∧ st.1 ≠ .busy ∧
        match st.2 with | none => post .normal fm T' σ2 | some (.exit id) => post (.exit id) fm T' σ2 | some .ret => post .ret fm T' σ2 | _ => False) :
    YWp E n k A (.rangeFunc g #[p] assign body) fm T σ post := by
  intro rr D ν a w hs hrd hA
  refine wpIn_rangeFunc fun fn _ => ?_
  obtain ⟨l, mark, w1, rc, he, e1, e2, e3, e4, e5, e6, e7, e8, e9, e10⟩ := enter_any (P := E.P) hrd fn a.tmps #[p] assign body
  have hgv := evOf_rel hs g _ hg
  generalize hfe : a.eval g = fe at hgv
  cases hgv with
  | func fnn h1 h2 h3 h4 =>
  rename_i xs ys
  have vf : VRs ν first xs.toList := ⟨by simpa using h1, fun i hi => by simpa using h2 i hi⟩
  have vc : VRs ν caps ys.toList := ⟨by simpa using h3, fun i hi => by simpa using h4 i hi⟩
  have vy : VR ν (AVal.func (.yield l) [] []) (Value.func (.yield l) #[] #[]) := .func _ (by simp) (by intro i hi; simp at hi) (by simp) (by intro i hi; simp at hi)
  have vall : VRs ν (first ++ (AVal.func (.yield l) [] [] :: caps)) ((xs ++ #[Value.func (.yield l) #[] #[]]) ++ ys).toList := by
    have := vf.append (VRs.cons vy vc)
    simpa [List.append_assoc] using this
  have hle : (first ++ (AVal.func (.yield l) [] [] :: caps)).length ≤ gfn.ntmps := by
    have := Nat.le_of_ble_eq_true hsz
    simp; omega
  refine ⟨l, mark, w1, { target := .fn (.func gf) ys, args := xs ++ #[Value.func (.yield l) #[] #[]] }, w1, gf, (xs ++ #[Value.func (.yield l) #[] #[]]) ++ ys, w1, he, ?_, fun _ _ => trivial, ?_, fun h => (Fc.depth h).elim, ?_⟩
  · simp only [resolve, hfe]
    simp [Deferred.ofValue]
    rfl
  · have g2 : ¬ gfn.name = "runtime.NumGoroutine" := by simpa using hext
    have g3 : ¬ gfn.body = none := by rw [hb]; simp
    simp [invoke, callFunc, hfn, g2, g3]
  -- the callee
  have hwide : CallsIn Fence.wide 0 E.P gf ((xs ++ #[.func (.yield l) #[] #[]]) ++ ys) w1 (rangePost (Fc rr) 0 E.P l (YPost E n k A post D ν T w) { a with defers := mark ++ a.defers }) := by
    refine callsIn_of_wp_marks (F := Fence.wide) (n := 0) hfn hb trivial ?_
    generalize hvs : (xs ++ #[Value.func (.yield l) #[] #[]]) ++ ys = vs at vall
    generalize hav : first ++ (AVal.func (.yield l) [] [] :: caps) = av at vall hle
    have hcal := callee l
    rw [hav] at hcal
    have s1 : SRel E [] ν (argF av 0) T gfn.ntmps { tmps := vs ++ Array.replicate (gfn.ntmps - vs.size) undef, defers := [] } w1 := by
      refine ⟨hs.hr.gr e9, fun t v hl => ?_, by simp; omega, rfl⟩
      obtain ⟨h1, h2, h3⟩ := argF_look vall hl
      simp only [Nat.sub_zero] at h2 h3
      have : (vs ++ Array.replicate (gfn.ntmps - vs.size) undef).getD t undef = vs.toList.getD t undef := by
        have h2' : t < vs.size := by simpa using h2
        simp [Array.getElem?_append_left h2', List.getD]
      rw [this]; exact h3
    have A1 : RecsOk ν ((l, ⟨#[p], assign, body, fm, n⟩) :: A) ((.ready, none) :: σ) w1 := by
      refine ⟨⟨rc, e1, e2, e3, e4, e5, e6, by rw [e7]; exact hs.size, fun t v hl => by rw [e7]; exact hs.fm t v hl⟩, hA.same fun x hx => ?_, fun x hx e => ?_⟩
      · obtain ⟨r, hr⟩ := hA.loop x hx
        exact e9.low _ (size_of hr)
      · obtain ⟨r, hr⟩ := hA.loop x hx
        have := size_of hr
        omega
    refine wpIn_mono (hcal none [] ν _ w1 s1 (fun l h => by cases h) A1) fun e a' w' ⟨ex, fm', T', σ', ν', h1, ⟨hex, ⟨cs, us, hres, hcs⟩, st, σ2, hσ, hbusy, hpost⟩, ⟨ms, s', mk⟩, A', n', f'⟩ => ?_
    subst h1 hσ
    have post : LeavesInM Fence.wide 0 E.P gfn a'.tmps (rangePost (Fc rr) 0 E.P l (YPost E n k A post D ν T w) { a with defers := mark ++ a.defers }) a'.defers .returning w' := by
      have hd : a'.defers = ms := by rw [s'.defers, List.append_nil]
      rw [hd]
      refine leaves_marks ms w' mk.1 mk.2 (Sh.refl w1.heap.size w') fun w2 hsh => ?_
      have s2 : SRel E (ms ++ []) ν' fm' T' gfn.ntmps a' w2 := ⟨s'.hr.sh hsh, s'.fm, s'.size, s'.defers⟩
      obtain ⟨xs, g1, g2⟩ := aRes_sound hE s2 hres hcs
      have hres : (results gfn a'.tmps).run E.P w2 = .ok (if h : xs.toArray.size = 1 then xs.toArray[0] else .tuple xs.toArray) w2 := by
        have : (gfn.results.mapM (resF a'.tmps)).run E.P w2 = .ok xs.toArray w2 := by
          rw [Array.mapM_eq_mapM_toList]
          simp [g1]
        unfold results
        rw [Sem.run_bind]
        refine (congrArg (fun r => Result.andThen r _) ((congrArg (fun g => Sem.run E.P (Array.mapM g gfn.results) w2) (funext fun x => ?_)).trans this)).trans rfl
        cases x <;> rfl
      refine ⟨_, hres, ?_⟩
      have A2 : RecsOk ν' ((l, ⟨#[p], assign, body, fm, n⟩) :: A) (st :: σ2) w2 := A'.same fun x hx => by
        obtain ⟨r, hr⟩ := A'.loop x hx
        rw [hr, hsh.block _ _ hr (fun _ h => by cases h)]
      obtain ⟨⟨rc2, q1, q2, q3, q4⟩, A3, hne⟩ := A2
      have f2 : Fr (OwnA ((l, ⟨#[p], assign, body, fm, n⟩) :: A) ν T) w1 (OwnA ((l, ⟨#[p], assign, body, fm, n⟩) :: A) ν' T') w2 := f'.sh rfl hsh
      obtain ⟨jp, hjp⟩ : ∃ jp, jp = rc2.pending := ⟨_, rfl⟩
      refine ⟨jp, _, by rw [hjp]; exact run_endLoop q1 (by rw [q2]; exact hbusy), ?_⟩
      have hj2 : jp = st.2 := hjp.trans q3
      clear hjp
      subst hj2
      have hmark : MarksOk mark w (w2.putObj l (.loop { rc2 with state := .exhausted })) := by
        refine ⟨fun d hd => ?_, e10.2⟩
        obtain ⟨r, g1, g2, g3⟩ := e10.1 d hd
        have hlt := size_of g3
        have g4 : w'.heap[r]? = some (.deferred (some [])) := f'.other (hs.hr.gr e9) A1 g3 (fun _ _ _ h => by cases h) (fun _ h => by cases h)
        refine ⟨r, g1, g2, ?_⟩
        rw [putObj_ne (fun e => by rw [← e, e1] at g3; injection g3 with g3; cases g3), hsh.low r hlt]
        exact g4
      have s4 : SRelM E D w ν' fm T' n { a with defers := mark ++ a.defers } (w2.putObj l (.loop { rc2 with state := .exhausted })) :=
        ⟨mark, ⟨s2.hr.putLoop q1, fun t v hl => (hs.fm t v hl).monoB n' (hin t v hl), hs.size, by rw [hs.defers]⟩, hmark⟩
      have A4 : RecsOk ν' A σ2 (w2.putObj l (.loop { rc2 with state := .exhausted })) := A3.same fun x hx => putObj_ne (Ne.symm (hne x hx))
      have n4 : NuLeB k ν ν' := fun p hp => n' p (by omega)
      have f4 : Fr (OwnA A ν T) w (OwnA A ν' T') (w2.putObj l (.loop { rc2 with state := .exhausted })) := by
        have hs2 : w.heap.size ≤ w2.heap.size := Nat.le_trans e9.size f2.size
        refine ⟨f2.os.trans e9.os, f2.tape.trans e9.tape, f2.output.trans e9.output, by simpa [World.putObj] using hs2, fun b hb hO => ?_, fun b hb => ?_⟩
        · rw [putObj_ne (by omega), f2.block b (Nat.lt_of_lt_of_le hb e9.size) (fun h => ?_)]
          · exact e9.low b hb
          · rcases h with h | ⟨x, hx, rfl⟩
            · exact hO (.inl h)
            · rcases List.mem_cons.1 hx with rfl | hx
              · simp at hb; omega
              · exact hO (.inr ⟨x, hx, rfl⟩)
        · have : OwnA ((l, ⟨#[p], assign, body, fm, n⟩) :: A) ν' T' b := hb.imp id fun ⟨x, hx, e⟩ => ⟨x, .tail _ hx, e⟩
          rcases f2.own b this with h | h
          · rcases h with h | ⟨x, hx, rfl⟩
            · exact .inl (.inl h)
            · rcases List.mem_cons.1 hx with rfl | hx
              · exact .inr e8
              · exact .inl (.inr ⟨x, hx, rfl⟩)
          · exact .inr (Nat.le_trans e9.size h)
      obtain ⟨st1, st2⟩ := st
      cases st2 with
      | none => exact ⟨.normal, fm, T', σ2, ν', rfl, hpost, s4, A4, n4, f4⟩
      | some j =>
        cases j with
        | exit id => exact wpIn_exit ⟨.exit id, fm, T', σ2, ν', rfl, hpost, s4, A4, n4, f4⟩
        | ret => exact wpIn_ret ⟨.ret, fm, T', σ2, ν', rfl, hpost, s4, A4, n4, f4⟩
        | _ => exact hpost.elim
    rcases hex with rfl | rfl
    · exact post
    · exact post
  exact hwide
theorem AWp.ofY {c : Code} {post : AExit → Fm → Tab → Prop} (h : YWp E n k [] c fm T [] fun ex fm' T' _ => post ex fm' T') : AWp E n k c fm T post := by
  intro rr D ν a w hs hrd
  refine wpIn_mono (h rr D ν a w hs hrd trivial) fun e a' w' ⟨ex, fm', T', σ', ν', h1, h2, h3, h6, h4, h5⟩ => ⟨ex, fm', T', ν', h1, h2, h3, h4, ?_⟩
  have hO : ∀ (ν : Nu) (T : Tab) b, OwnA [] ν T b ↔ Own ν T b := fun ν T b => ⟨fun h => h.elim id (fun ⟨x, hx, _⟩ => by cases hx), .inl⟩
  exact ⟨h5.os, h5.tape, h5.output, h5.size, fun b hb hO' => h5.block b hb (fun h => hO' ((hO _ _ _).1 h)), fun b hb => (h5.own b ((hO _ _ _).2 hb)).imp (hO _ _ _).1 (fun h => h)⟩
theorem YWp.ofTo {c : Code} {ex : AExit} {fm' : Fm} {T' : Tab} (h : To E n k c fm T ex fm' T') (hin : ambIn k A) (hp : post ex fm' T' σ) : YWp E n k A c fm T σ post :=
  YWp.lift hin (AWp.mono h fun e f t hP => by obtain ⟨e1, e2, e3⟩ := hP; subst e1 e2 e3; exact hp)
theorem fmIn_of {k : Nat} {fm : Fm} (h : fm.all (fun x => idsIn (fun i => Nat.blt i k) x.2) = true) : fmIn k fm := by
  intro t v hl
  induction fm with
  | nil => cases hl
  | cons x r ih =>
    obtain ⟨s, u⟩ := x
    simp only [List.all_cons, Bool.and_eq_true] at h
    simp only [look] at hl
    split at hl
    · injection hl with hl; subst hl; exact h.1
    · exact ih h.2 hl
theorem ambIn_one {k l : Nat} {H : Host} (h : H.fm.all (fun x => idsIn (fun i => Nat.blt i k) x.2) = true) : ambIn k [(l, H)] := fun x hx => by
  rcases List.mem_cons.1 hx with rfl | hx
  · exact fmIn_of h
  · cases hx
end
end Go.Abs

set_option linter.unusedVariables false
set_option linter.unusedSimpArgs false
namespace Go.Abs
/-! ## a function's contract from its body's walk; bytes of whatever kind -/
theorem small_of_awp {E : Env} (hE : EnvOk E) {f : FuncId} {fn : Func} {c : Code} (hf : E.P.funcs[f]? = some fn) (hb : fn.body = some c) {args : List AVal} {T0 : Tab} {v : AVal} {T1 : Tab} (hle : Nat.ble args.length fn.ntmps = true)
    (h : AWp E fn.ntmps T0.length c (argF args 0) T0 fun ex fm T => (ex = .normal ∨ ex = .ret) ∧ T = T1 ∧ ∃ cs us, aRes E fm T fn.results.toList = some (cs, us) ∧ allP cs ∧ retV us = v) : Small E.P E.gl f args T0 v T1 := by
  intro ν w vs hr hv
  refine callsIn_wide.1 (callsIn_of_wp_marks (F := Fence.wide) (n := 0) hf hb trivial ?_)
  have hs : SRel E [] ν (argF args 0) T0 fn.ntmps { tmps := vs ++ Array.replicate (fn.ntmps - vs.size) undef, defers := [] } w := by
    refine ⟨hr, fun t v hl => ?_, by simp; omega, rfl⟩
    obtain ⟨h1, h2, h3⟩ := argF_look hv hl
    simp only [Nat.sub_zero] at h2 h3
    have : (vs ++ Array.replicate (fn.ntmps - vs.size) undef).getD t undef = vs.toList.getD t undef := by
      have h2' : t < vs.size := by simpa using h2
      simp [Array.getElem?_append_left h2', List.getD]
    rw [this]; exact h3
  refine wpIn_mono (h none [] ν _ w hs (fun l h => by cases h)) fun e a' w' hP => ?_
  obtain ⟨ex, fm', T', ν', e1, ⟨hex, hT, cs2, us, h2, h3, hu⟩, ⟨ms, s', mk⟩, n', f'⟩ := hP
  subst e1 hT hu
  have post : LeavesInM Fence.wide 0 E.P fn a'.tmps (fun e w' => ∃ x ν', e = .returned x ∧ VR ν' (retV us) x ∧ HR E.gl ν' T' w' ∧ NuLeB T0.length ν ν' ∧ Fr (Own ν T0) w (Own ν' T') w') a'.defers .returning w' := by
    have hd : a'.defers = ms := by rw [s'.defers, List.append_nil]
    rw [hd]
    refine leaves_marks ms w' mk.1 mk.2 (Sh.refl w.heap.size w') fun w2 hsh => ?_
    have s2 : SRel E (ms ++ []) ν' fm' T' fn.ntmps a' w2 := ⟨s'.hr.sh hsh, s'.fm, s'.size, s'.defers⟩
    obtain ⟨xs, g1, g2⟩ := aRes_sound hE s2 h2 h3
    have hres : (results fn a'.tmps).run E.P w2 = .ok (if h : xs.toArray.size = 1 then xs.toArray[0] else .tuple xs.toArray) w2 := by
      have : (fn.results.mapM (resF a'.tmps)).run E.P w2 = .ok xs.toArray w2 := by
        rw [Array.mapM_eq_mapM_toList]
        simp [g1]
      unfold results
      rw [Sem.run_bind]
      refine (congrArg (fun r => Result.andThen r _) ((congrArg (fun g => Sem.run E.P (Array.mapM g fn.results) w2) (funext fun x => ?_)).trans this)).trans rfl
      cases x <;> rfl
    exact ⟨_, hres, _, ν', rfl, retV_VR g2, s2.hr, n', f'.sh rfl hsh⟩
  rcases hex with rfl | rfl
  · exact post
  · exact post

section
variable {E : Env} {n k : Nat} {fm : Fm} {T : Tab} {post : AExit → Fm → Tab → Prop}
end
end Go.Abs

set_option linter.unusedVariables false
namespace Go.Abs
/-! ## a chain of codes -/
def chn : List Code → Code → Code
  | [], r => r
  | c :: l, r => .seq c (chn l r)
def runs (E : Env) (n : Nat) (orc : Orc) (f : Nat) : List Code → Fm → Tab → List (Option Bool) → Out
  | [], fm, T, ds => ⟨[], .normal, fm, T, ds⟩
  | c :: l, fm, T, ds => seqO (run E n orc f c fm T ds) (runs E n orc f l)
theorem AWp.chn {E : Env} (hE : EnvOk E) (hm : E.P.follows .mixedOrders = true) {n k : Nat} {orc : Orc} (hk : k ≤ orc.kb) {f : Nat} {post : AExit → Fm → Tab → Prop} {rest : Code} : ∀ {cs : List Code}, (∀ c ∈ cs, OrcOk E n orc c) → ∀ {fm : Fm} {T : Tab} {ds : List (Option Bool)} {o : Out}, runs E n orc f cs fm T ds = o → allP o.cs → o.ex = .normal → AWp E n k rest o.fm o.tab post → AWp E n k (Abs.chn cs rest) fm T post
  | [], _, fm, T, ds, o, ho, hc, hx, h => by subst ho; exact h
  | c :: l, hO, fm, T, ds, o, ho, hc, hx, h => by
    refine AWp.seq ?_
    simp only [runs] at ho
    have hrun := fun hh => (run_sound hE hm hk (hO c (.head _)) f (c := c) (fun _ _ h => h) (fm := fm) (T := T) (ds := ds) hh).1
    generalize run E n orc f c fm T ds = o1 at ho hrun
    obtain ⟨cs1, ex1, fm1, T1, ds1⟩ := o1
    cases ex1 with
    | normal =>
      simp only [seqO] at ho
      generalize hr : runs E n orc f l fm1 T1 ds1 = o2 at ho
      obtain ⟨cs2, ex2, fm2, T2, ds2⟩ := o2
      subst ho
      simp only at hc hx h
      rw [allP_append] at hc
      refine AWp.mono (hrun hc.1) fun ex fm' T' hP => ?_
      obtain ⟨e1, e2, e3⟩ := hP
      subst e1 e2 e3
      exact AWp.chn hE hm hk (fun c hc => hO c (.tail _ hc)) hr hc.2 hx h
    | exit id => subst ho; cases hx
    | goto l => subst ho; cases hx
    | ret => subst ho; cases hx
def frontC : Nat → Code → List Code
  | n + 1, .seq a b => a :: frontC n b
  | _, _ => []
def backC : Nat → Code → Code
  | n + 1, .seq a b => backC n b
  | _, c => c
theorem chn_split : ∀ (n : Nat) (c : Code), chn (frontC n c) (backC n c) = c
  | 0, c => by cases c <;> rfl
  | n + 1, c => by
    cases c with
    | seq a b => simp only [frontC, backC, chn, chn_split n b]
    | _ => rfl
theorem AWp.cut {E : Env} (hE : EnvOk E) (hm : E.P.follows .mixedOrders = true) {n k : Nat} {f : Nat} {post : AExit → Fm → Tab → Prop} {c : Code} (j : Nat) {fm : Fm} {T : Tab} {ds : List (Option Bool)} {o : Out} (ho : runs E n ⟨k, []⟩ f (frontC j c) fm T ds = o) (hc : Ok o) (hx : o.ex = .normal) (h : AWp E n k (backC j c) o.fm o.tab post) : AWp E n k c fm T post := by
  have := AWp.chn hE hm (orc := ⟨k, []⟩) (Nat.le_refl k) (cs := frontC j c) (fun c _ => OrcOk.nil) ho hc.h hx h
  rwa [chn_split] at this
end Go.Abs

set_option linter.unusedVariables false
set_option linter.unusedSimpArgs false
namespace Go.Abs
/-! ## A region that draws its order and ends in a call of yield -/
section
variable {c : Cfg} {vals : Fm} {ν0 : Nu} {T0 : Tab} {w0 : World} {D : List Deferred} {rr : Option Nat} {Q : Exit → Act → World → Prop}
theorem ls_of {L : Array Bool} {i : Nat} (h : L.getD i true = false) : ¬ ls L i := by
  intro h2
  unfold ls at h2
  rcases Nat.lt_or_ge i L.size with h' | h'
  · simp [h'] at h2 h; rw [h] at h2; cases h2
  · simp [Array.getElem?_eq_none h'] at h
theorem of_ls {L : Array Bool} {i : Nat} (hi : i < L.size) (h : ¬ ls L i) : L.getD i true = false := by
  unfold ls at h
  simp [hi] at h ⊢
  exact h
structure Front (full : List Oper) (c : Cfg) (oy : Oper) (l2 : List Oper) : Prop where
  eq : full = c.ops ++ oy :: l2
  g : ∀ o ∈ c.ops, o.guard = none
  b : ∀ j, j < c.ops.length → bit (maskOf c.anc oy.after.toList) j = true
  e : ∀ e ∈ oy.after.toList, bindsB e = true → e.on < c.ops.length
  a : ∀ o ∈ l2, ∃ e ∈ o.after.toList, bindsB e = true ∧ c.ops.length ≤ e.on
theorem Front.lt {full : List Oper} {oy : Oper} {l2 : List Oper} (F : Front full c oy l2) {i : Nat} (h : i < c.ops.length) : full.toArray[i]? = c.ops[i]? := by
  rw [F.eq]; simp [List.getElem?_append_left h]
theorem Front.at {full : List Oper} {oy : Oper} {l2 : List Oper} (F : Front full c oy l2) : full.toArray[c.ops.length]? = some oy := by
  rw [F.eq]; simp
theorem Front.len {full : List Oper} {oy : Oper} {l2 : List Oper} (F : Front full c oy l2) : full.length = c.ops.length + (l2.length + 1) := by
  rw [F.eq]; simp
/-- nothing behind the front is ready before all of the front is listed -/
theorem Front.ready {full : List Oper} {oy : Oper} {l2 : List Oper} (F : Front full c oy l2) (g : Geo c) (hanc : c.anc = ancsGo c.ops []) {L Lf : Array Bool} (hfr : ∀ i, i < c.ops.length → (ls L i ↔ ls Lf i)) (hno : ∀ i, c.ops.length ≤ i → ¬ ls L i)
    (hcl : ∀ (i : Nat) (o : Oper), c.ops[i]? = some o → ls Lf i → ∀ e ∈ o.after.toList, bindsB e = true → ls Lf e.on) (hlf : ∀ i, ls Lf i → i < c.ops.length) {i : Nat} (hi : i ∈ Region.ready .any full.toArray L) (hge : c.ops.length ≤ i) : i = c.ops.length ∧ ∀ j, j < c.ops.length → ls Lf j := by
  obtain ⟨h1, o, h2, h3⟩ := mem_ready.1 hi
  have h2' : full[i]? = some o := by simpa using h2
  rw [F.eq, List.getElem?_append_right hge] at h2'
  have back : ∀ e ∈ o.after.toList, bindsB e = true → ls L e.on := fun e he hb => h3 e (by simpa using he) (by rw [bindsB_eq]; exact hb)
  cases hk : i - c.ops.length with
  | zero =>
    rw [hk] at h2'
    simp at h2'
    subst h2'
    refine ⟨by omega, fun j hj => ?_⟩
    have hb := F.b j hj
    obtain ⟨e, e1, e2, e3⟩ := maskOf_bit hb
    have hlt := F.e e e1 e2
    have hs := (hfr e.on hlt).1 (back e e1 e2)
    rcases e3 with rfl | e3
    · exact hs
    · have e4 : bit (c.an e.on) j = true := by
        unfold Cfg.an; rw [nthN_eq]; exact e3
      exact g.down (S := ls Lf) hcl e.on hs j e4
  | succ k =>
    rw [hk] at h2'
    simp at h2'
    obtain ⟨e, e1, e2, e3⟩ := F.a o (List.mem_of_getElem? h2')
    exact absurd (back e e1 e2) (hno e.on e3)
theorem wpAny_front (G : Good c vals) (hanc : c.anc = ancsGo c.ops []) {full : List Oper} {oy : Oper} {l2 : List Oper} (F : Front full c oy l2)
    (hQ : ∀ L ν a w, L.size = full.length → (∀ i, i < c.ops.length → ls L i) → (∀ i, c.ops.length ≤ i → ¬ ls L i) → (∃ Lf, (∀ i, i < c.ops.length → ls Lf i) ∧ DInv c vals ν0 T0 w0 D Lf c.eix.length ν a w) → wpAnyIn (Fc rr) 0 c.E.P .any full.toArray Q (l2.length + 1) L a w) :
    ∀ (k : Nat) (L Lf : Array Bool) (s : Nat) (ν : Nu) (a : Act) (w : World), L.size = full.length → (∀ i, i < c.ops.length → (ls L i ↔ ls Lf i)) → (∀ i, c.ops.length ≤ i → ¬ ls L i) →
    DInv c vals ν0 T0 w0 D Lf s ν a w → unl Lf = k → wpAnyIn (Fc rr) 0 c.E.P .any full.toArray Q (k + (l2.length + 1)) L a w := by
  intro k
  induction k with
  | zero =>
    intro L Lf s ν a w hsz hfr hno h hu
    have hall : ∀ i, i < c.ops.length → ls Lf i := fun i hi => by
      refine Classical.byContradiction fun hn => ?_
      have := unl_set (of_ls (by rw [h.size]; exact hi) hn)
      omega
    have hs : s = c.eix.length := by
      rcases Nat.lt_or_ge s c.eix.length with hlt | hge
      · have he := List.getElem?_eq_getElem hlt
        obtain ⟨o, ho, _⟩ := (G.geo.eix c.eix[s]).1 ⟨s, he⟩
        have := (h.stage s _ he).1 (hall _ (List.getElem?_eq_some_iff.1 ho).1)
        omega
      · have := h.le; omega
    subst hs
    rw [Nat.zero_add]
    exact hQ L ν a w hsz (fun i hi => (hfr i hi).2 (hall i hi)) hno ⟨Lf, hall, h⟩
  | succ k ih =>
    intro L Lf s ν a w hsz hfr hno h hu
    rw [show k + 1 + (l2.length + 1) = (k + (l2.length + 1)) + 1 by omega]
    have hlf : ∀ i, ls Lf i → i < c.ops.length := fun i hi => by
      rcases Nat.lt_or_ge i c.ops.length with h' | h'
      · exact h'
      · unfold ls at hi; simp [Array.getElem?_eq_none (show Lf.size ≤ i by rw [h.size]; exact h')] at hi
    refine ⟨fun hr => ?_, fun i hi => ?_⟩
    · exfalso
      have hall : ∀ i, i < c.ops.length → ls Lf i := by
        intro i
        induction i using Nat.strongRecOn with
        | _ i ih2 =>
          intro hi
          refine Classical.byContradiction fun hn => ?_
          have : i ∈ Region.ready .any full.toArray L := by
            refine mem_ready.2 ⟨of_ls (by rw [hsz, F.len]; omega) (fun h => hn ((hfr i hi).1 h)), c.ops[i], by rw [F.lt hi]; simp [hi], fun e he hb => ?_⟩
            have hlt := G.geo.edge i c.ops[i] (by simp [hi]) e (by simpa using he) (by rw [← bindsB_eq]; exact hb)
            exact (hfr e.on (by omega)).2 (ih2 e.on hlt (by omega))
          rw [hr] at this; cases this
      have : unl Lf = 0 := by
        unfold unl
        refine List.count_eq_zero.2 fun hm => ?_
        obtain ⟨i, hi⟩ := List.mem_iff_getElem?.1 hm
        have hlt := (List.getElem?_eq_some_iff.1 hi).1
        have hz : i < Lf.size := by simpa using hlt
        have := hall i (by rw [← h.size]; exact hz)
        unfold ls at this
        have e2 : Lf[i] = false := by
          have := (List.getElem?_eq_some_iff.1 hi).2
          simpa using this
        simp [hz, e2] at this
      omega
    · rcases Nat.lt_or_ge i c.ops.length with hlt | hge
      · obtain ⟨h1, o, h2, h3⟩ := mem_ready.1 hi
        rw [F.lt hlt] at h2
        have hn : ¬ ls Lf i := fun hh => ls_of h1 ((hfr i hlt).2 hh)
        have hd := draw_one (rr := rr) (Q := Q) G h h2 hn (fun e he hb => by
          have := h3 e (by simpa using he) (by rw [bindsB_eq]; exact hb)
          exact (hfr e.on (by have := G.geo.edge i o h2 e he hb; omega)).1 this) (K := wpAnyIn (Fc rr) 0 c.E.P .any full.toArray Q (k + (l2.length + 1)) (L.setIfInBounds i true)) fun s' ν' a' w' h' => by
            refine ih _ _ s' ν' a' w' (by simpa using hsz) (fun j hj => ?_) (fun j hj => ?_) h' ?_
            · rw [ls_set (by rw [hsz, F.len]; omega), ls_set (by rw [h.size]; omega), hfr j hj]
            · rw [ls_set (by rw [hsz, F.len]; omega)]
              rintro (e | e)
              · omega
              · exact hno j hj e
            · have := unl_set (of_ls (by rw [h.size]; exact hlt) hn)
              omega
        unfold wpOpIn at hd ⊢
        rw [F.lt hlt]
        have e1 : c.ops.toArray[i]? = c.ops[i]? := by simp
        rw [e1] at hd
        rw [h2] at hd ⊢
        have hg := F.g o (List.mem_of_getElem? h2)
        simp only [Region.wanted, hg] at hd ⊢
        exact hd
      · exfalso
        obtain ⟨_, hall⟩ := F.ready G.geo hanc hfr hno h.closed hlf hi hge
        have : ¬ ∀ j, j < c.ops.length → ls Lf j := fun hall => by
          have : unl Lf = 0 := by
            unfold unl
            refine List.count_eq_zero.2 fun hm => ?_
            obtain ⟨i, hi⟩ := List.mem_iff_getElem?.1 hm
            have hlt := (List.getElem?_eq_some_iff.1 hi).1
            have hz : i < Lf.size := by simpa using hlt
            have := hall i (by rw [← h.size]; exact hz)
            unfold ls at this
            have e2 : Lf[i] = false := by
              have := (List.getElem?_eq_some_iff.1 hi).2
              simpa using this
            simp [hz, e2] at this
          omega
        exact this hall
end
/-- a region that draws its order: its first operations, of which the next one needs all -/
theorem draw_front {E : Env} {D : List Deferred} {rr : Option Nat} (hE : EnvOk E) (hm : E.P.follows .mixedOrders = true) {ops full l2 : List Oper} {oy : Oper} {id n : Nat} {fm : Fm} {T : Tab} {ds : List (Option Bool)} {Q : Exit → Act → World → Prop} {ν : Nu} {a : Act} {w : World}
    (hfull : full = ops ++ oy :: l2) (hg : ops.all (fun o => o.guard.isNone) = true) (hb : ((List.range ops.length).all fun j => bit (maskOf (ancsGo ops []) oy.after.toList) j) = true)
    (he : (oy.after.toList.all fun e => !bindsB e || Nat.blt e.on ops.length) = true) (ha : (l2.all fun o => o.after.toList.any fun e => bindsB e && Nat.ble ops.length e.on) = true)
    (hs : SRel E D ν fm T n a w) (hc : allP (drawRun E ops n fm T ds).cs)
    (hQ : ∀ L ν' a' w', L.size = full.length → (∀ i, i < ops.length → ls L i) → (∀ i, ops.length ≤ i → ¬ ls L i) → SRel E D ν' (drawRun E ops n fm T ds).fm (drawRun E ops n fm T ds).tab n a' w' → NuLe ν ν' → Fr (Own ν T) w (Own ν' (drawRun E ops n fm T ds).tab) w' → wpAnyIn (Fc rr) 0 E.P .any full.toArray Q (l2.length + 1) L a' w') :
    (Code.region id full.toArray true).wpIn (Fc rr) 0 E.P Q a w := by
  unfold drawRun at hc hQ
  generalize decsOf E ops ds = dd at hc hQ
  obtain ⟨decs, ds'⟩ := dd
  simp only at hc hQ
  generalize hcd : cfgOf E ops n fm T decs = c at hc hQ
  have c1 : c.E = E := by rw [← hcd]; rfl
  have c2 : c.ops = ops := by rw [← hcd]; rfl
  have c3 : c.n = n := by rw [← hcd]; rfl
  have c4 : c.fm = fm := by rw [← hcd]; rfl
  have c5 : c.b = T.length := by rw [← hcd]; rfl
  have c6 : c.anc = ancsGo c.ops [] := by rw [← hcd]; rfl
  have c7 : c.wr = writers c.ops 0 := by rw [← hcd]; rfl
  have c8 : c.eix = eIdx c.ops 0 := by rw [← hcd]; rfl
  clear hcd
  unfold drawGo at hc hQ
  generalize hck : (opsOk n ops 0 && nodupW c.wr && chain c c.eix && lensOk (T.length + cntA E ops) c.tbs && Nat.beq c.tbs.length (c.eix.length + 1)) = ck at hc hQ
  cases ck with
  | false => simp [failO, allP, Con.h] at hc
  | true =>
    simp only [Bool.and_eq_true] at hck
    obtain ⟨⟨⟨⟨k1, k2⟩, k3⟩, k4⟩, k5⟩ := hck
    have k5 := Nat.eq_of_beq_eq_true k5
    generalize hchk : chk c ops 0 [] = q at hc hQ
    obtain ⟨cs, vals⟩ := q
    simp only at hc hQ
    have hcs : allP cs := hc.2
    have hT0 : takeT T.length (c.tb 0) = T := hc.1
    have geo : Geo c := Geo.of c6 c7 c8 (by rw [c3, c2]; exact k1) k2 k3
    have G : Good c vals := by
      refine ⟨geo, by rw [c1]; exact hE, fun i o ho => ?_, fun s hs' => ?_⟩
      · rw [c2] at ho
        obtain ⟨vi, v, h1, h2, h3⟩ := chk_good c ops 0 [] (by rw [hchk]; exact hcs) i o ho
        rw [hchk] at h1 h2
        simp only [Nat.zero_add] at h1 h2 h3
        refine ⟨v, h2, fun s hle hcan => ?_⟩
        have := h3 s (stagesGo_mem (by omega) (by omega) hcan)
        rwa [evalAt_congr c o s (fun j hb => h1 j (geo.lt i j hb))] at this
      · rw [c1, c2, c5]
        exact nthT_len k4 s (by omega)
    have F : Front full c oy l2 := by
      refine ⟨by rw [c2]; exact hfull, fun o ho => ?_, fun j hj => ?_, fun e he' hb' => ?_, fun o ho => ?_⟩
      · rw [c2] at ho
        have := List.all_eq_true.1 hg o ho
        simpa using this
      · rw [c6, c2]
        rw [c2] at hj
        exact List.all_eq_true.1 hb j (List.mem_range.2 hj)
      · have := List.all_eq_true.1 he e he'
        rw [c2]
        simpa [hb'] using this
      · have := List.all_eq_true.1 ha o ho
        obtain ⟨e, e1, e2⟩ := List.any_eq_true.1 this
        simp only [Bool.and_eq_true] at e2
        exact ⟨e, e1, e2.1, by rw [c2]; exact Nat.le_of_ble_eq_true e2.2⟩
    rw [← c1] at hm ⊢
    refine wpIn_region_any hm ?_
    have hsz : full.toArray.size = c.ops.length + (l2.length + 1) := by rw [← F.len]; simp
    have nolist : ∀ N j, ¬ ls (Array.replicate N false) j := by
      intro N j h
      unfold ls at h
      rcases Nat.lt_or_ge j N with h' | h' <;> simp [h'] at h
    have hr0 : HR c.E.gl ν T w.drew := by rw [c1]; exact hs.hr.drew
    have hgt := hr0.ghost (T' := c.tb 0) (fun p hp => by
        obtain ⟨l, hl⟩ := Option.isSome_iff_exists.1 hp
        have := hr0.lt p l hl
        rw [← takeT_get T.length (c.tb 0) p this, hT0]) (fun p hp => by
        obtain ⟨l, hl⟩ := Option.isSome_iff_exists.1 hp
        have h1 := hr0.lt p l hl
        have h2 := G.lens 0 (by omega)
        rw [c5] at h2; omega)
    have init : DInv c vals ν T w D (Array.replicate c.ops.length false) 0 ν a w.drew := by
      refine ⟨by simp, hgt.1, fun j o t v _ _ hl => absurd hl (nolist _ j), fun t v _ hv => hs.fm t v (by rw [← c4]; exact hv), fun i o ho hA _ => ?_, fun q i _ => ⟨fun h => absurd h (nolist _ i), fun h => by omega⟩, by omega, by rw [c3]; exact hs.size, hs.defers, fun i o ho hl => absurd hl (nolist _ i), NuLe.refl ν, ?_⟩
      · have := nidAt_ge c.E c.ops i c.b
        cases hn : ν (nidAt c.E c.ops i c.b) with
        | none => rfl
        | some l => have := hs.hr.lt _ l hn; omega
      · have := Fr.drew (Own ν T) w
        exact ⟨this.os, this.tape, this.output, this.size, this.block, fun b hb => .inl (hgt.2 b hb)⟩
    rw [hsz]
    refine wpAny_front G c6 F (ν0 := ν) (T0 := T) (w0 := w) (fun L ν' a' w' hsz' hall hno ⟨Lf, hallf, h⟩ => ?_) c.ops.length _ (Array.replicate c.ops.length false) 0 ν a _ (by simp [hsz, F.len]) (fun i hi => ⟨fun h => absurd h (nolist _ i), fun h => absurd h (nolist _ i)⟩) (fun i hi => nolist _ i) init (by simp [unl])
    rw [c1]
    refine hQ L ν' a' w' hsz' (by rw [← c2]; exact hall) (by rw [← c2]; exact hno) ⟨by rw [← c1]; exact h.hr, fun t v hv => ?_, by rw [← c3]; exact h.room, h.defers⟩ h.mono h.fr
    have hsome : ∀ (j : Nat) (o : Oper), ops[j]? = some o → (look vals (0 + j)).isSome := fun j o ho => by
      obtain ⟨v, hv, _⟩ := G.some j o (by rw [c2]; exact ho)
      rw [Nat.zero_add, hv]; rfl
    rcases putAll_look hsome hv with ⟨j, o, e1, e2, e3⟩ | ⟨e1, e2⟩
    · rw [Nat.zero_add] at e3
      exact h.wrote j o t v (by rw [c2]; exact e1) e2 (hallf j (by rw [c2]; exact (List.getElem?_eq_some_iff.1 e1).1)) e3
    · refine h.old t v (fun j o hj hd hl => ?_) (by rw [c4]; exact e2)
      rw [c2] at hj
      exact e1 j o hj hd
end Go.Abs

set_option linter.unusedVariables false
set_option linter.unusedSimpArgs false
namespace Go.Abs
section
variable {E : Env} {n k : Nat} {A : Amb} {fm : Fm} {T : Tab} {σ : List St} {post : AExit → Fm → Tab → List St → Prop}
/-- a call of yield -/
theorem YWp.yieldOp (hE : EnvOk E) {rr : Option Nat} {D : List Deferred} {ν1 : Nu} {a1 : Act} {w1 : World} {fm1 : Fm} {T1 : Tab} (s1 : SRel E D ν1 fm1 T1 n a1 w1) (A1 : RecsOk ν1 A σ w1)
    {oy : Oper} {f x : Operand} {t : Nat} {c : Call} (hop : oy.op = .call c) (hcal : c.callee = .value f) (hargs : c.args = #[x]) (hdst : oy.dst = some t) (htn : t < n)
    {i l : Nat} {H : Host} (hf : evOf fm1 f = some (.func (.yield l) [] [])) {v : AVal} (hx : evOf fm1 x = some v) (hi : A[i]? = some (l, H)) (hσ : σ[i]? = some (.ready, none)) {p : Nat} (hps : H.ps = #[p]) (hpn : p < H.n)
    {kk : Nat} (hfm : fmIn kk fm1) {R : AExit → Tab → List St → Prop}
    (host : YWp E H.n kk A H.assign ((p, v) :: H.fm) T1 σ fun ex fB TB σB => ex = .normal ∧ σB[i]? = some (.ready, none) ∧
      YWp E H.n kk A H.body fB TB (σB.set i (.busy, none)) fun ex f' T' σ' => i < σ'.length ∧ R ex T' σ')
    {K : Act → World → Prop} {Q : Exit → Act → World → Prop}
    (hK : ∀ ex T' σ' ν4 w5, R ex T' σ' → SRel E D ν4 ((t, .bool (endOf ex).1) :: fm1) T' n (a1.put oy.dst (.bool (endOf ex).1)) w5 → RecsOk ν4 A (σ'.set i (endOf ex).2) w5 → NuLeB kk ν1 ν4 → Fr (OwnA A ν1 T1) w1 (OwnA A ν4 T') w5 → K (a1.put oy.dst (.bool (endOf ex).1)) w5) :
    oy.wpIn (Fc rr) 0 E.P a1 w1 K Q := by
  unfold Oper.wpIn
  refine ⟨fun _ _ => trivial, ?_⟩
  have hsem : oy.semAt (Fc rr).round a1.eval = execOp a1.eval oy := by
    cases rr with
    | none => exact Oper.semAt_none _ _
    | some l => exact Oper.semAt_some l _ _ (fun c h => by rw [hop] at h; cases h)
  obtain ⟨rc, r1, r2, r3, r4, r5, r6, r7, r8, r9⟩ := A1.put hi hσ
  have hfe := evOf_rel s1 f _ hf
  have hxe := evOf_rel s1 x _ hx
  have hfv : a1.eval f = .func (.yield l) #[] #[] := by
    generalize a1.eval f = y at hfe
    cases hfe with
    | func fn h1 h2 h3 h4 =>
      rename_i xs ys
      have e1 : xs = #[] := by apply Array.eq_empty_of_size_eq_zero; simpa using h1.symm
      have e2 : ys = #[] := by apply Array.eq_empty_of_size_eq_zero; simpa using h3.symm
      rw [e1, e2]
  have hrun : (oy.semAt (Fc rr).round a1.eval).run E.P w1 = .ok (.round l rc.fn (rc.tmps.setIfInBounds p (a1.eval x)) rc.assign rc.body) w1 := by
    rw [hsem]
    have hy := run_yield (P := E.P) (args := #[a1.eval x]) r1 (by rw [r4, hps]; rfl)
    simp only [r4, hps] at hy
    simp [execOp, hop, resolve, hcal, hargs, hfv, Deferred.ofValue, invoke]
    simpa using hy
  rw [hrun]
  refine ⟨fun h => (Fc.depth h).elim, ?_⟩
  refine roundIn_of_wpIn Fc.fn ?_
  have hfence : (Fc rr).inRound l = Fc (some l) := rfl
  rw [hfence]
  have sR : SRel E [] ν1 ((p, v) :: H.fm) T1 H.n { tmps := rc.tmps.setIfInBounds p (a1.eval x), defers := [] } w1 := by
    refine ⟨s1.hr, fun t' u hu => ?_, by simpa using r7, rfl⟩
    by_cases e : p = t'
    · subst e
      simp only [look, Nat.beq_refl] at hu
      injection hu with hu; subst hu
      have : p < rc.tmps.size := by omega
      simpa [Array.getD, this] using hxe
    · rw [look_cons_ne e] at hu
      have := r8 t' u hu
      simpa [Array.getElem?_setIfInBounds_ne e] using this
  have rdl : ∀ w2 : World, (∃ r, w2.heap[l]? = some (.loop r)) → RdOk (some l) w2 := fun w2 h l' hl' => by injection hl' with hl'; subst hl'; exact h
  rw [r5, r6]
  refine wpIn_mono (host (some l) [] ν1 _ w1 sR (rdl w1 ⟨rc, r1⟩) A1) fun e2 a2 w2 ⟨ex, fB, TB, σB, ν2, h1, ⟨hn1, hn2, hbody⟩, ⟨ms2, s2, mk2⟩, A2, m2, f2⟩ => ?_
  subst hn1 h1
  obtain ⟨rc2, q1, q2, q3, q4, q5, q6, q7, q8, q9⟩ := A2.put hi hn2
  refine ⟨_, run_beginRound q1 q2, ?_⟩
  have hmem : ∃ x ∈ A, x.1 = l := ⟨(l, H), List.mem_of_getElem? hi, rfl⟩
  have A3 : RecsOk ν2 A (σB.set i (.busy, none)) (w2.putObj l (.loop { rc2 with state := .busy })) := by
    have := q9 .busy none
    rwa [show ({ rc2 with state := .busy, pending := none } : Loop) = { rc2 with state := .busy } by rw [show (none : Option Code) = rc2.pending from q3.symm]] at this
  have s3 : SRel E (ms2 ++ []) ν2 fB TB H.n a2 (w2.putObj l (.loop { rc2 with state := .busy })) := ⟨s2.hr.putLoop q1, s2.fm, s2.size, s2.defers⟩
  have f3 : Fr (OwnA A ν2 TB) w2 (OwnA A ν2 TB) (w2.putObj l (.loop { rc2 with state := .busy })) := Fr.putLoop hmem
  refine wpIn_mono (hbody (some l) _ ν2 a2 _ s3 (rdl _ ⟨_, putObj_self q1⟩) A3) fun e4 a4 w4 ⟨ex, f', T', σ', ν4, h1, ⟨hlen, hR⟩, ⟨ms4, s4, mk4⟩, A4, m4, f4⟩ => ?_
  subst h1
  obtain ⟨st4, hst4⟩ : ∃ st, σ'[i]? = some st := ⟨σ'[i], List.getElem?_eq_getElem hlen⟩
  obtain ⟨rc4, z1, z2, z3, z4, z5, z6, z7, z8, z9⟩ := A4.put hi hst4
  have after : ∀ (b : Bool) (st : St), (b, st) = endOf ex → K (a1.put oy.dst (.bool b)) (w4.putObj l (.loop { rc4 with state := st.1, pending := st.2 })) := by
    intro b st he
    have A5 := z9 st.1 st.2
    have f5 : Fr (OwnA A ν4 T') w4 (OwnA A ν4 T') (w4.putObj l (.loop { rc4 with state := st.1, pending := st.2 })) := Fr.putLoop hmem
    have fall := f2.trans (f3.trans (f4.trans f5))
    have mm : NuLeB kk ν1 ν4 := m2.trans m4
    have s5 : SRel E D ν4 ((t, .bool b) :: fm1) T' n (a1.put oy.dst (.bool b)) (w4.putObj l (.loop { rc4 with state := st.1, pending := st.2 })) := by
      have h0 : SRel E D ν4 fm1 T' n a1 (w4.putObj l (.loop { rc4 with state := st.1, pending := st.2 })) := ⟨s4.hr.putLoop z1, fun t' u hu => (s1.fm t' u hu).monoB mm (hfm t' u hu), s1.size, s1.defers⟩
      have := h0.put (d := oy.dst) (v := .bool b) (x := .bool b) (NuLe.refl ν4) h0.hr (by rw [hdst]; simpa [dstOk] using htn) (.bool b)
      rw [hdst] at this ⊢
      exact this
    have := hK ex T' σ' ν4 (w4.putObj l (.loop { rc4 with state := st.1, pending := st.2 })) hR
    rw [← he] at this
    exact this s5 A5 mm fall
  cases ex with
  | normal => exact ⟨_, _, run_endRound none z1, after true _ rfl⟩
  | ret => exact ⟨_, _, run_endRound (some .ret) z1, after false _ rfl⟩
  | exit id => exact ⟨_, _, run_endRound (some (.exit id)) z1, after false _ rfl⟩
  | goto l' => exact ⟨_, _, run_endRound (some (.goto l')) z1, after false _ rfl⟩
theorem any_last {F : Fence} {N : Nat} {P : Program} {full : List Oper} {m : Nat} {o2 : Oper} (h2 : full[m]? = some o2) (hlen : full.length = m + 1) (hg : o2.guard = none) (he : (o2.after.toList.all fun e => !bindsB e || Nat.blt e.on m) = true) {L : Array Bool} (hsz : L.size = full.length)
    (hall : ∀ i, i < m → ls L i) (hno : ¬ ls L m) {Q : Exit → Act → World → Prop} {a : Act} {w : World} (h : wpListIn F N P full.toArray Q [o2] a w) : wpAnyIn F N P .any full.toArray Q 1 L a w := by
  refine ⟨fun hr => ?_, fun i hi => ?_⟩
  · exfalso
    have : m ∈ Region.ready .any full.toArray L := mem_ready.2 ⟨of_ls (by omega) hno, o2, by simpa using h2, fun e he' hb => by
      have := List.all_eq_true.1 he e (by simpa using he')
      rw [bindsB_eq] at hb
      simp [hb] at this
      exact hall e.on this⟩
    rw [hr] at this; cases this
  · obtain ⟨h1, o, e1, _⟩ := mem_ready.1 hi
    have e1' : full[i]? = some o := by simpa using e1
    have hlt := (List.getElem?_eq_some_iff.1 e1').1
    obtain rfl : i = m := by
      refine Classical.byContradiction fun hne => ?_
      exact ls_of h1 (hall i (by omega))
    rw [h2] at e1'
    injection e1' with e1'; subst e1'
    unfold wpOpIn
    rw [e1]
    have hw : Region.wanted o2 (yielded full.toArray a.tmps) = true := by simp [Region.wanted, hg]
    simp only [hw, if_true]
    unfold wpListIn at h
    rw [if_pos (by simp [Region.wanted, hg])] at h
    refine Oper.wpIn_mono (fun a w hh => ?_) h
    have hh' : Q .normal a w := by unfold wpListIn at hh; exact hh
    refine ⟨?_, hh'⟩
    cases hr : Region.ready .any full.toArray (L.setIfInBounds i true) with
    | nil => rfl
    | cons j r =>
      exfalso
      obtain ⟨g1, o, g2, _⟩ := mem_ready.1 (show j ∈ Region.ready .any full.toArray (L.setIfInBounds i true) by rw [hr]; exact .head _)
      have g2' : full[j]? = some o := by simpa using g2
      have hlt := (List.getElem?_eq_some_iff.1 g2').1
      refine ls_of g1 ((ls_set (by omega)).2 ?_)
      by_cases e : j = i
      · exact .inl e
      · exact .inr (hall j (by omega))
/-- a region that draws its order and calls yield, once, last but one -/
theorem YWp.yieldDrawn (hE : EnvOk E) (hm : E.P.follows .mixedOrders = true) {id : Nat} {opsA : Array Oper} {l1 : List Oper} {oy o2 : Oper} (hsp : opsA.toList = l1 ++ [oy, o2]) {ds1 : List (Option Bool)} {o1 : Out}
    (hgs : l1.all (fun o => o.guard.isNone) = true) (hb : ((List.range l1.length).all fun j => bit (maskOf (ancsGo l1 []) oy.after.toList) j) = true)
    (he : (oy.after.toList.all fun e => !bindsB e || Nat.blt e.on l1.length) = true) (ha : ([o2].all fun o => o.after.toList.any fun e => bindsB e && Nat.ble l1.length e.on) = true) (he2 : (o2.after.toList.all fun e => !bindsB e || Nat.blt e.on (l1.length + 1)) = true)
    (ho1 : drawRun E l1 n fm T ds1 = o1) (hc1 : Ok o1)
    {f x : Operand} {t : Nat} {c : Call} (hop : oy.op = .call c) (hcal : c.callee = .value f) (hargs : c.args = #[x]) (hg : oy.guard = none) (hg2 : o2.guard = none) (hdst : oy.dst = some t) (htn : t < n)
    {i l : Nat} {H : Host} (hf : evOf o1.fm f = some (.func (.yield l) [] [])) {v : AVal} (hx : evOf o1.fm x = some v) (hi : A[i]? = some (l, H)) (hσ : σ[i]? = some (.ready, none)) {p : Nat} (hps : H.ps = #[p]) (hpn : p < H.n)
    {kk : Nat} (hkk : k ≤ kk) (hfm : fmIn kk o1.fm) (hamb : ambIn k A)
    (host : YWp E H.n kk A H.assign ((p, v) :: H.fm) o1.tab σ fun ex fB TB σB => ex = .normal ∧ σB[i]? = some (.ready, none) ∧
      YWp E H.n kk A H.body fB TB (σB.set i (.busy, none)) fun ex f' T' σ' => i < σ'.length ∧ ∃ ds2 o2', runOps E opsA.toList n [o2] ((t, .bool (endOf ex).1) :: o1.fm) (T' ++ holes (cntA E [o2])) T'.length ds2 = o2' ∧ Ok o2' ∧ post .normal o2'.fm o2'.tab (σ'.set i (endOf ex).2)) :
    YWp E n k A (.region id opsA true) fm T σ post := by
  intro rr D ν a w hs hrd hA
  rw [← show opsA.toList.toArray = opsA by simp]
  generalize opsA.toList = full at *
  refine draw_front hE hm (ops := l1) (l2 := [o2]) hsp hgs hb he ha hs (by rw [ho1]; exact hc1.h) fun L ν1 a1 w1 hsz hall hno s1 n1 f1 => ?_
  rw [ho1] at s1 f1
  have A1 : RecsOk ν1 A σ w1 := hA.keep (n1.b k) hamb fun x hx => by
    obtain ⟨rc, hrc⟩ := hA.loop x hx
    exact f1.block _ (size_of hrc) (hs.hr.notOwn hrc (fun _ _ _ h => by cases h))
  have hlen : full.length = l1.length + 1 + 1 := by rw [hsp]; simp
  have hat : full[l1.length]? = some oy := by rw [hsp]; simp
  have hat2 : full[l1.length + 1]? = some o2 := by rw [hsp]; simp
  have ready : ∀ i, i ∈ Region.ready .any full.toArray L → i = l1.length := fun i hi => by
    obtain ⟨h1, o, e1, e2⟩ := mem_ready.1 hi
    have e1' : full[i]? = some o := by simpa using e1
    have hlt := (List.getElem?_eq_some_iff.1 e1').1
    refine Classical.byContradiction fun hne => ?_
    rcases Nat.lt_or_ge i l1.length with h' | h'
    · exact ls_of h1 (hall i h')
    · obtain rfl : i = l1.length + 1 := by omega
      rw [hat2] at e1'
      injection e1' with e1'; subst e1'
      simp only [List.all_cons, List.all_nil, Bool.and_true] at ha
      obtain ⟨e, g1, g2⟩ := List.any_eq_true.1 ha
      simp only [Bool.and_eq_true] at g2
      exact hno e.on (Nat.le_of_ble_eq_true g2.2) (e2 e (by simpa using g1) (by rw [bindsB_eq]; exact g2.1))
  refine ⟨fun hr => ?_, fun j hj => ?_⟩
  · exfalso
    have : l1.length ∈ Region.ready .any full.toArray L := mem_ready.2 ⟨of_ls (by omega) (hno _ (Nat.le_refl _)), oy, by simpa using hat, fun e he' hb' => by
      have := List.all_eq_true.1 he e (by simpa using he')
      rw [bindsB_eq] at hb'
      simp [hb'] at this
      exact hall e.on this⟩
    rw [hr] at this; cases this
  · obtain rfl := ready j hj
    unfold wpOpIn
    rw [show full.toArray[l1.length]? = some oy by simpa using hat]
    have hw : Region.wanted oy (yielded full.toArray a1.tmps) = true := by simp [Region.wanted, hg]
    simp only [hw, if_true]
    refine YWp.yieldOp hE s1 A1 hop hcal hargs hdst htn hf hx hi hσ hps hpn hfm host fun ex T' σ' ν4 w5 hR s5 A5 mm fall => ?_
    obtain ⟨ds2, o2', ho2, hc2, hpost⟩ := hR
    refine any_last hat2 hlen hg2 he2 (by simpa using hsz) (fun i hi => ?_) ?_ ?_
    · refine (ls_set (by omega)).2 ?_
      by_cases e : i = l1.length
      · exact .inl e
      · exact .inr (hall i (by omega))
    · intro h
      rcases (ls_set (by omega)).1 h with h | h
      · omega
      · exact hno _ (by omega) h
    · obtain ⟨y1, y2, y3⟩ := Holes_holes s5.hr (cntA E [o2])
      refine runOps_sound hE [o2] ⟨y1, s5.fm, s5.size, s5.defers⟩ y3 (by rw [ho2]; exact hc2.h) fun ν6 a6 w6 s6 n6 f6 => ?_
      rw [ho2] at s6 f6
      have f6' : Fr (Own ν4 T') w5 (Own ν6 o2'.tab) w6 := ⟨f6.os, f6.tape, f6.output, f6.size, fun b hb ho => f6.block b hb (fun h => ho (y2 b h)), fun b hb => (f6.own b hb).imp (y2 b) (fun h => h)⟩
      have A6 : RecsOk ν6 A (σ'.set i (endOf ex).2) w6 := A5.keep (n6.b k) hamb fun x hx => by
        obtain ⟨rc, hrc⟩ := A5.loop x hx
        exact f6'.block _ (size_of hrc) (s5.hr.notOwn hrc (fun _ _ _ h => by cases h))
      refine ⟨.normal, o2'.fm, o2'.tab, σ'.set i (endOf ex).2, ν6, rfl, hpost, s6.m, A6, ?_, f1.amb.trans (fall.trans f6'.amb)⟩
      exact (n1.b k).trans ((show NuLeB k ν1 ν4 from fun p hp => mm p (by omega)).trans (n6.b k))
end
end Go.Abs

set_option linter.unusedVariables false
set_option linter.unusedSimpArgs false
namespace Go.Abs
section
variable {E : Env} {n k : Nat} {fm : Fm} {T : Tab} {post : AExit → Fm → Tab → Prop}
theorem run_eqNil {P : Program} {w : World} {t e : TypeId} (hd : P.underlying t = some (.slice e)) (ao : Option Addr) (len c : Nat) (h0 : ao = none → len = 0 ∧ c = 0) (x y : Operand) :
    ∃ b : Bool, (eqGuard .eql t x y (.slice ao len c) (.slice none 0 0)).run P w = .ok () w ∧ (binOp .eql t (.slice ao len c) (.slice none 0 0)).run P w = .ok (.bool b) w := by
  cases ao with
  | none =>
    obtain ⟨rfl, rfl⟩ := h0 rfl
    have he : ∀ d, (Op.equalIn (d + 1) t (.slice none 0 0) (.slice none 0 0)).run P w = .ok true w := fun d => by simp [Op.equalIn, run_underlying hd]
    exact ⟨true, by rw [eqGuard_at_slice]; rfl, by simp only [binOp]; simp [Op.equal, Op.maxDepth, he 9999]⟩
  | some b =>
    have he : ∀ d, (Op.equalIn (d + 1) t (.slice (some b) len c) (.slice none 0 0)).run P w = .ok false w := fun d => by simp [Op.equalIn, run_underlying hd]
    exact ⟨false, by rw [eqGuard_at_slice]; rfl, by simp only [binOp]; simp [Op.equal, Op.maxDepth, he 9999]⟩
/-- a region whose last operation holds a slice against nil, of which it is not known whether it is nothing -/
theorem AWp.eqNil (hE : EnvOk E) {id : Nat} {opsA : Array Oper} {l1 : List Oper} {oy : Oper} (hsp : opsA.toList = l1 ++ [oy]) {ds1 : List (Option Bool)} {o1 : Out}
    (ho1 : runOps E opsA.toList n l1 fm (T ++ holes (cntA E l1)) T.length ds1 = o1) (hc1 : Ok o1)
    {x y : Operand} {t : Nat} {ty e yt : TypeId} (hop : oy.op = .binOp .eql ty x y yt) (hg : oy.guard = none) (hdst : oy.dst = some t) (htn : t < n) (hd : E.P.underlying ty = some (.slice e))
    {sz p g off len : Nat} {cap : Option Nat} {o : AObj} (hx : evOf o1.fm x = some (.slice sz p g off len cap)) (hy : evOf o1.fm y = some .nilSlice) (ho : nth o1.tab p = some o) (hgo : g = o.g)
    (rest : ∀ b : Bool, post .normal ((t, .bool b) :: o1.fm) o1.tab) : AWp E n k (.region id opsA false) fm T post := by
  intro rr D ν a w hs hrd
  refine wpIn_region_list ?_
  rw [hsp]
  refine wpListIn_app l1 a w ?_
  obtain ⟨g1, g2, g3⟩ := Holes_holes hs.hr (cntA E l1)
  rw [← show opsA.toList.toArray = opsA by simp]
  refine runOps_sound hE l1 ⟨g1, hs.fm, hs.size, hs.defers⟩ g3 (by rw [ho1]; exact hc1.h) fun ν1 a1 w1 s1 n1 f1 => ?_
  rw [ho1] at s1 f1
  have f1' : Fr (Own ν T) w (Own ν1 o1.tab) w1 := ⟨f1.os, f1.tape, f1.output, f1.size, fun b hb ho => f1.block b hb (fun h => ho (g2 b h)), fun b hb => (f1.own b hb).imp (g2 b) (fun h => h)⟩
  show wpListIn _ _ _ _ _ [oy] a1 w1
  unfold wpListIn
  rw [if_pos (by simp [Region.wanted, hg])]
  refine ⟨fun _ _ => trivial, ?_⟩
  have hsem : oy.semAt (Fc rr).round a1.eval = execOp a1.eval oy := by
    cases rr with
    | none => exact Oper.semAt_none _ _
    | some l => exact Oper.semAt_some l _ _ (fun c h => by rw [hop] at h; cases h)
  have hxe := evOf_rel s1 x _ hx
  have hye := evOf_rel s1 y _ hy
  have hyv : a1.eval y = .slice none 0 0 := hye.nilSlice_inv
  obtain ⟨ao, len', c', hxv, h0⟩ : ∃ ao len' c', a1.eval x = .slice ao len' c' ∧ (ao = none → len' = 0 ∧ c' = 0) := by
    rcases hxe.slice_inv s1.hr ho hgo with ⟨l, b, c, hl, hv, hsl⟩ | ⟨bo, l, rfl, hv, hl, hz'⟩
    · exact ⟨some b, _, c, hv, fun h => by cases h⟩
    · exact ⟨bo, 0, 0, hv, fun _ => ⟨rfl, rfl⟩⟩
  obtain ⟨b, e1, e2⟩ := run_eqNil (P := E.P) (w := w1) hd ao len' c' h0 x y
  have hrun : (oy.semAt (Fc rr).round a1.eval).run E.P w1 = .ok (.value (.bool b)) w1 := by
    rw [hsem]
    simp only [execOp, hop, hxv, hyv, Sem.run_bind, e1, e2, Result.andThen_ok, Sem.run_pure]
  rw [hrun]
  show wpListIn (Fc rr) 0 E.P opsA.toList.toArray (Post E n k post D ν T w) [] _ _
  unfold wpListIn
  have s2 : SRel E D ν1 ((t, .bool b) :: o1.fm) o1.tab n (a1.put oy.dst (.bool b)) w1 := by
    have := s1.put (d := oy.dst) (NuLe.refl ν1) s1.hr (by rw [hdst]; simpa [dstOk] using htn) (.bool b)
    rw [hdst] at this ⊢
    exact this
  exact ⟨.normal, _, _, ν1, rfl, rest b, s2.m, n1.b k, f1'⟩
end
end Go.Abs

set_option linter.unusedVariables false
set_option linter.unusedSimpArgs false
namespace Go.Abs
/-- an object that is read, told once more -/
theorem HR.pushObj {gl : Nat → Option AVal} {ν : Nu} {T : Tab} {w : World} (hr : HR gl ν T w) {o : AObj} {l : Loc} (hw : o.own = false) (hg : o.g = l.g) (ho : ObjRel ν o l w) (hb : 0 < l.room → l.a.block < w.heap.size)
    (hs : ∀ p o1 l1, T[p]? = some (some o1) → o1.own = true → ν p = some l1 → 0 < l1.room → 0 < l.room → l1.a.block ≠ l.a.block) :
    HR gl (upd ν T.length l) (T ++ [some o]) w ∧ NuLe ν (upd ν T.length l) ∧ (∀ b, Own (upd ν T.length l) (T ++ [some o]) b → Own ν T b) := by
  have hn : ν T.length = none := by
    cases hν : ν T.length with
    | none => rfl
    | some l => have := hr.lt _ l hν; omega
  have hm : NuLe ν (upd ν T.length l) := NuLe.upd_new (ν := ν) l hn
  have same : ∀ p, p ≠ T.length → upd ν T.length l p = ν p := fun p hp => upd_other ν l hp
  have self : upd ν T.length l T.length = some l := upd_same ν _ l
  have getT : ∀ p x, (T ++ [some o])[p]? = some x → (p < T.length ∧ T[p]? = some x) ∨ (p = T.length ∧ x = some o) := by
    intro p x hx
    rcases Nat.lt_or_ge p T.length with hp | hp
    · rw [List.getElem?_append_left hp] at hx; exact .inl ⟨hp, hx⟩
    · rw [List.getElem?_append_right hp] at hx
      have hlt := (List.getElem?_eq_some_iff.1 hx).1
      have hp0 : p = T.length := by simp at hlt; omega
      subst hp0
      simp at hx
      exact .inr ⟨rfl, hx.symm⟩
  have hown : ∀ b, Own (upd ν T.length l) (T ++ [some o]) b → Own ν T b := by
    rintro b ⟨p, o1, l1, h1, h2, h3, h4, h5⟩
    rcases getT p _ h1 with ⟨hp, h1⟩ | ⟨hp, h1⟩
    · rw [same p (by omega)] at h3; exact ⟨p, o1, l1, h1, h2, h3, h4, h5⟩
    · injection h1 with h1; subst h1; rw [hw] at h2; cases h2
  refine ⟨⟨fun p o1 l1 h1 hl => ?_, fun p l1 hl => ?_, fun p hp => ?_, fun p l1 hl h0 => ?_, fun p q o1 o' l1 l' h1 h1' hwn hne hl hl' h0 h0' => ?_, fun b d hb => ?_⟩, hm, hown⟩
  · rcases getT p _ h1 with ⟨hp, k1⟩ | ⟨hp, k1⟩
    · rw [same p (by omega)] at hl
      obtain ⟨g1, g2⟩ := hr.obj p o1 l1 k1 hl
      exact ⟨g1, g2.kept hm fun _ => rfl⟩
    · subst hp; rw [self] at hl; injection hl with hl; subst hl
      injection k1 with k1; subst k1
      exact ⟨hg, ho.kept hm fun _ => rfl⟩
  · by_cases e : p = T.length
    · subst e; simp
    · rw [same p e] at hl; have := hr.lt p l1 hl; simp; omega
  · rcases getT p _ hp with ⟨hp', h1⟩ | ⟨hp', h1⟩
    · rw [same p (by omega)]; exact hr.hole p h1
    · cases h1
  · by_cases e : p = T.length
    · subst e; rw [self] at hl; injection hl with hl; subst hl; exact hb h0
    · rw [same p e] at hl; exact hr.blk p l1 hl h0
  · rcases getT p _ h1 with ⟨hp, k1⟩ | ⟨hp, k1⟩
    · rw [same p (by omega)] at hl
      rcases getT q _ h1' with ⟨hq, k2⟩ | ⟨hq, k2⟩
      · rw [same q (by omega)] at hl'
        exact hr.sep p q o1 o' l1 l' k1 k2 hwn hne hl hl' h0 h0'
      · subst hq; rw [self] at hl'; injection hl' with hl'; subst hl'
        exact hs p o1 l1 k1 hwn hl h0 h0'
    · injection k1 with k1; subst k1; rw [hw] at hwn; cases hwn
  · obtain ⟨h1, h2⟩ := hr.glob b d hb
    exact ⟨fun h3 => h1 (hown b h3), h2⟩
/-- the room of a slice that is read is told as its object's -/
theorem small_cap {P : Program} {gl : Nat → Option AVal} {f : FuncId} {args args2 : List AVal} {T T2 : Tab} {v : AVal} {T1 : Tab} (i p g n c : Nat) (zs : List Int) (et : TypeId) (hi : args[i]? = some (.slice 1 p g 0 n (some c))) (hp : T[p]? = some (some ⟨.ints .u8 zs, g, false, et⟩)) (hn : n ≤ zs.length)
    (e1 : args2 = args.set i (.slice 1 T.length g 0 n none)) (e2 : T2 = T ++ [some ⟨.ints .u8 (zs.take n), g, false, et⟩]) (h : Small P gl f args2 T2 v T1) : Small P gl f args T v T1 := by
  subst e1 e2
  intro ν w vs hr hvs
  have hlt := (List.getElem?_eq_some_iff.1 hi).1
  have hx := hvs.2 i hlt
  rw [show args.getD i un = .slice 1 p g 0 n (some c) by simp [List.getD, hi]] at hx
  have hlen : (AVal.ints IntKind.u8 (zs.take n)).len = n := by simp [AVal.len]; omega
  obtain ⟨l', q1, q2, q3, q4, q5⟩ : ∃ l' : Loc, g = l'.g ∧ ObjRel ν ⟨.ints .u8 (zs.take n), g, false, et⟩ l' w ∧ (0 < l'.room → l'.a.block < w.heap.size) ∧
      (∀ p1 o1 l1, T[p1]? = some (some o1) → o1.own = true → ν p1 = some l1 → 0 < l1.room → 0 < l'.room → l1.a.block ≠ l'.a.block) ∧ VR (upd ν T.length l') (.slice 1 T.length g 0 n none) (vs.toList.getD i undef) := by
    rcases hx.slice_inv hr (nth_iff.2 hp) rfl with ⟨l, b, cc, hl, hv, h1, h2, h3, h4, h5⟩ | ⟨bo, l, h0, hv, hl, hz⟩
    · have hcc := h2 c rfl
      subst hcc
      obtain ⟨o1, o2, o3⟩ := hr.obj p _ l hp hl
      refine ⟨⟨l.a, l.g, cc⟩, o1, ⟨.ints _ _, ?_⟩, fun hc => hr.blk p l hl (by simp at hc; omega), fun p1 ob l1 t1 t2 t3 t4 t5 => ?_, ?_⟩
      · rcases o3 with ⟨o3, _⟩ | ⟨o3, o4, o5⟩ | ⟨o3, o4⟩
        · cases o3
        · refine .inr (.inl ⟨rfl, by rw [hlen]; exact h1, fun j hj => ?_⟩)
          rw [hlen] at hj
          obtain ⟨x, x1, x2⟩ := o5 j (by simp [AVal.len]; omega)
          refine ⟨x, x1, ?_⟩
          have e : (AVal.ints IntKind.u8 (zs.take n)).get j = (AVal.ints IntKind.u8 zs).get j := by
            simp [AVal.get, List.getElem?_take_of_lt hj]
          rw [e]; exact x2
        · simp [AVal.len] at o3
          refine .inr (.inr ⟨by rw [hlen]; simp [o3] at hn; exact hn, ?_⟩)
          simp at h4 ⊢; omega
      · refine hr.sep p1 p ob _ l1 l t1 hp t2 (fun e => ?_) t3 hl t4 (by simp at t5; omega)
        subst e
        rw [hp] at t1
        injection t1 with t1; injection t1 with t1; subst t1; cases t2
      · rw [hv]
        exact .slice (upd_same _ _ _) o1 ⟨h1, (fun k hk => by cases hk), h3, by simp, fun _ => by simp⟩
    · subst h0
      refine ⟨⟨⟨0, 0, none⟩, g, 0⟩, rfl, ⟨.ints _ _, .inr (.inr ⟨by simp [AVal.len], rfl⟩)⟩, fun hc => absurd hc (by simp), fun _ _ _ _ _ _ _ hc => absurd hc (by simp), ?_⟩
      rw [hv]
      exact .sliceZ bo (upd_same _ _ _) rfl (.inr ⟨rfl, Nat.le_refl _⟩)
  obtain ⟨r1, r2, r3⟩ := hr.pushObj (o := ⟨.ints .u8 (zs.take n), g, false, et⟩) rfl q1 q2 q3 q4
  refine (h _ w vs r1 ⟨by simpa using hvs.1, fun j hj => ?_⟩).mono ?_
  · have hj' : j < args.length := by simpa using hj
    by_cases e : i = j
    · subst e
      rw [show (args.set i (.slice 1 T.length g 0 n none)).getD i un = .slice 1 T.length g 0 n none by simp [List.getD, hlt]]
      exact q5
    · rw [show (args.set i (.slice 1 T.length g 0 n none)).getD j un = args.getD j un by simp [List.getD, List.getElem?_set, e]]
      exact (hvs.2 j hj').mono r2
  · rintro e w' ⟨x, ν', rfl, h1, h2, h3, h4⟩
    refine ⟨x, ν', rfl, h1, h2, (r2.b T.length).trans (fun p hp => h3 p (by simp; omega)), ?_⟩
    exact ⟨h4.os, h4.tape, h4.output, h4.size, fun b hb hO => h4.block b hb (fun h => hO (r3 b h)), fun b hb => (h4.own b hb).imp (r3 b) id⟩
end Go.Abs

set_option linter.unusedVariables false
set_option linter.unusedSimpArgs false
namespace Go.Abs
open Go.RowKit Go.WideShapes Go.ChangeShapes Go.ChangeAt
/-! ## Rows of laws: a struct of four slices of bytes -/
section
variable {H : Type} {enc : TypeId × Value → H} {P : Program}
/-- a slice of bytes, out of its reading: a whole room -/
theorem arg_bytesT {t e : TypeId} (ht : P.underlying t = some (.slice e)) (he : P.underlying e = some (.int .u8)) (hc : P.cellsOf e = 1) (hby : P.bytesOf e = 1) {W : World} {fuel : Nat} {v : Value} {x : DataW H × List MemPlace}
    (hT : DataW.trod enc P W 0 (fun _ => true) true fuel t [v] = some x) (hsz : ∀ elems spare, x.1 = .slice elems spare → (elems.length + spare.length) * P.bytesOf e ≤ reachBytes) :
    ∃ (zs : List Int) (n : Nat) (l : Loc), n ≤ zs.length ∧ (∀ z ∈ zs, 0 ≤ z ∧ z < 256) ∧ zs.length ≤ 140737488351232 ∧ l.g = 0 ∧ l.room = zs.length ∧ (0 < l.room → l.a.block < W.heap.size) ∧
      (∀ i, i < zs.length → W.cell? (l.a.add i) = some (.int .u8 (zs.getD i 0))) ∧ (∀ (ν : Nu) (p : Nat), ν p = some l → VR ν (.slice 1 p 0 0 n none) v) := by
  rcases open_ints ht he hc hT with ⟨hcs, hx⟩ | ⟨a, len', cap', zs, hcs, _, hl, hm, hz, hx, hcell, hwz⟩
  · simp only [List.cons.injEq, and_true] at hcs
    subst hcs
    exact ⟨[], 0, ⟨⟨0, 0, none⟩, 0, 0⟩, Nat.le_refl _, fun z hz => (by cases hz), by simp, rfl, rfl, fun h => (by cases h), fun i hi => (by simp at hi), fun ν p hp => .sliceZ none hp rfl (.inr ⟨rfl, Nat.le_refl 0⟩)⟩
  · simp only [List.cons.injEq, and_true] at hcs
    subst hcs
    subst hx
    simp only [if_true] at hz
    have hs := hsz _ _ rfl
    rw [hby] at hs
    have hlen : (lits (H := H) .u8 (zs.take len')).length + (lits (H := H) .u8 (zs.drop len')).length = zs.length := by simp [lits]; omega
    rw [hlen] at hs
    refine ⟨zs, len', ⟨a, 0, zs.length⟩, by omega, fun z hz => ?_, by unfold reachBytes at hs; omega, rfl, rfl, fun h0 => ?_, hcell, fun ν p hp => ?_⟩
    · have := hwz z hz
      simp [Lit.wf, IntKind.min, IntKind.max, IntKind.signed, IntKind.bits] at this
      omega
    · have h1 := hcell 0 h0
      unfold World.cell? at h1
      rcases Nat.lt_or_ge a.block W.heap.size with h | h
      · exact h
      · have hb : (a.add 0).block = a.block := block_add a 0
        rw [hb, Array.getElem?_eq_none h] at h1
        cases h1
    · refine .slice hp rfl ⟨hl, fun k hk => (by cases hk), ?_, by simp; omega, fun _ => by simp; omega⟩
      simp [Addr.add]
/-- the reach of a part of a struct -/
theorem sized_part {ts : List TypeId} {ds : List (DataW H)} (h : (DataW.weightsEach P ts ds).all (· ≤ reachBytes) = true) {j i : Nat} {t u e : TypeId} {fs : Array Field} {parts elems spare : List (DataW H)} (ht : ts[j]? = some t) (hd : ds[j]? = some (.agg parts)) (hu : P.underlying t = some (.struct fs))
    (hf : (fs.toList.map (·.type))[i]? = some u) (hp : parts[i]? = some (.slice elems spare)) (hu2 : P.underlying u = some (.slice e)) : (elems.length + spare.length) * P.bytesOf e ≤ reachBytes := by
  refine of_decide_eq_true (List.all_eq_true.1 h _ (DataW.weights_mem_each ht hd _ ?_))
  simp only [DataW.weights, hu]
  exact DataW.weights_mem_each hf hp _ (by simp [DataW.weights, hu2])
theorem VR.agg4 {ν : Nu} {a b c d : AVal} {v0 v1 v2 v3 : Value} (h0 : VR ν a v0) (h1 : VR ν b v1) (h2 : VR ν c v2) (h3 : VR ν d v3) : VR ν (.agg [a, b, c, d]) (.agg #[v0, v1, v2, v3]) := by
  refine .agg rfl fun i hi => ?_
  match i, hi with
  | 0, _ => exact h0
  | 1, _ => exact h1
  | 2, _ => exact h2
  | 3, _ => exact h3
  | i + 4, hi => simp at hi; omega
/-- one more bytes slice, room told whole -/
theorem VR.uncap {ν : Nu} {p n k : Nat} {l : Loc} {v : Value} (hp : ν p = some l) (hr : l.room = k) (h : VR ν (.slice 1 p 0 0 n (some k)) v) (hg : l.g = 0) : VR ν (.slice 1 p 0 0 n none) v := by
  cases h with
  | slice h1 h2 h3 =>
    rw [hp] at h1; injection h1 with h1; subst h1
    obtain ⟨a, b, c, d, e⟩ := h3
    exact .slice hp h2 ⟨a, fun _ h => (by cases h), c, d, fun _ => by have := b _ rfl; omega⟩
  | sliceZ bo h1 h2 h3 =>
    rw [hp] at h1; injection h1 with h1; subst h1
    refine .sliceZ bo hp h2 (.inr ⟨rfl, ?_⟩)
    rcases h3 with h3 | h3
    · injection h3 with h3; omega
    · cases h3.1
  | sliceOld x hx h1 h2 => rw [hp] at h1; injection h1 with h1; subst h1; omega
end
end Go.Abs
