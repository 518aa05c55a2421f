/- An abstract machine over small tables of objects, and its soundness over the given model: no condition. -/
import Derived.Test.YtmhfelkcibfigaaAbs1
import Derived.Below
import Derived.ChangeSame
import Derived.SizedLaws
import Derived.WideKeyArgs
import Derived.OpenShut
import Derived.ChangeSlices
import Derived.WalkKit
import Derived.ProofKit
import Derived.Deep.DeepHandedRow
import Derived.Lib.LaidTab
import Derived.RangeFuncNested
import Derived.Lib.MakeNoZero
import Derived.Laws.Externs
import Derived.Lib.SmallJoins
set_option linter.unusedVariables false
set_option linter.unusedSimpArgs false
namespace Go.Abs

/-! ## Words for proofs: nothing here unfolds by itself -/
structure Ok (o : Out) : Prop where h : allP o.cs
structure OkR (r : Res) : Prop where h : allP r.cs
def To (E : Env) (n k : Nat) (c : Code) (fm : Fm) (T : Tab) (ex : AExit) (fm' : Fm) (T' : Tab) : Prop := AWp E n k c fm T fun e f t => e = ex ∧ f = fm' ∧ t = T'

theorem Ok.of {o : Out} {cs : List Con} (e : o.cs = cs) (h : allP cs) : Ok o := ⟨e ▸ h⟩
theorem OkR.of {o : Res} {cs : List Con} (e : o.cs = cs) (h : allP cs) : OkR o := ⟨e ▸ h⟩
theorem To.is {E : Env} {n k : Nat} {c : Code} {fm : Fm} {T : Tab} {o : Out} (h : To E n k c fm T o.ex o.fm o.tab) : AWp E n k c fm T (Is o) := h
theorem To.of {E : Env} (hE : EnvOk E) (hm : E.P.follows .mixedOrders = true) {n k m : Nat} {orc : Orc} (hk : k ≤ orc.kb) {c : Code} (hO : OrcOk E n orc c) {f : Nat} {fm : Fm} {T : Tab} {ds : List (Option Bool)} {slots : List Nat} {o : Out}
    (ho : trim k m slots (run E n orc f c fm T ds) = o) (h : Ok o) {ex : AExit} {fm' : Fm} {T' : Tab} (e1 : o.ex = ex) (e2 : o.fm = fm') (e3 : o.tab = T') : To E n k c fm T ex fm' T' := by
  subst e1 e2 e3
  exact run_trim' hE hm m orc hk hO f ds slots ho h.h
theorem To.base {E : Env} {n k kb : Nat} {c : Code} {fm : Fm} {T : Tab} {ex : AExit} {fm' : Fm} {T' : Tab} (hk : k ≤ kb) (h : To E n kb c fm T ex fm' T') : To E n k c fm T ex fm' T' := AWp.base hk h

/-- a counted loop in its block, and out of it -/
theorem To.rounds {E : Env} {n k : Nat} {id : Nat} {c : Code} (F : Nat → Fm) (T : Nat → Tab) (N : Nat) {fm' : Fm} {T' : Tab}
    (round : ∀ i, i < N → To E n k c (F i) (T i) .normal (F (i + 1)) (T (i + 1))) (last : To E n k c (F N) (T N) (.exit id) fm' T') : To E n k (.block id (.loop c)) (F 0) (T 0) .normal fm' T' := by
  refine AWp.block ?_
  refine AWp.loop (fun fm T' m => ∃ i, i ≤ N ∧ m = N - i ∧ fm = F i ∧ T' = T i) N ⟨0, Nat.zero_le _, rfl, rfl, rfl⟩ ?_
  rintro fm T1 m ⟨i, hi, rfl, rfl, rfl⟩
  rcases Nat.lt_or_ge i N with hlt | hge
  · refine (round i hlt).mono fun ex fm1 T1 ⟨e1, e2, e3⟩ => ?_
    subst e1 e2 e3
    exact ⟨N - (i + 1), by omega, i + 1, hlt, rfl, rfl, rfl⟩
  · have : i = N := by omega
    subst this
    refine last.mono fun ex fm1 T1 ⟨e1, e2, e3⟩ => ?_
    subst e1 e2 e3
    simp
/-- nothing is a slice of an empty object -/
theorem AWp.nilTo {E : Env} {n k : Nat} {c : Code} {fm : Fm} (fm' : Fm) {T : Tab} {post : AExit → Fm → Tab → Prop} (kk : IntKind) (et : TypeId)
    (hf : ∀ t v, look fm' t = some v → look fm t = some v ∨ (look fm t = some .nilSlice ∧ ∃ sz, v = .slice sz T.length 0 0 0 none))
    (h : AWp E n k c fm' (T ++ [some ⟨.ints kk [], 0, true, et⟩]) post) : AWp E n k c fm T post := by
  intro rr D ν a w hs hrd
  have hn : ν T.length = none := by
    cases hν : ν T.length with
    | none => rfl
    | some l => have := hs.hr.lt _ l hν; omega
  obtain ⟨l0, hl0⟩ : ∃ l0 : Loc, l0 = ⟨⟨0, 0, none⟩, 0, 0⟩ := ⟨_, rfl⟩
  have hm : NuLe ν (upd ν T.length l0) := NuLe.upd_new (ν := ν) l0 hn
  have same : ∀ p, p ≠ T.length → upd ν T.length l0 p = ν p := fun p hp => upd_other ν l0 hp
  have self : upd ν T.length l0 T.length = some l0 := upd_same ν _ l0
  have getT : ∀ p o, (T ++ [some (⟨.ints kk [], 0, true, et⟩ : AObj)])[p]? = some o → (p < T.length ∧ T[p]? = some o) ∨ (p = T.length ∧ o = some ⟨.ints kk [], 0, true, et⟩) := by
    intro p o ho
    rcases Nat.lt_or_ge p T.length with hp | hp
    · rw [List.getElem?_append_left hp] at ho; exact .inl ⟨hp, ho⟩
    · rw [List.getElem?_append_right hp] at ho
      have hlt := (List.getElem?_eq_some_iff.1 ho).1
      have hp0 : p = T.length := by simp at hlt; omega
      subst hp0
      simp at ho
      exact .inr ⟨rfl, ho.symm⟩
  have hown : ∀ b, Own (upd ν T.length l0) (T ++ [some ⟨.ints kk [], 0, true, et⟩]) b → Own ν T b := by
    rintro b ⟨p, o, l, h1, h2, h3, h4, h5⟩
    rcases getT p _ h1 with ⟨hp, h1⟩ | ⟨hp, h1⟩
    · rw [same p (by omega)] at h3; exact ⟨p, o, l, h1, h2, h3, h4, h5⟩
    · subst hp; rw [self] at h3; injection h3 with h3; subst h3; subst hl0; simp at h4
  have hr' : HR E.gl (upd ν T.length l0) (T ++ [some ⟨.ints kk [], 0, true, et⟩]) w := by
    refine ⟨fun p o l ho hl => ?_, fun p l hl => ?_, fun p hp => ?_, fun p l hl h0 => ?_, fun p q o o' l l' ho ho' hw hne hl hl' h0 h0' => ?_, fun b d hb => ?_⟩
    · rcases getT p _ ho with ⟨hp, h1⟩ | ⟨hp, h1⟩
      · rw [same p (by omega)] at hl
        obtain ⟨g1, g2⟩ := hs.hr.obj p o l h1 hl
        exact ⟨g1, g2.kept hm fun _ => rfl⟩
      · subst hp; rw [self] at hl; injection hl with hl; subst hl; subst hl0
        injection h1 with h1; subst h1
        exact ⟨rfl, .ints _ _, .inr (.inr ⟨rfl, rfl⟩)⟩
    · by_cases e : p = T.length
      · subst e; simp
      · rw [same p e] at hl; have := hs.hr.lt p l hl; simp; omega
    · rcases getT p _ hp with ⟨hp', h1⟩ | ⟨hp', h1⟩
      · rw [same p (by omega)]; exact hs.hr.hole p h1
      · cases h1
    · by_cases e : p = T.length
      · subst e; rw [self] at hl; injection hl with hl; subst hl; subst hl0; simp at h0
      · rw [same p e] at hl; exact hs.hr.blk p l hl h0
    · rcases getT p _ ho with ⟨hp, h1⟩ | ⟨hp, h1⟩
      · rcases getT q _ ho' with ⟨hq, h2⟩ | ⟨hq, h2⟩
        · rw [same p (by omega)] at hl; rw [same q (by omega)] at hl'
          exact hs.hr.sep p q o o' l l' h1 h2 hw hne hl hl' h0 h0'
        · subst hq; rw [self] at hl'; injection hl' with hl'; subst hl'; subst hl0; simp at h0'
      · subst hp; rw [self] at hl; injection hl with hl; subst hl; subst hl0; simp at h0
    · obtain ⟨h1, h2⟩ := hs.hr.glob b d hb
      exact ⟨fun h3 => h1 (hown b h3), h2⟩
  have hs' : SRel E D (upd ν T.length l0) fm' (T ++ [some ⟨.ints kk [], 0, true, et⟩]) n a w := by
    refine ⟨hr', fun t v hv => ?_, hs.size, hs.defers⟩
    rcases hf t v hv with h1 | ⟨h1, sz, rfl⟩
    · exact (hs.fm t v h1).mono hm
    · have := hs.fm t _ h1
      generalize a.tmps.getD t undef = x at this ⊢
      cases this
      exact .sliceZ none self (by rw [hl0]) (.inr ⟨rfl, by rw [hl0]; exact Nat.le_refl _⟩)
  refine wpIn_mono (h rr D _ a w hs' hrd) fun e a' w' ⟨ex, f1, T1, ν1, h1, h2, h3, h4, h5⟩ => ⟨ex, f1, T1, ν1, h1, h2, h3, fun p hp l hl => ?_, ?_⟩
  · have := hs.hr.lt p l hl
    exact h4 p hp l (by rw [same p (by omega)]; exact hl)
  · exact ⟨h5.os, h5.tape, h5.output, h5.size, fun b hb hO => h5.block b hb (fun h => hO (hown b h)), fun b hb => (h5.own b hb).imp (hown b) id⟩

open Go.RowKit in
/-! ## Demands: those that are flagged are computed, the same ones compared, the rest shown -/
def chkF : List Bool → List Con → Bool
  | _, [] => true
  | true :: fl, c :: cs => match c.chk modeB with
    | some true => chkF fl cs
    | _ => false
  | _ :: fl, _ :: cs => chkF fl cs
  | [], _ :: _ => false
def restF : List Bool → List Con → List Con
  | true :: fl, _ :: cs => restF fl cs
  | false :: fl, c :: cs => match c with
    | .tab _ _ => restF fl cs
    | .val _ _ => restF fl cs
    | c => c :: restF fl cs
  | _, _ => []
theorem demands : ∀ {fl : List Bool} {cs : List Con}, chkF fl cs = true → lefts cs = rights cs → allP (restF fl cs) → allP cs
  | _, [], _, _, _ => trivial
  | [], _ :: _, h, _, _ => by simp [chkF] at h
  | true :: fl, c :: cs, h1, h2, h3 => by
    simp only [chkF] at h1
    split at h1
    · rename_i hk
      have hc := Con.chk_ok hk
      refine ⟨hc, demands h1 ?_ h3⟩
      cases c <;> simp only [lefts, rights] at h2 ⊢ <;> first | exact h2 | (injection h2)
    · cases h1
  | false :: fl, c :: cs, h1, h2, h3 => by
    simp only [chkF] at h1
    cases c with
    | tab a b =>
      simp only [lefts, rights] at h2
      injection h2 with h4 h5
      exact ⟨h4, demands h1 h5 h3⟩
    | val a b =>
      simp only [lefts, rights] at h2
      injection h2 with h4 h5
      injection h4 with h4 _
      injection h4 with h4
      injection h4 with h4
      exact ⟨h4, demands h1 h5 h3⟩
    | _ => exact ⟨h3.1, demands h1 h2 h3.2⟩
theorem Ok.dem {o : Out} {fl : List Bool} {l : List Con} (h1 : chkF fl o.cs = true) (h2 : lefts o.cs = rights o.cs) (h3 : restF fl o.cs = l) (h : allP l) : Ok o := ⟨demands h1 h2 (h3 ▸ h)⟩
theorem OkR.dem {o : Res} {fl : List Bool} {l : List Con} (h1 : chkF fl o.cs = true) (h2 : lefts o.cs = rights o.cs) (h3 : restF fl o.cs = l) (h : allP l) : OkR o := ⟨demands h1 h2 (h3 ▸ h)⟩

/-- a body's run, as a contract -/
theorem small_of {E : Env} (hE : EnvOk E) (hm : E.P.follows .mixedOrders = true) {f : FuncId} {fn : Func} (hf : E.P.funcs[f]? = some fn) (hb : fn.body.isSome = true) {orc : OrcL} (hO : FnOrc E fn orc) {fuel : Nat} {args : List AVal} {T : Tab} {ds : List (Option Bool)} {R : Res}
    (hR : runF E fn orc fuel args T ds = R) (h : OkR R) {v : AVal} {T1 : Tab} (hv : R.val = v) (ht : R.tab = T1) : Small E.P E.gl f args T v T1 := by
  subst hv ht hR
  exact runF_small hE hm hf hb orc hO fuel ds h.h
theorem nofail : ¬ allP fail.cs := by simp [fail, allP, Con.h]
end Go.Abs
namespace Go.Abs
/-- of a table only the first objects are kept: what came in -/
theorem small_drop {P : Program} {gl : Nat → Option AVal} {f : FuncId} {args : List AVal} {T0 T1 : Tab} {v : AVal} (h : Small P gl f args T0 v T1) (hl : T0.length ≤ T1.length := by (first | exact Nat.zero_le _ | simp)) (hi : tabIn T0.length (takeT T0.length T1) = true := by rfl) (hv : noIds v = true := by rfl) :
    Small P gl f args T0 v (takeT T0.length T1) := by
  intro ν w vs hr hvs
  refine (h ν w vs hr hvs).mono ?_
  rintro e w' ⟨x, ν', rfl, h1, h2, h3, h4⟩
  have hs : SRel ⟨P, fun _ => none, fun _ => none, gl⟩ [] ν' [] T1 0 { tmps := #[], defers := [] } w' := ⟨h2, fun t u hu => by simp [look] at hu, Nat.zero_le _, rfl⟩
  obtain ⟨ν2, s2, e5, e6⟩ := hs.cut (m := T0.length) (f := []) hl (fun t u hu => by simp [look] at hu) hi
  refine ⟨x, ν2, rfl, ?_, s2.hr, fun p hp l hl => ?_, h4.sub e6⟩
  · have := h1.ren (ν' := ν2) (r := id) (live := fun _ => false) (fun i l hb => by cases hb) hv
    rwa [ren_no v hv] at this
  · obtain ⟨l', g1, g2⟩ := h3 p hp l hl
    exact ⟨l', by rw [e5 p hp]; exact g1, g2⟩
end Go.Abs

set_option linter.unusedVariables false
namespace Go.Abs
open Go.RowKit Go.WideShapes Go.ChangeShapes
section
variable {H : Type} {enc : TypeId × Value → H} {P : Program}
theorem post_of_below {f : Func} {s : ChangeSpec} {apart fresh handsOn again : Bool} {W W' : World} {args : Array Value} {v : Value} {ds gs : List (DataW H)} {before pa pv : List MemPlace}
    (hW : DataW.Whole enc P f.params.toList s.vars apart W args.toList ds gs before)
    (hres : ∀ (b : Nat) (sp : Nat → Bool) (hd : Bool), DataW.TrodAll enc P W' b sp hd f.resultTypes.toList (v.resultList f.resultTypes.size) (s.fn H (ds ++ gs)).results [])
    (hargs : ∀ sp : Nat → Bool, (∀ p ∈ before, sp p.block = true) → DataW.TrodAll enc P W' 0 sp true f.params.toList args.toList (s.fn H (ds ++ gs)).args pa)
    (hvars : ∀ sp : Nat → Bool, (∀ p ∈ before, sp p.block = true) → DataW.TrodVars enc P W' sp s.vars (s.fn H (ds ++ gs)).vars pv)
    (hps : before = pa ++ pv) (hb : Below W.heap.size W W')
    (hok : ∀ (j : Nat) (t : TypeId) (r : Value), f.resultTypes[j]? = some t → (v.resultList f.resultTypes.size)[j]? = some r → Value.okWide P W' .any 0 t r) :
    s.post enc P f apart fresh handsOn again W args v W' := by
  have hlt : ∀ p ∈ before, p.block < W.heap.size := fun p hp => hW.lt p hp
  have hold : ∀ p ∈ before, (fun b => decide (b < W.heap.size)) p.block = true := fun p hp => by simpa using hlt p hp
  refine ⟨ds, gs, before, [], pa, pv, hW, hres _ _ _, hargs _ hold, hvars _ hold, World.keptBut_mono (fun p hp => ⟨hp, ?_⟩) (hb.frame (· ∈ before)), fun _ => ?_⟩
  · rw [hps, List.mem_append] at hp
    exact Or.inr hp
  · obtain ⟨_, _, _, _, _, hz, hn⟩ := hW
    refine ⟨hok, _, _, ([] ++ pa) ++ pv, ⟨[] ++ pa, pv, trodAll_append (hargs _ (fun _ _ => rfl)) (hres _ _ _), hvars _ (fun _ _ => rfl), rfl, ?_, ?_⟩, ?_⟩
    · intro b off hp
      have hin : MemPlace.cell b off ∈ before := by rw [hps]; simpa using hp
      rw [hb.frozen (hlt _ hin)]
      exact hz b off hin
    · intro ha
      have := hn ha
      rw [hps] at this
      simpa using this
    · intro p hp _
      rw [hps]
      simpa using hp
end
end Go.Abs

set_option linter.unusedVariables false
set_option linter.unusedSimpArgs false
namespace Go.Abs
open Go.RowKit Go.WideShapes Go.ChangeShapes Go.ChangeAt

/-! ## Rows of laws -/
section
variable {H : Type} {enc : TypeId × Value → H} {P : Program}

theorem trodAll_stays (hl : laidOutB P = true) {W W' : World} {sp' : Nat → Bool} : ∀ {ts : List TypeId} {vs : List Value} {ds : List (DataW H)} {ps : List MemPlace}, (∀ t ∈ ts, P.readableRec t = true ∧ t < P.types.size) →
    DataW.TrodAll enc P W 0 (fun _ => true) true ts vs ds ps → (∀ p ∈ ps, W.sameAt W' p) → (∀ p ∈ ps, sp' p.block = true) → DataW.TrodAll enc P W' 0 sp' true ts vs ds ps
  | [], vs, ds, ps, _, h, _, _ => by
    obtain ⟨rfl, rfl, rfl⟩ := trodAll_nil h
    exact h
  | t :: ts, vs, ds, ps, ht, h, h1, h2 => by
    obtain ⟨v, vs', d, ds', p, q, rfl, rfl, rfl, g1, g2⟩ := trodAll_cons h
    exact trodAll_cons_mk (WideElems.Trod_stays hl (ht t (.head _)).1 (ht t (.head _)).2 g1 (fun p hp => h1 p (List.mem_append_left _ hp)) (fun p hp => h2 p (List.mem_append_left _ hp)))
      (trodAll_stays hl (fun t ht' => ht t (.tail _ ht')) g2 (fun p hp => h1 p (List.mem_append_right _ hp)) (fun p hp => h2 p (List.mem_append_right _ hp)))

theorem sameAt_below {W W' : World} (h : Below W.heap.size W W') {p : MemPlace} (hp : p.block < W.heap.size) : W.sameAt W' p := by
  have hb := h.block p.block hp
  cases p with
  | cell b off => exact World.cell?_of_block hb
  | map b => exact hb

/-- a law's ending: true, and all that came in reads as before -/
theorem law_post {f : Func} {s : ChangeSpec} {tb : TypeId} (hl : laidOutB P = true) (hts : ∀ t ∈ f.params.toList, P.readableRec t = true ∧ t < P.types.size) (hvars : s.vars = [])
    {W W' : World} {args : Array Value} {ds gs : List (DataW H)} {before : List MemPlace} (hW : DataW.Whole enc P f.params.toList s.vars false W args.toList ds gs before)
    (hspec : s.fn H (ds ++ gs) = { results := [.lit (.bool true)], args := ds }) (hr : f.resultTypes = #[tb]) (hb : P.underlying tb = some .bool) (hbel : Below W.heap.size W W') :
    s.post enc P f false true false false W args (.bool true) W' := by
  have hW' := hW
  obtain ⟨p, q, hA, hV, rfl, hfz, hnd⟩ := hW
  rw [hvars] at hV
  obtain ⟨rfl, rfl⟩ := trodVars_none hV
  have hlt : ∀ x ∈ p, x.block < W.heap.size := fun x hx => hW'.lt x (by simpa using hx)
  refine post_of_below (pa := p) (pv := []) hW' (fun _ _ _ => ?_) (fun sp hsp => ?_) (fun sp _ => ?_) (by simp) hbel ?_
  · rw [hspec, hr]
    exact trodAll_cons_mk (shut_bool hb _) trodAll_mk0
  · rw [hspec]
    exact trodAll_stays hl hts hA (fun x hx => sameAt_below hbel (hlt x hx)) (fun x hx => hsp x (by simpa using hx))
  · rw [hspec, hvars]
    exact rfl
  · exact ok_one hr rfl (okWide_bool_mk hb _)

def nuL (ls : List Loc) : Nu := fun p => ls[p]?
/-- what came in is a table of objects that are not written -/
theorem HR.args {T : Tab} {ls : List Loc} {W : World} (hlen : T.length = ls.length)
    (h : ∀ (p : Nat) (o : Option AObj), T[p]? = some o → ∃ (d : AVal) (et : TypeId) (l : Loc), o = some ⟨d, 0, false, et⟩ ∧ ls[p]? = some l ∧ l.g = 0 ∧ IsData d ∧ d.len ≤ l.room ∧ (0 < l.room → l.a.block < W.heap.size) ∧ ∀ i, i < d.len → ∃ x, W.cell? (l.a.add i) = some x ∧ VR (nuL ls) (d.get i) x) :
    HR (fun _ => none) (nuL ls) T W := by
  refine ⟨fun p o l ho hl => ?_, fun p l hl => ?_, fun p hp => ?_, fun p l hl h0 => ?_, fun p q o o' l l' ho ho' hw hne hl hl' h0 h0' => ?_, fun b d hb => (by cases hb)⟩
  · obtain ⟨d, et, l1, e1, e2, e3, e4, e5, e6, e7⟩ := h p _ ho
    injection e1 with e1; subst e1
    simp only [nuL] at hl
    rw [e2] at hl; injection hl with hl; subst hl
    exact ⟨e3.symm, e4, .inr (.inl ⟨rfl, e5, e7⟩)⟩
  · simp only [nuL] at hl
    rw [hlen]; exact (List.getElem?_eq_some_iff.1 hl).1
  · obtain ⟨d, et, l1, e1, _⟩ := h p _ hp
    cases e1
  · simp only [nuL] at hl
    have hlt := (List.getElem?_eq_some_iff.1 hl).1
    obtain ⟨o, ho⟩ : ∃ o, T[p]? = some o := ⟨T[p]'(by omega), List.getElem?_eq_getElem (by omega)⟩
    obtain ⟨d, et, l1, e1, e2, e3, e4, e5, e6, e7⟩ := h p o ho
    rw [e2] at hl; injection hl with hl; subst hl
    exact e6 h0
  · obtain ⟨d, et, l1, e1, _⟩ := h p _ ho
    injection e1 with e1; subst e1
    cases hw

/-- a law over what came in -/
theorem calls_args {f : FuncId} {args : List AVal} {v : AVal} {T T1 : Tab} {ls : List Loc} {w : World} {vs : Array Value} {x : Value} (h : Small P (fun _ => none) f args T v T1) (hT : HR (fun _ => none) (nuL ls) T w) (hown : ∀ (p : Nat) (o : AObj), T[p]? = some (some o) → o.own = false)
    (hx : ∀ ν y, VR ν v y → y = x) (hv : VRs (nuL ls) args vs.toList) :
    Calls P f vs w fun e w' => e = .returned x ∧ Below w.heap.size w w' := by
  refine (h (nuL ls) w vs hT hv).mono ?_
  rintro e w' ⟨y, ν', rfl, h1, h2, h3, h4⟩
  refine ⟨by rw [hx _ _ h1], h4.os, h4.tape, h4.output, h4.size, fun b hb => h4.block b hb ?_⟩
  rintro ⟨p, o, l, ho, hw, _⟩
  rw [hown p o ho] at hw
  cases hw
end
end Go.Abs

set_option linter.unusedVariables false
set_option linter.unusedSimpArgs false
namespace Go.Abs

/-- an empty object beside the others -/
theorem HR.pushEmpty {gl : Nat → Option AVal} {ν : Nu} {T : Tab} {w : World} (hr : HR gl ν T w) (kk : IntKind) (et : TypeId) :
    ∃ l0 : Loc, l0.g = 0 ∧ l0.room = 0 ∧ HR gl (upd ν T.length l0) (T ++ [some ⟨.ints kk [], 0, true, et⟩]) w ∧ NuLe ν (upd ν T.length l0) ∧ (∀ b, Own (upd ν T.length l0) (T ++ [some ⟨.ints kk [], 0, true, et⟩]) b → Own ν T b) := by
  have hn : ν T.length = none := by
    cases hν : ν T.length with
    | none => rfl
    | some l => have := hr.lt _ l hν; omega
  obtain ⟨l0, hl0⟩ : ∃ l0 : Loc, l0 = ⟨⟨0, 0, none⟩, 0, 0⟩ := ⟨_, rfl⟩
  have hm : NuLe ν (upd ν T.length l0) := NuLe.upd_new (ν := ν) l0 hn
  have same : ∀ p, p ≠ T.length → upd ν T.length l0 p = ν p := fun p hp => upd_other ν l0 hp
  have self : upd ν T.length l0 T.length = some l0 := upd_same ν _ l0
  have getT : ∀ p o, (T ++ [some (⟨.ints kk [], 0, true, et⟩ : AObj)])[p]? = some o → (p < T.length ∧ T[p]? = some o) ∨ (p = T.length ∧ o = some ⟨.ints kk [], 0, true, et⟩) := by
    intro p o ho
    rcases Nat.lt_or_ge p T.length with hp | hp
    · rw [List.getElem?_append_left hp] at ho; exact .inl ⟨hp, ho⟩
    · rw [List.getElem?_append_right hp] at ho
      have hlt := (List.getElem?_eq_some_iff.1 ho).1
      have hp0 : p = T.length := by simp at hlt; omega
      subst hp0
      simp at ho
      exact .inr ⟨rfl, ho.symm⟩
  have hown : ∀ b, Own (upd ν T.length l0) (T ++ [some ⟨.ints kk [], 0, true, et⟩]) b → Own ν T b := by
    rintro b ⟨p, o, l, h1, h2, h3, h4, h5⟩
    rcases getT p _ h1 with ⟨hp, h1⟩ | ⟨hp, h1⟩
    · rw [same p (by omega)] at h3; exact ⟨p, o, l, h1, h2, h3, h4, h5⟩
    · subst hp; rw [self] at h3; injection h3 with h3; subst h3; subst hl0; simp at h4
  refine ⟨l0, by rw [hl0], by rw [hl0], ⟨fun p o l ho hl => ?_, fun p l hl => ?_, fun p hp => ?_, fun p l hl h0 => ?_, fun p q o o' l l' ho ho' hw hne hl hl' h0 h0' => ?_, fun b d hb => ?_⟩, hm, hown⟩
  · rcases getT p _ ho with ⟨hp, h1⟩ | ⟨hp, h1⟩
    · rw [same p (by omega)] at hl
      obtain ⟨g1, g2⟩ := hr.obj p o l h1 hl
      exact ⟨g1, g2.kept hm fun _ => rfl⟩
    · subst hp; rw [self] at hl; injection hl with hl; subst hl; subst hl0
      injection h1 with h1; subst h1
      exact ⟨rfl, .ints _ _, .inr (.inr ⟨rfl, rfl⟩)⟩
  · by_cases e : p = T.length
    · subst e; simp
    · rw [same p e] at hl; have := hr.lt p l hl; simp; omega
  · rcases getT p _ hp with ⟨hp', h1⟩ | ⟨hp', h1⟩
    · rw [same p (by omega)]; exact hr.hole p h1
    · cases h1
  · by_cases e : p = T.length
    · subst e; rw [self] at hl; injection hl with hl; subst hl; subst hl0; simp at h0
    · rw [same p e] at hl; exact hr.blk p l hl h0
  · rcases getT p _ ho with ⟨hp, h1⟩ | ⟨hp, h1⟩
    · rcases getT q _ ho' with ⟨hq, h2⟩ | ⟨hq, h2⟩
      · rw [same p (by omega)] at hl; rw [same q (by omega)] at hl'
        exact hr.sep p q o o' l l' h1 h2 hw hne hl hl' h0 h0'
      · subst hq; rw [self] at hl'; injection hl' with hl'; subst hl'; subst hl0; simp at h0'
    · subst hp; rw [self] at hl; injection hl with hl; subst hl; subst hl0; simp at h0
  · obtain ⟨h1, h2⟩ := hr.glob b d hb
    exact ⟨fun h3 => h1 (hown b h3), h2⟩

/-- a result that is nothing, told as a slice of an empty object -/
theorem small_nil {P : Program} {gl : Nat → Option AVal} {f : FuncId} {args : List AVal} {T0 T1 : Tab} {v v' : AVal} (kk : IntKind) (et : TypeId) (h : Small P gl f args T0 v T1) (hk : T0.length ≤ T1.length)
    (hv : ∀ (ν : Nu) (x : Value) (l : Loc), ν T1.length = some l → l.g = 0 → l.room = 0 → (∀ u y, VR ν u y → True) → VR ν v x → VR ν v' x) : Small P gl f args T0 v' (T1 ++ [some ⟨.ints kk [], 0, true, et⟩]) := by
  intro ν w vs hr hvs
  refine (h ν w vs hr hvs).mono ?_
  rintro e w' ⟨x, ν', rfl, h1, h2, h3, h4⟩
  obtain ⟨l0, g1, g2, g3, g4, g5⟩ := h2.pushEmpty kk et
  refine ⟨x, upd ν' T1.length l0, rfl, hv _ x l0 (upd_same _ _ _) g1 g2 (fun _ _ _ => trivial) (h1.mono g4), g3, h3.trans (g4.b _), h4.sub g5⟩

theorem VR.nil_slice {ν : Nu} {x : Value} {q : Nat} {l : Loc} {sz : Nat} {cap : Option Nat} (hl : ν q = some l) (hg : l.g = 0) (hr : l.room = 0) (hc : cap = some 0 ∨ cap = none) (h : VR ν .nilSlice x) : VR ν (.slice sz q 0 0 0 cap) x := by
  cases h
  exact .sliceZ none hl hg.symm (hc.imp id fun h => ⟨h, by rw [hr]; exact Nat.le_refl _⟩)

/-- two results, the first one nothing -/
theorem small_nil2 {P : Program} {gl : Nat → Option AVal} {f : FuncId} {args : List AVal} {T0 T1 : Tab} {u : AVal} (kk : IntKind) (et : TypeId) {sz : Nat} {cap : Option Nat} (hc : cap = some 0 ∨ cap = none) (h : Small P gl f args T0 (.tuple [.nilSlice, u]) T1) (hk : T0.length ≤ T1.length) :
    Small P gl f args T0 (.tuple [.slice sz T1.length 0 0 0 cap, u]) (T1 ++ [some ⟨.ints kk [], 0, true, et⟩]) := by
  refine small_nil kk et h hk fun ν x l h1 h2 h3 _ hx => ?_
  cases hx with
  | tuple e1 e2 =>
    refine .tuple e1 fun i hi => ?_
    match i, hi with
    | 0, _ => exact VR.nil_slice h1 h2 h3 hc (e2 0 (by simp))
    | 1, _ => exact e2 1 (by simp)
    | i + 2, hi => simp at hi; omega
end Go.Abs

set_option linter.unusedVariables false
set_option linter.unusedSimpArgs false
namespace Go.Abs
/-! ## Only some objects are kept, and they move together -/
def sigG : List Nat → Nat → Nat
  | [], _ => 0
  | p :: r, i => match Nat.beq p i with | true => 0 | false => sigG r i + 1
def hasG : List Nat → Nat → Bool
  | [], _ => false
  | p :: r, i => Nat.beq p i || hasG r i
def nodupG : List Nat → Bool
  | [] => true
  | p :: r => !hasG r p && nodupG r
def startsG : Nat → Nat → List Nat → Bool
  | _, 0, _ => true
  | i, k + 1, p :: r => Nat.beq p i && startsG (i + 1) k r
  | _, _ + 1, [] => false
def getG (T : Tab) (p : Nat) : Option AObj := match T[p]? with | some (some o) => some o | _ => none
def gcL (keep : List Nat) (T : Tab) : List Nat → Tab
  | [] => []
  | p :: r => (match getG T p with | some o => some (renO (sigG keep) o) | none => none) :: gcL keep T r
def gcT (keep : List Nat) (T : Tab) : Tab := gcL keep T keep
def inG (keep : List Nat) (T : Tab) : List Nat → Bool
  | [] => true
  | p :: r => (match getG T p with | some o => idsIn (hasG keep) o.data | none => true) && inG keep T r
def okG (k : Nat) (keep : List Nat) (T : Tab) : Bool := nodupG keep && (startsG 0 k keep && inG keep T keep)
def pickG (keep : List Nat) (fm : Fm) : List Nat → Option Fm
  | [] => some []
  | t :: r => match look fm t, pickG keep fm r with
    | some v, some f => match idsIn (hasG keep) v with
      | true => some ((t, ren (sigG keep) v) :: f)
      | false => none
    | _, _ => none
theorem hasG_get : ∀ {l : List Nat} {i : Nat}, hasG l i = true → l[sigG l i]? = some i
  | p :: r, i, h => by
    simp only [hasG, Bool.or_eq_true] at h
    simp only [sigG]
    cases hp : Nat.beq p i with
    | true => have := Nat.eq_of_beq_eq_true hp; subst this; rfl
    | false => simp only [hp, Bool.false_eq_true, false_or] at h; simpa using hasG_get h
theorem hasG_mem : ∀ {l : List Nat} {j p : Nat}, l[j]? = some p → hasG l p = true
  | q :: r, 0, p, h => by simp at h; subst h; simp [hasG]
  | q :: r, j + 1, p, h => by simp only [hasG, Bool.or_eq_true]; exact .inr (hasG_mem (by simpa using h))
theorem nodupG_ok : ∀ {l : List Nat}, nodupG l = true → ∀ (i j p : Nat), l[i]? = some p → l[j]? = some p → i = j
  | q :: r, h, 0, 0, p, _, _ => rfl
  | q :: r, h, 0, j + 1, p, hi, hj => by
    simp at hi; subst hi
    have := hasG_mem (l := r) (j := j) (by simpa using hj)
    simp [nodupG, this] at h
  | q :: r, h, i + 1, 0, p, hi, hj => by
    simp at hj; subst hj
    have := hasG_mem (l := r) (j := i) (by simpa using hi)
    simp [nodupG, this] at h
  | q :: r, h, i + 1, j + 1, p, hi, hj => by
    simp only [nodupG, Bool.and_eq_true] at h
    rw [nodupG_ok h.2 i j p (by simpa using hi) (by simpa using hj)]
theorem startsG_ok : ∀ {k i : Nat} {l : List Nat}, startsG i k l = true → ∀ j, j < k → l[j]? = some (i + j)
  | k + 1, i, p :: r, h, 0, _ => by simp only [startsG, Bool.and_eq_true] at h; rw [Nat.eq_of_beq_eq_true h.1]; rfl
  | k + 1, i, p :: r, h, j + 1, hj => by
    simp only [startsG, Bool.and_eq_true] at h
    rw [List.getElem?_cons_succ, startsG_ok h.2 j (by omega)]
    congr 1; omega
theorem gcL_get (keep : List Nat) (T : Tab) : ∀ (l : List Nat) (j : Nat), (gcL keep T l)[j]? = (l[j]?).map fun p => match getG T p with | some o => some (renO (sigG keep) o) | none => none
  | [], j => by simp [gcL]
  | p :: r, 0 => rfl
  | p :: r, j + 1 => by simpa [gcL] using gcL_get keep T r j
theorem gcL_len (keep : List Nat) (T : Tab) : ∀ (l : List Nat), (gcL keep T l).length = l.length
  | [] => rfl
  | p :: r => by simp [gcL, gcL_len keep T r]
theorem inG_ok {keep : List Nat} {T : Tab} : ∀ {l : List Nat}, inG keep T l = true → ∀ (j p : Nat) (o : AObj), l[j]? = some p → getG T p = some o → idsIn (hasG keep) o.data = true
  | q :: r, h, 0, p, o, hp, ho => by simp at hp; subst hp; simp only [inG, ho, Bool.and_eq_true] at h; exact h.1
  | q :: r, h, j + 1, p, o, hp, ho => by simp only [inG, Bool.and_eq_true] at h; exact inG_ok h.2 j p o (by simpa using hp) ho
theorem getG_some {T : Tab} {p : Nat} {o : AObj} (h : getG T p = some o) : T[p]? = some (some o) := by
  unfold getG at h; split at h
  · rename_i o' h'; injection h with h; subst h; exact h'
  · cases h
theorem pickG_ok {keep : List Nat} {fm : Fm} : ∀ {l : List Nat} {f : Fm}, pickG keep fm l = some f → ∀ t v, look f t = some v → ∃ u, look fm t = some u ∧ idsIn (hasG keep) u = true ∧ v = ren (sigG keep) u
  | [], f, h, t, v, hl => by simp [pickG] at h; subst h; simp [look] at hl
  | s :: r, f, h, t, v, hl => by
    simp only [pickG] at h
    split at h
    · rename_i u f' h1 h2
      split at h
      · rename_i h3
        injection h with h; subst h
        simp only [look] at hl
        split at hl
        · rename_i he
          have := Nat.eq_of_beq_eq_true he; subst this
          injection hl with hl; subst hl
          exact ⟨u, h1, h3, rfl⟩
        · exact pickG_ok h2 t v hl
      · cases h
    · cases h
def nuG (keep : List Nat) (ν : Nu) : Nu := fun j => match keep[j]? with | some p => ν p | none => none
theorem nuG_some {keep : List Nat} {ν : Nu} {j : Nat} {l : Loc} (h : nuG keep ν j = some l) : ∃ p, keep[j]? = some p ∧ ν p = some l := by
  unfold nuG at h; split at h
  · rename_i p hp; exact ⟨p, hp, h⟩
  · cases h
theorem nuG_key {keep : List Nat} {ν : Nu} : ∀ i l, hasG keep i = true → ν i = some l → nuG keep ν (sigG keep i) = some l := fun i l hi hl => by
  unfold nuG; rw [hasG_get hi]; exact hl
theorem gcT_some {keep : List Nat} {T : Tab} {j : Nat} {o' : AObj} (h : (gcT keep T)[j]? = some (some o')) : ∃ p o, keep[j]? = some p ∧ T[p]? = some (some o) ∧ o' = renO (sigG keep) o := by
  unfold gcT at h
  rw [gcL_get] at h
  cases hk : keep[j]? with
  | none => rw [hk] at h; cases h
  | some p =>
    rw [hk] at h
    simp only [Option.map_some] at h
    cases hg : getG T p with
    | none => rw [hg] at h; cases h
    | some o => rw [hg] at h; injection h with h; injection h with h; exact ⟨p, o, rfl, getG_some hg, h.symm⟩
theorem getG_of {T : Tab} {p : Nat} {o : AObj} (h : T[p]? = some (some o)) : getG T p = some o := by unfold getG; rw [h]
theorem Own.gc {keep : List Nat} {ν : Nu} {T : Tab} {b : Nat} (h : Own (nuG keep ν) (gcT keep T) b) : Own ν T b := by
  obtain ⟨j, o', l, h1, h2, h3, h4⟩ := h
  obtain ⟨p, o, e1, e2, rfl⟩ := gcT_some h1
  obtain ⟨p', e3, e4⟩ := nuG_some h3
  rw [e1] at e3; injection e3 with e3; subst e3
  exact ⟨p, o, l, e2, h2, e4, h4⟩
theorem HR.gc {gl : Nat → Option AVal} {ν : Nu} {T : Tab} {w : World} {k : Nat} {keep : List Nat} (h : HR gl ν T w) (hk : okG k keep T = true) : HR gl (nuG keep ν) (gcT keep T) w := by
  simp only [okG, Bool.and_eq_true] at hk
  obtain ⟨h1, h2, h3⟩ := hk
  refine ⟨fun j o' l ho hl => ?_, fun j l hl => ?_, fun j hj => ?_, fun j l hl h0 => ?_, fun i j o o' l l' ho ho' hw hne hl hl' => ?_, fun b d hb => ?_⟩
  · obtain ⟨p, o, e1, e2, rfl⟩ := gcT_some ho
    obtain ⟨p', e3, e4⟩ := nuG_some hl
    rw [e1] at e3; injection e3 with e3; subst e3
    obtain ⟨g1, g2⟩ := h.obj p o l e2 e4
    exact ⟨g1, g2.ren nuG_key (inG_ok h3 j p o e1 (getG_of e2))⟩
  · obtain ⟨p, e1, _⟩ := nuG_some hl
    unfold gcT; rw [gcL_len]; exact (List.getElem?_eq_some_iff.1 e1).1
  · unfold gcT at hj
    rw [gcL_get] at hj
    unfold nuG
    cases hk : keep[j]? with
    | none => rfl
    | some p =>
      simp only [hk, Option.map_some] at hj
      cases hν : ν p with
      | none => simp only [hν]
      | some l =>
        exfalso
        have hlt := h.lt p l hν
        have e : T[p]? = some T[p] := List.getElem?_eq_getElem hlt
        cases hT : T[p] with
        | none => rw [hT] at e; rw [h.hole p e] at hν; cases hν
        | some o => rw [hT] at e; rw [getG_of e] at hj; injection hj with hj; cases hj
  · obtain ⟨p, _, e⟩ := nuG_some hl
    exact h.blk p l e h0
  · obtain ⟨p, a, e1, e2, rfl⟩ := gcT_some ho
    obtain ⟨q, b, f1, f2, rfl⟩ := gcT_some ho'
    obtain ⟨p', e3, e4⟩ := nuG_some hl
    rw [e1] at e3; injection e3 with e3; subst e3
    obtain ⟨q', f3, f4⟩ := nuG_some hl'
    rw [f1] at f3; injection f3 with f3; subst f3
    exact h.sep p q a b l l' e2 f2 hw (fun e => hne (by subst e; exact nodupG_ok h1 i j p e1 f1)) e4 f4
  · obtain ⟨g1, g2⟩ := h.glob b d hb
    exact ⟨fun g => g1 g.gc, g2⟩
theorem NuLeB.gc {keep : List Nat} {ν ν' : Nu} {T : Tab} {k : Nat} (h : NuLeB k ν ν') (hk : okG k keep T = true) : NuLeB k ν (nuG keep ν') := fun p hp l hl => by
  simp only [okG, Bool.and_eq_true] at hk
  obtain ⟨l', h1, h2⟩ := h p hp l hl
  have e := startsG_ok hk.2.1 p hp
  rw [Nat.zero_add] at e
  exact ⟨l', by unfold nuG; rw [e]; exact h1, h2⟩
theorem SRel.gc {E : Env} {D : List Deferred} {ν : Nu} {fm f : Fm} {T : Tab} {n k : Nat} {a : Act} {w : World} {keep : List Nat} {slots : List Nat} (h : SRel E D ν fm T n a w) (hk : okG k keep T = true) (hf : pickG keep fm slots = some f) : SRel E D (nuG keep ν) f (gcT keep T) n a w := by
  refine ⟨h.hr.gc hk, fun t v hv => ?_, h.size, h.defers⟩
  obtain ⟨u, h1, h2, rfl⟩ := pickG_ok hf t v hv
  exact (h.fm t u h1).ren nuG_key h2
/-- the outcome, with only some objects, moved together -/
def trimG (k : Nat) (keep : List Nat) (slots : List Nat) (o : Out) : Out :=
  match o with
  | ⟨cs, ex, fm, T, ds⟩ => match pickG keep fm slots, okG k keep T with
    | some f, true => ⟨cs, ex, f, gcT keep T, ds⟩
    | _, _ => failO
theorem AWp.trimG {E : Env} {n k : Nat} {keep : List Nat} {c : Code} {fm : Fm} {T : Tab} {o : Out} {slots : List Nat} (hc : allP (trimG k keep slots o).cs) (h : allP o.cs → AWp E n k c fm T (Is o)) : AWp E n k c fm T (Is (trimG k keep slots o)) := by
  obtain ⟨cs, ex, fm1, T1, ds⟩ := o
  unfold Abs.trimG at hc ⊢
  simp only at hc ⊢
  cases hp : pickG keep fm1 slots with
  | none => simp only [hp] at hc; exact absurd hc failO_no
  | some f =>
    cases hb : okG k keep T1 with
    | false => simp only [hp, hb] at hc; exact absurd hc failO_no
    | true =>
      simp only [hp, hb] at hc ⊢
      intro rr D ν a w hs hrd
      refine wpIn_mono (h hc rr D ν a w hs hrd) fun e a' w' ⟨ex', fm', T', ν', e1, ⟨e2, e3, e4⟩, ⟨ms, s', mk⟩, n', f'⟩ => ?_
      simp only at e2 e3 e4
      subst e2 e3 e4
      exact ⟨ex', f, gcT keep T', nuG keep ν', e1, ⟨rfl, rfl, rfl⟩, ⟨ms, s'.gc hb hp, mk⟩, n'.gc hb, f'.sub fun b hb => hb.gc⟩
theorem To.ofG {E : Env} (hE : EnvOk E) (hm : E.P.follows .mixedOrders = true) {n k : Nat} {keep : List Nat} {orc : Orc} (hk : k ≤ orc.kb) {c : Code} (hO : OrcOk E n orc c) {f : Nat} {fm : Fm} {T : Tab} {ds : List (Option Bool)} {slots : List Nat} {o : Out}
    (ho : trimG k keep slots (run E n orc f c fm T ds) = o) (h : Ok o) {ex : AExit} {fm' : Fm} {T' : Tab} (e1 : o.ex = ex) (e2 : o.fm = fm') (e3 : o.tab = T') : To E n k c fm T ex fm' T' := by
  subst e1 e2 e3 ho
  exact AWp.trimG h.h fun h => (run_sound hE hm hk hO f (fun _ _ h => h) h).1
/-- a function's outcome, with only some objects, moved together -/
theorem small_gc {P : Program} {gl : Nat → Option AVal} {f : FuncId} {args : List AVal} {T0 T1 : Tab} {v : AVal} (keep : List Nat) (h : Small P gl f args T0 v T1) {v' : AVal} {T' : Tab} (hk : okG T0.length keep T1 = true) (hv : idsIn (hasG keep) v = true) (e1 : ren (sigG keep) v = v') (e2 : gcT keep T1 = T') :
    Small P gl f args T0 v' T' := by
  subst e1 e2
  intro ν w vs hr hvs
  refine (h ν w vs hr hvs).mono ?_
  rintro e w' ⟨x, ν', rfl, h1, h2, h3, h4⟩
  exact ⟨x, nuG keep ν', rfl, h1.ren nuG_key hv, h2.gc hk, h3.gc hk, h4.sub fun b hb => hb.gc⟩
/-- a function's run, with only some objects, moved together -/
def resG (k : Nat) (keep : List Nat) (r : Res) : Res :=
  match r with
  | ⟨cs, v, T⟩ => match idsIn (hasG keep) v && okG k keep T with
    | true => ⟨cs, ren (sigG keep) v, gcT keep T⟩
    | false => fail
theorem small_ofG {E : Env} (hE : EnvOk E) (hm : E.P.follows .mixedOrders = true) {f : FuncId} {fn : Func} (hf : E.P.funcs[f]? = some fn) (hb : fn.body.isSome = true) {orc : OrcL} (hO : FnOrc E fn orc) {fuel : Nat} {args : List AVal} {T : Tab} {ds : List (Option Bool)} {R : Res} {keep : List Nat}
    (hR : resG T.length keep (runF E fn orc fuel args T ds) = R) (h : OkR R) {v : AVal} {T1 : Tab} (hv : R.val = v) (ht : R.tab = T1) : Small E.P E.gl f args T v T1 := by
  subst hv ht hR
  have hS := runF_small hE hm hf hb orc hO fuel (args := args) (T := T) ds
  generalize runF E fn orc fuel args T ds = r at h hS ⊢
  obtain ⟨cs, v, T1⟩ := r
  obtain ⟨h⟩ := h
  unfold resG at h ⊢
  simp only at h ⊢
  cases hb : idsIn (hasG keep) v && okG T.length keep T1 with
  | false => simp only [hb] at h; exact absurd h nofail
  | true =>
    simp only [hb] at h ⊢
    simp only [Bool.and_eq_true] at hb
    exact small_gc keep (hS h) hb.2 hb.1 rfl rfl
attribute [irreducible] resG trimG
end Go.Abs

set_option linter.unusedVariables false
set_option linter.unusedSimpArgs false
namespace Go.Abs
open Go.RowKit Go.WideShapes Go.ChangeShapes Go.ChangeAt
/-! ## Rows whose laws read tables of the program -/
section
variable {P : Program}
end
end Go.Abs

set_option linter.unusedVariables false
namespace Go.Abs
/-! ## What stands in a table or a list of values, taken out -/
def vAt : List AVal → Nat → AVal
  | [], _ => un
  | v :: _, 0 => v
  | _ :: r, i + 1 => vAt r i
def dAt (T : Tab) (p : Nat) : AVal := match nth T p with | some o => o.data | none => un
def gAt (T : Tab) (p : Nat) : Nat := match nth T p with | some o => o.g | none => 0
def owAt (T : Tab) (p : Nat) : Bool := match nth T p with | some o => o.own | none => false
def xsOf : AVal → List Int | .ints _ xs => xs | _ => []
def vsOf : AVal → List AVal | .agg vs => vs | _ => []
def iOf : AVal → Int | .int _ n => n | _ => 0
def offOf : AVal → Nat | .slice _ _ _ off _ _ => off | .ptr _ _ off => off | _ => 0
def lenOf : AVal → Nat | .slice _ _ _ _ len _ => len | _ => 0
def capOf : AVal → Option Nat | .slice _ _ _ _ _ cap => cap | _ => none
def xsAt (T : Tab) (p : Nat) : List Int := xsOf (dAt T p)
def cAt (T : Tab) (p i : Nat) : AVal := vAt (vsOf (dAt T p)) i
end Go.Abs
namespace Go.Abs
/-- flags, out of a number's bits -/
def bitsF : Nat → Nat → List Bool
  | 0, _ => []
  | k + 1, n => Nat.beq (n % 2) 1 :: bitsF k (n / 2)
end Go.Abs

set_option linter.unusedVariables false
set_option linter.unusedSimpArgs false
namespace Go.Abs
end Go.Abs

set_option linter.unusedVariables false
set_option linter.unusedSimpArgs false
namespace Go.Abs
/-! ## Range over a function: code that runs beside the loops' records -/
/-- what a record is of: its loop, as text, and what is known of the temporaries at its entry -/
structure Host where
  ps : Array Tmp
  assign : Code
  body : Code
  fm : Fm
  n : Nat
abbrev St := LoopState × Option Code
abbrev Amb := List (Nat × Host)

theorem VR.monoB {k : Nat} {ν ν' : Nu} {v : AVal} {x : Value} (hm : NuLeB k ν ν') (hv : idsIn (fun i => Nat.blt i k) v = true) (h : VR ν v x) : VR ν' v x := by
  let ν2 : Nu := fun p => if p < k then ν' p else ν p
  have h1 : NuLe ν ν2 := fun p l hl => by
    by_cases hp : p < k
    · obtain ⟨l', g1, g2⟩ := hm p hp l hl
      exact ⟨l', by simp only [ν2, if_pos hp]; exact g1, g2⟩
    · exact ⟨l, by simp only [ν2, if_neg hp]; exact hl, .inr ⟨rfl, rfl, rfl⟩⟩
  have h2 := (h.mono h1).ren (ν' := ν') (r := fun i => i) (live := fun i => Nat.blt i k) (fun i l hi hl => by
    have hp : i < k := by simpa using hi
    simpa only [ν2, if_pos hp] using hl) hv
  rwa [ren_id] at h2
def fmIn (k : Nat) (fm : Fm) : Prop := ∀ t v, look fm t = some v → idsIn (fun i => Nat.blt i k) v = true
def ambIn (k : Nat) (A : Amb) : Prop := ∀ x ∈ A, fmIn k x.2.fm
def RecOk (ν : Nu) (l : Nat) (H : Host) (st : St) (w : World) : Prop :=
  ∃ rc : Loop, w.heap[l]? = some (.loop rc) ∧ rc.state = st.1 ∧ rc.pending = st.2 ∧ rc.params = H.ps ∧ rc.assign = H.assign ∧ rc.body = H.body ∧ H.n ≤ rc.tmps.size ∧ ∀ t v, look H.fm t = some v → VR ν v (rc.tmps.getD t undef)
def RecsOk (ν : Nu) : Amb → List St → World → Prop
  | [], [], _ => True
  | (l, H) :: A, st :: σ, w => RecOk ν l H st w ∧ RecsOk ν A σ w ∧ ∀ x ∈ A, x.1 ≠ l
  | _, _, _ => False
theorem RecOk.keep {k : Nat} {ν ν' : Nu} {l : Nat} {H : Host} {st : St} {w w' : World} (h : RecOk ν l H st w) (hin : fmIn k H.fm) (hm : NuLeB k ν ν') (hw : w'.heap[l]? = w.heap[l]?) : RecOk ν' l H st w' := by
  obtain ⟨rc, h1, h2, h3, h4, h5, h6, h7, h8⟩ := h
  exact ⟨rc, by rw [hw]; exact h1, h2, h3, h4, h5, h6, h7, fun t v hl => (h8 t v hl).monoB hm (hin t v hl)⟩
theorem RecsOk.keep {k : Nat} {ν ν' : Nu} {w w' : World} (hm : NuLeB k ν ν') : ∀ {A : Amb} {σ : List St}, RecsOk ν A σ w → ambIn k A → (∀ x ∈ A, w'.heap[x.1]? = w.heap[x.1]?) → RecsOk ν' A σ w'
  | [], [], _, _, _ => trivial
  | [], _ :: _, h, _, _ => h.elim
  | _ :: _, [], h, _, _ => h.elim
  | (l, H) :: A, st :: σ, ⟨h1, h2, h3⟩, hin, hw => ⟨h1.keep (hin _ (.head _)) hm (hw _ (.head _)), RecsOk.keep hm h2 (fun x hx => hin x (.tail _ hx)) (fun x hx => hw x (.tail _ hx)), h3⟩
theorem RecsOk.loop {ν : Nu} {w : World} : ∀ {A : Amb} {σ : List St}, RecsOk ν A σ w → ∀ x ∈ A, ∃ rc, w.heap[x.1]? = some (.loop rc)
  | (l, H) :: A, st :: σ, ⟨h1, h2, h3⟩, x, hx => by
    rcases List.mem_cons.1 hx with rfl | hx
    · obtain ⟨rc, h, _⟩ := h1; exact ⟨rc, h⟩
    · exact RecsOk.loop h2 x hx
/-- the blocks that may change -/
def OwnA (A : Amb) (ν : Nu) (T : Tab) (b : Nat) : Prop := Own ν T b ∨ ∃ x ∈ A, x.1 = b
theorem size_of {w : World} {b : Nat} {o : Obj} (h : w.heap[b]? = some o) : b < w.heap.size := by
  rcases Nat.lt_or_ge b w.heap.size with h' | h'
  · exact h'
  · rw [Array.getElem?_eq_none h'] at h; cases h
theorem Fr.amb {A : Amb} {ν ν' : Nu} {T T' : Tab} {w w' : World} (h : Fr (Own ν T) w (Own ν' T') w') : Fr (OwnA A ν T) w (OwnA A ν' T') w' :=
  ⟨h.os, h.tape, h.output, h.size, fun b hb hO => h.block b hb (fun h => hO (.inl h)), fun b hb => by
    rcases hb with hb | hb
    · exact (h.own b hb).imp .inl id
    · exact .inl (.inr hb)⟩
/-- a block that is neither cells nor a record stays -/
theorem Fr.other {gl : Nat → Option AVal} {A : Amb} {σ : List St} {ν : Nu} {T : Tab} {O : Nat → Prop} {w w' : World} (hf : Fr (OwnA A ν T) w O w') (hr : HR gl ν T w) (hA : RecsOk ν A σ w) {b : Nat} {o : Obj} (ho : w.heap[b]? = some o) (h1 : ∀ c t z, o ≠ .cells c t z) (h2 : ∀ r, o ≠ .loop r) : w'.heap[b]? = some o := by
  rw [hf.block b (size_of ho) (fun h => ?_)]
  · exact ho
  · rcases h with h | ⟨x, hx, rfl⟩
    · exact hr.notOwn ho h1 h
    · obtain ⟨rc, hrc⟩ := hA.loop x hx
      rw [hrc] at ho; injection ho with ho; exact h2 rc ho.symm
theorem RdOk.amb {rr : Option Nat} {gl : Nat → Option AVal} {A : Amb} {σ σ' : List St} {ν ν' : Nu} {T : Tab} {O : Nat → Prop} {w w' : World} (h : RdOk rr w) (hr : HR gl ν T w) (hA : RecsOk ν A σ w) (hA' : RecsOk ν' A σ' w') (hf : Fr (OwnA A ν T) w O w') : RdOk rr w' := fun l hl => by
  obtain ⟨r, h1⟩ := h l hl
  by_cases hx : ∃ x ∈ A, x.1 = l
  · obtain ⟨x, hx, rfl⟩ := hx
    exact hA'.loop x hx
  · refine ⟨r, ?_⟩
    rw [hf.block l (size_of h1) (fun h => ?_)]
    · exact h1
    · rcases h with h | h
      · exact hr.notOwn h1 (fun _ _ _ h => by cases h) h
      · exact hx h
theorem MarksOk.trans2 {ms ms2 : List Deferred} {w w1 w2 : World} (h : MarksOk ms w w1) (h2 : MarksOk ms2 w1 w2) (hs : w.heap.size ≤ w1.heap.size) (hk : ∀ (b : Nat) x, w1.heap[b]? = some (.deferred x) → w2.heap[b]? = some (.deferred x)) : MarksOk (ms2 ++ ms) w w2 := by
  have lt : ∀ d ∈ ms, ∃ r, d = { target := .collected r, args := #[] } ∧ w.heap.size ≤ r ∧ r < w1.heap.size ∧ w2.heap[r]? = some (.deferred (some [])) := fun d hd => by
    obtain ⟨r, e, g1, g2⟩ := h.1 d hd
    exact ⟨r, e, g1, size_of g2, hk _ _ g2⟩
  refine ⟨fun d hd => ?_, List.nodup_append.2 ⟨h2.2, h.2, fun a ha b hb e => ?_⟩⟩
  · rcases List.mem_append.1 hd with hd | hd
    · obtain ⟨r, e, g1, g2⟩ := h2.1 d hd
      exact ⟨r, e, by omega, g2⟩
    · obtain ⟨r, e, g1, _, g2⟩ := lt d hd
      exact ⟨r, e, g1, g2⟩
  · obtain ⟨r, e1, g1, _⟩ := h2.1 a ha
    obtain ⟨r', e2, _, g2, _⟩ := lt b hb
    rw [e, e2] at e1
    injection e1 with e1; injection e1 with e1
    omega

def YPost (E : Env) (n k : Nat) (A : Amb) (post : AExit → Fm → Tab → List St → Prop) (D : List Deferred) (ν : Nu) (T : Tab) (w : World) (e : Exit) (a' : Act) (w' : World) : Prop :=
  ∃ ex fm' T' σ' ν', e = AExit.to ex ∧ post ex fm' T' σ' ∧ SRelM E D w ν' fm' T' n a' w' ∧ RecsOk ν' A σ' w' ∧ NuLeB k ν ν' ∧ Fr (OwnA A ν T) w (OwnA A ν' T') w'
/-- code that runs beside records -/
def YWp (E : Env) (n k : Nat) (A : Amb) (c : Code) (fm : Fm) (T : Tab) (σ : List St) (post : AExit → Fm → Tab → List St → Prop) : Prop :=
  ∀ (rr : Option Nat) D ν a w, SRel E D ν fm T n a w → RdOk rr w → RecsOk ν A σ w → c.wpIn (Fc rr) 0 E.P (YPost E n k A post D ν T w) a w

section
variable {E : Env} {n k : Nat} {A : Amb} {fm : Fm} {T : Tab} {σ : List St} {post : AExit → Fm → Tab → List St → Prop}
theorem YWp.mono {c : Code} {post' : AExit → Fm → Tab → List St → Prop} (h : YWp E n k A c fm T σ post) (hp : ∀ ex fm T σ, post ex fm T σ → post' ex fm T σ) : YWp E n k A c fm T σ post' :=
  fun rr D ν a w hs hrd hA => wpIn_mono (h rr D ν a w hs hrd hA) fun e a' w' ⟨ex, fm', T', σ', ν', h1, h2, h3⟩ => ⟨ex, fm', T', σ', ν', h1, hp _ _ _ _ h2, h3⟩
theorem YPost.trans {D ms : List Deferred} {ν ν1 : Nu} {w w1 : World} {T1 : Tab} {fm1 : Fm} {a1 : Act} {σ1 : List St} {e : Exit} {a' : Act} {w' : World} (h : YPost E n k A post (ms ++ D) ν1 T1 w1 e a' w') (s1 : SRel E (ms ++ D) ν1 fm1 T1 n a1 w1) (m1 : MarksOk ms w w1) (A1 : RecsOk ν1 A σ1 w1) (hm : NuLeB k ν ν1) (hf : Fr (OwnA A ν T) w (OwnA A ν1 T1) w1) : YPost E n k A post D ν T w e a' w' := by
  obtain ⟨ex, fm', T', σ', ν', h1, h2, ⟨ms2, h3, m2⟩, h6, h4, h5⟩ := h
  exact ⟨ex, fm', T', σ', ν', h1, h2, ⟨ms2 ++ ms, by rw [List.append_assoc]; exact h3, m1.trans2 m2 hf.size fun b x hb => h5.other s1.hr A1 hb (fun _ _ _ h => by cases h) (fun _ h => by cases h)⟩, h6, hm.trans h4, hf.trans h5⟩
theorem YWp.seq {x y : Code} (h : YWp E n k A x fm T σ fun ex fm' T' σ' => match ex with | .normal => YWp E n k A y fm' T' σ' post | ex => post ex fm' T' σ') : YWp E n k A (.seq x y) fm T σ post := by
  intro rr D ν a w hs hrd hA
  refine wpIn_seq (wpIn_mono (h rr D ν a w hs hrd hA) fun e a' w' ⟨ex, fm', T', σ', ν', h1, h2, h3, h6, h4, h5⟩ => ?_)
  subst h1
  cases ex with
  | normal =>
    obtain ⟨ms, h3, hm⟩ := h3
    exact wpIn_mono (h2 rr _ ν' a' w' h3 (hrd.amb hs.hr hA h6 h5) h6) fun e a2 w2 hp => hp.trans h3 hm h6 h4 h5
  | exit id => exact ⟨.exit id, fm', T', σ', ν', rfl, h2, h3, h6, h4, h5⟩
  | goto l => exact ⟨.goto l, fm', T', σ', ν', rfl, h2, h3, h6, h4, h5⟩
  | ret => exact ⟨.ret, fm', T', σ', ν', rfl, h2, h3, h6, h4, h5⟩
theorem YWp.block {id : Nat} {c : Code} (h : YWp E n k A c fm T σ fun ex fm' T' σ' => match ex with | .exit id' => if id' = id then post .normal fm' T' σ' else post (.exit id') fm' T' σ' | ex => post ex fm' T' σ') : YWp E n k A (.block id c) fm T σ post := by
  intro rr D ν a w hs hrd hA
  refine wpIn_block (wpIn_mono (h rr D ν a w hs hrd hA) fun e a' w' ⟨ex, fm', T', σ', ν', h1, h2, h3, h6, h4, h5⟩ => ?_)
  subst h1
  cases ex with
  | normal => exact ⟨.normal, fm', T', σ', ν', rfl, h2, h3, h6, h4, h5⟩
  | exit id' =>
    simp only [AExit.to, Exit.inBlock]
    simp only at h2
    split
    · rename_i e
      rw [if_pos e] at h2
      exact ⟨.normal, fm', T', σ', ν', rfl, h2, h3, h6, h4, h5⟩
    · rename_i e
      rw [if_neg e] at h2
      exact ⟨.exit id', fm', T', σ', ν', rfl, h2, h3, h6, h4, h5⟩
  | goto l => exact ⟨.goto l, fm', T', σ', ν', rfl, h2, h3, h6, h4, h5⟩
  | ret => exact ⟨.ret, fm', T', σ', ν', rfl, h2, h3, h6, h4, h5⟩
theorem YWp.cond {c : Operand} {x y : Code} {b : Bool} (hb : evOf fm c = some (.bool b)) (ht : b = true → YWp E n k A x fm T σ post) (hf : b = false → YWp E n k A y fm T σ post) : YWp E n k A (.cond c x y) fm T σ post := by
  intro rr D ν a w hs hrd hA
  have h1 := (evOf_rel hs c _ hb).bool_inv
  exact wpIn_cond_split h1 (fun e => ht e rr D ν a w hs hrd hA) (fun e => hf e rr D ν a w hs hrd hA)
theorem YWp.loop {c : Code} (I : Fm → Tab → List St → Nat → Prop) (m0 : Nat) (h0 : I fm T σ m0)
    (round : ∀ fm T σ m, I fm T σ m → YWp E n k A c fm T σ fun ex fm' T' σ' => match ex with | .normal => ∃ m', m' < m ∧ I fm' T' σ' m' | ex => post ex fm' T' σ') : YWp E n k A (.loop c) fm T σ post := by
  intro rr D ν a w hs hrd hA b kk cs hro hbb hrm
  have key : ∀ (m : Nat) (fm1 : Fm) (T1 : Tab) (σ1 : List St) (ν1 : Nu) (a1 : Act) (w1 : World) (ms : List Deferred), I fm1 T1 σ1 m → SRel E (ms ++ D) ν1 fm1 T1 n a1 w1 → MarksOk ms w w1 → RecsOk ν1 A σ1 w1 → NuLeB k ν ν1 → Fr (OwnA A ν T) w (OwnA A ν1 T1) w1 →
      ∃ e a' w', YPost E n k A post D ν T w e a' w' ∧ ArrivesIn (Machine.fenced E.P (Fc rr)) E.P (lone (b.atR a1 (.code c :: .inLoop c :: kk)) cs w1) b kk cs e a' w' := by
    intro m
    induction m using Nat.strongRecOn with
    | _ m ih =>
      intro fm1 T1 σ1 ν1 a1 w1 ms hI hs1 mk hA1 hm hf
      obtain ⟨e, a2, w2, hP, harr⟩ := round fm1 T1 σ1 m hI rr _ ν1 a1 w1 hs1 (hrd.amb hs.hr hA hA1 hf) hA1 b (.inLoop c :: kk) cs hro hbb hrm
      obtain ⟨ex, fm2, T2, σ2, ν2, h1, h2, ⟨ms2, h3, mk2⟩, h6, h4, h5⟩ := hP.trans hs1 mk hA1 hm hf
      subst h1
      cases ex with
      | normal =>
        obtain ⟨m', hlt, hI'⟩ := h2
        obtain ⟨e3, a3, w3, hp3, harr3⟩ := ih m' hlt fm2 T2 σ2 ν2 a2 w2 ms2 hI' h3 mk2 h6 h4 h5
        exact ⟨e3, a3, w3, hp3, .of_steps (StepsIn.trans harr (.one (fenced_calm hbb hrm rfl) stepR_inLoop)) harr3⟩
      | exit id => exact ⟨_, a2, w2, ⟨.exit id, fm2, T2, σ2, ν2, rfl, h2, ⟨ms2, h3, mk2⟩, h6, h4, h5⟩, .pass (x := .inLoop c) rfl (fun _ _ => .inl (by simp [AExit.to])) harr⟩
      | goto l => exact ⟨_, a2, w2, ⟨.goto l, fm2, T2, σ2, ν2, rfl, h2, ⟨ms2, h3, mk2⟩, h6, h4, h5⟩, .pass (x := .inLoop c) rfl (fun _ _ => .inl (by simp [AExit.to])) harr⟩
      | ret => exact ⟨_, a2, w2, ⟨.ret, fm2, T2, σ2, ν2, rfl, h2, ⟨ms2, h3, mk2⟩, h6, h4, h5⟩, .pass (x := .inLoop c) rfl (fun _ _ => .inl (by simp [AExit.to])) harr⟩
  obtain ⟨e, a', w', hp, harr⟩ := key m0 fm T σ ν a w [] h0 hs (MarksOk.nil _ _) hA (NuLeB.refl _ _) (Fr.refl _ _)
  exact ⟨e, a', w', hp, .of_steps (.one (fenced_calm hbb hrm rfl) stepR_loop) harr⟩
end
end Go.Abs

set_option linter.unusedVariables false
set_option linter.unusedSimpArgs false
namespace Go.Abs
theorem Oper.wpIn_mono2 {F : Fence} {n : Nat} {P : Program} {o : Oper} {a : Act} {w : World} {K K' : Act → World → Prop} {Q Q' : Exit → Act → World → Prop} (hk : ∀ a w, K a w → K' a w) (hq : ∀ ch a w, Q (.panic ch) a w → Q' (.panic ch) a w) (ho : ∀ a w, Q .outgrown a w → Q' .outgrown a w)
    (h : o.wpIn F n P a w K Q) : o.wpIn F n P a w K' Q' := by
  have hl : LetsOut Q → LetsOut Q' := fun ⟨a, w, h⟩ => ⟨a, w, ho a w h⟩
  unfold Oper.wpIn at *
  refine ⟨h.1, ?_⟩
  have h := h.2
  generalize (o.semAt F.round a.eval).run P w = r at *
  cases r with
  | ok nx w' =>
    cases nx with
    | value v => exact hk _ _ h
    | skip => exact hk _ _ h
    | defer d => exact hk _ _ h
    | enter f args =>
      refine ⟨h.1, h.2.mono fun e w2 he => ?_⟩
      cases e with
      | returned v => exact hk _ _ he
      | panicked ch => exact hq _ _ _ he
      | outgrown => exact hl he
    | row row args => exact ⟨h.1, h.2.mono fun v w2 he => hk _ _ he⟩
    | round l f tm s b =>
      refine ⟨h.1, h.2.mono fun e w2 he => ?_⟩
      cases e with
      | returned v => exact hk _ _ he
      | panicked ch => exact hq _ _ _ he
      | outgrown => exact hl he
    | _ => exact h.elim
  | halt t w' =>
    cases t with
    | panic v => exact hq _ _ _ h
    | _ => exact h.elim
/-- what follows in a list of operations -/
def thenQ (K : Act → World → Prop) (Q : Exit → Act → World → Prop) : Exit → Act → World → Prop
  | .normal, a, w => K a w
  | e, a, w => Q e a w
theorem wpListIn_app {F : Fence} {n : Nat} {P : Program} {ops : Array Oper} {Q : Exit → Act → World → Prop} {l2 : List Oper} : ∀ (l1 : List Oper) (a : Act) (w : World), wpListIn F n P ops (thenQ (wpListIn F n P ops Q l2) Q) l1 a w → wpListIn F n P ops Q (l1 ++ l2) a w
  | [], a, w, h => h
  | o :: r, a, w, h => by
    show wpListIn F n P ops Q (o :: (r ++ l2)) a w
    unfold wpListIn at h ⊢
    split at h
    · rename_i hw
      rw [if_pos hw]
      exact Oper.wpIn_mono2 (fun a w h => wpListIn_app r a w h) (fun _ _ _ h => h) (fun _ _ h => h) h
    · rename_i hw
      rw [if_neg hw]
      exact ⟨h.1, wpListIn_app r _ _ h.2⟩
theorem putObj_self {w : World} {l : Nat} {o o' : Obj} (h : w.heap[l]? = some o) : (w.putObj l o').heap[l]? = some o' := by
  simp only [World.putObj]
  rw [Array.getElem?_setIfInBounds_self_of_lt (size_of h)]
theorem putObj_ne {w : World} {l b : Nat} {o' : Obj} (h : l ≠ b) : (w.putObj l o').heap[b]? = w.heap[b]? := by
  simp only [World.putObj]
  rw [Array.getElem?_setIfInBounds_ne h]
theorem RecsOk.same {ν : Nu} {w w' : World} : ∀ {A : Amb} {σ : List St}, RecsOk ν A σ w → (∀ x ∈ A, w'.heap[x.1]? = w.heap[x.1]?) → RecsOk ν A σ w'
  | [], [], _, _ => trivial
  | [], _ :: _, h, _ => h.elim
  | _ :: _, [], h, _ => h.elim
  | (l, H) :: A, st :: σ, ⟨⟨rc, h1, h1'⟩, h2, h3⟩, hw => ⟨⟨rc, by rw [hw _ (.head _)]; exact h1, h1'⟩, RecsOk.same h2 (fun x hx => hw x (.tail _ hx)), h3⟩
/-- a record is written -/
theorem RecsOk.put {ν : Nu} {w : World} : ∀ {A : Amb} {σ : List St}, RecsOk ν A σ w → ∀ {i l : Nat} {H : Host}, A[i]? = some (l, H) → ∀ {st : St}, σ[i]? = some st →
    ∃ rc : Loop, w.heap[l]? = some (.loop rc) ∧ rc.state = st.1 ∧ rc.pending = st.2 ∧ rc.params = H.ps ∧ rc.assign = H.assign ∧ rc.body = H.body ∧ H.n ≤ rc.tmps.size ∧ (∀ t v, look H.fm t = some v → VR ν v (rc.tmps.getD t undef)) ∧
      ∀ (s : LoopState) (pd : Option Code), RecsOk ν A (σ.set i (s, pd)) (w.putObj l (.loop { rc with state := s, pending := pd }))
  | (l0, H0) :: A, st0 :: σ, ⟨h1, h2, h3⟩, 0, l, H, hi, st, hs => by
    simp at hi hs
    obtain ⟨rfl, rfl⟩ := hi
    subst hs
    obtain ⟨rc, g1, g2, g3, g4, g5, g6, g7, g8⟩ := h1
    exact ⟨rc, g1, g2, g3, g4, g5, g6, g7, g8, fun s pd => ⟨⟨{ rc with state := s, pending := pd }, putObj_self g1, rfl, rfl, g4, g5, g6, g7, g8⟩, h2.same fun x hx => putObj_ne (Ne.symm (h3 x hx)), h3⟩⟩
  | (l0, H0) :: A, st0 :: σ, ⟨h1, h2, h3⟩, i + 1, l, H, hi, st, hs => by
    obtain ⟨rc, g1, g2, g3, g4, g5, g6, g7, g8, g9⟩ := h2.put (i := i) (by simpa using hi) (by simpa using hs)
    have hmem : (l, H) ∈ A := List.mem_of_getElem? (i := i) (by simpa using hi)
    refine ⟨rc, g1, g2, g3, g4, g5, g6, g7, g8, fun s pd => ⟨?_, g9 s pd, h3⟩⟩
    obtain ⟨r0, k1, k2⟩ := h1
    exact ⟨r0, by rw [putObj_ne (h3 _ hmem)]; exact k1, k2⟩
section
variable {E : Env} {n k : Nat} {A : Amb} {fm : Fm} {T : Tab} {σ : List St} {post : AExit → Fm → Tab → List St → Prop}
end
end Go.Abs

set_option linter.unusedVariables false
set_option linter.unusedSimpArgs false
namespace Go.Abs
/-- blocks were laid at the end; nothing else -/
structure Gr (w w' : World) : Prop where
  os : w'.os = w.os
  tape : w'.tape = w.tape
  output : w'.output = w.output
  size : w.heap.size ≤ w'.heap.size
  low : ∀ b : Nat, b < w.heap.size → w'.heap[b]? = w.heap[b]?
theorem Gr.alloc (w : World) (o : Obj) : Gr w (w.alloc o) :=
  ⟨rfl, rfl, rfl, by simp, fun b hb => by
    simp only [World.alloc]
    rw [Array.getElem?_push, if_neg (by omega)]⟩
theorem Gr.trans {a b c : World} (h : Gr a b) (k : Gr b c) : Gr a c :=
  ⟨k.os.trans h.os, k.tape.trans h.tape, k.output.trans h.output, Nat.le_trans h.size k.size, fun x hx => (k.low x (Nat.lt_of_lt_of_le hx h.size)).trans (h.low x hx)⟩
theorem Gr.fr {A : Amb} {ν : Nu} {T : Tab} {w w' : World} (h : Gr w w') : Fr (OwnA A ν T) w (OwnA A ν T) w' := ⟨h.os, h.tape, h.output, h.size, fun b hb _ => h.low b hb, fun b hb => .inl hb⟩
section
variable {E : Env} {n k : Nat} {A : Amb} {fm : Fm} {T : Tab} {σ : List St} {post : AExit → Fm → Tab → List St → Prop}
end
end Go.Abs

set_option linter.unusedVariables false
set_option linter.unusedSimpArgs false
namespace Go.Abs
/-! ## a function's contract from its body's walk; bytes of whatever kind -/
theorem small_of_awp {E : Env} (hE : EnvOk E) {f : FuncId} {fn : Func} {c : Code} (hf : E.P.funcs[f]? = some fn) (hb : fn.body = some c) {args : List AVal} {T0 : Tab} {v : AVal} {T1 : Tab} (hle : Nat.ble args.length fn.ntmps = true)
    (h : AWp E fn.ntmps T0.length c (argF args 0) T0 fun ex fm T => (ex = .normal ∨ ex = .ret) ∧ T = T1 ∧ ∃ cs us, aRes E fm T fn.results.toList = some (cs, us) ∧ allP cs ∧ retV us = v) : Small E.P E.gl f args T0 v T1 := by
  intro ν w vs hr hv
  refine callsIn_wide.1 (callsIn_of_wp_marks (F := Fence.wide) (n := 0) hf hb trivial ?_)
  have hs : SRel E [] ν (argF args 0) T0 fn.ntmps { tmps := vs ++ Array.replicate (fn.ntmps - vs.size) undef, defers := [] } w := by
    refine ⟨hr, fun t v hl => ?_, by simp; omega, rfl⟩
    obtain ⟨h1, h2, h3⟩ := argF_look hv hl
    simp only [Nat.sub_zero] at h2 h3
    have : (vs ++ Array.replicate (fn.ntmps - vs.size) undef).getD t undef = vs.toList.getD t undef := by
      have h2' : t < vs.size := by simpa using h2
      simp [Array.getElem?_append_left h2', List.getD]
    rw [this]; exact h3
  refine wpIn_mono (h none [] ν _ w hs (fun l h => by cases h)) fun e a' w' hP => ?_
  obtain ⟨ex, fm', T', ν', e1, ⟨hex, hT, cs2, us, h2, h3, hu⟩, ⟨ms, s', mk⟩, n', f'⟩ := hP
  subst e1 hT hu
  have post : LeavesInM Fence.wide 0 E.P fn a'.tmps (fun e w' => ∃ x ν', e = .returned x ∧ VR ν' (retV us) x ∧ HR E.gl ν' T' w' ∧ NuLeB T0.length ν ν' ∧ Fr (Own ν T0) w (Own ν' T') w') a'.defers .returning w' := by
    have hd : a'.defers = ms := by rw [s'.defers, List.append_nil]
    rw [hd]
    refine leaves_marks ms w' mk.1 mk.2 (Sh.refl w.heap.size w') fun w2 hsh => ?_
    have s2 : SRel E (ms ++ []) ν' fm' T' fn.ntmps a' w2 := ⟨s'.hr.sh hsh, s'.fm, s'.size, s'.defers⟩
    obtain ⟨xs, g1, g2⟩ := aRes_sound hE s2 h2 h3
    have hres : (results fn a'.tmps).run E.P w2 = .ok (if h : xs.toArray.size = 1 then xs.toArray[0] else .tuple xs.toArray) w2 := by
      have : (fn.results.mapM (resF a'.tmps)).run E.P w2 = .ok xs.toArray w2 := by
        rw [Array.mapM_eq_mapM_toList]
        simp [g1]
      unfold results
      rw [Sem.run_bind]
      refine (congrArg (fun r => Result.andThen r _) ((congrArg (fun g => Sem.run E.P (Array.mapM g fn.results) w2) (funext fun x => ?_)).trans this)).trans rfl
      cases x <;> rfl
    exact ⟨_, hres, _, ν', rfl, retV_VR g2, s2.hr, n', f'.sh rfl hsh⟩
  rcases hex with rfl | rfl
  · exact post
  · exact post

section
variable {E : Env} {n k : Nat} {fm : Fm} {T : Tab} {post : AExit → Fm → Tab → Prop}
end
end Go.Abs

set_option linter.unusedVariables false
namespace Go.Abs
/-! ## a chain of codes -/
def chn : List Code → Code → Code
  | [], r => r
  | c :: l, r => .seq c (chn l r)
def runs (E : Env) (n : Nat) (orc : Orc) (f : Nat) : List Code → Fm → Tab → List (Option Bool) → Out
  | [], fm, T, ds => ⟨[], .normal, fm, T, ds⟩
  | c :: l, fm, T, ds => seqO (run E n orc f c fm T ds) (runs E n orc f l)
theorem AWp.chn {E : Env} (hE : EnvOk E) (hm : E.P.follows .mixedOrders = true) {n k : Nat} {orc : Orc} (hk : k ≤ orc.kb) {f : Nat} {post : AExit → Fm → Tab → Prop} {rest : Code} : ∀ {cs : List Code}, (∀ c ∈ cs, OrcOk E n orc c) → ∀ {fm : Fm} {T : Tab} {ds : List (Option Bool)} {o : Out}, runs E n orc f cs fm T ds = o → allP o.cs → o.ex = .normal → AWp E n k rest o.fm o.tab post → AWp E n k (Abs.chn cs rest) fm T post
  | [], _, fm, T, ds, o, ho, hc, hx, h => by subst ho; exact h
  | c :: l, hO, fm, T, ds, o, ho, hc, hx, h => by
    refine AWp.seq ?_
    simp only [runs] at ho
    have hrun := fun hh => (run_sound hE hm hk (hO c (.head _)) f (c := c) (fun _ _ h => h) (fm := fm) (T := T) (ds := ds) hh).1
    generalize run E n orc f c fm T ds = o1 at ho hrun
    obtain ⟨cs1, ex1, fm1, T1, ds1⟩ := o1
    cases ex1 with
    | normal =>
      simp only [seqO] at ho
      generalize hr : runs E n orc f l fm1 T1 ds1 = o2 at ho
      obtain ⟨cs2, ex2, fm2, T2, ds2⟩ := o2
      subst ho
      simp only at hc hx h
      rw [allP_append] at hc
      refine AWp.mono (hrun hc.1) fun ex fm' T' hP => ?_
      obtain ⟨e1, e2, e3⟩ := hP
      subst e1 e2 e3
      exact AWp.chn hE hm hk (fun c hc => hO c (.tail _ hc)) hr hc.2 hx h
    | exit id => subst ho; cases hx
    | goto l => subst ho; cases hx
    | ret => subst ho; cases hx
def frontC : Nat → Code → List Code
  | n + 1, .seq a b => a :: frontC n b
  | _, _ => []
def backC : Nat → Code → Code
  | n + 1, .seq a b => backC n b
  | _, c => c
theorem chn_split : ∀ (n : Nat) (c : Code), chn (frontC n c) (backC n c) = c
  | 0, c => by cases c <;> rfl
  | n + 1, c => by
    cases c with
    | seq a b => simp only [frontC, backC, chn, chn_split n b]
    | _ => rfl
theorem AWp.cut {E : Env} (hE : EnvOk E) (hm : E.P.follows .mixedOrders = true) {n k : Nat} {f : Nat} {post : AExit → Fm → Tab → Prop} {c : Code} (j : Nat) {fm : Fm} {T : Tab} {ds : List (Option Bool)} {o : Out} (ho : runs E n ⟨k, []⟩ f (frontC j c) fm T ds = o) (hc : Ok o) (hx : o.ex = .normal) (h : AWp E n k (backC j c) o.fm o.tab post) : AWp E n k c fm T post := by
  have := AWp.chn hE hm (orc := ⟨k, []⟩) (Nat.le_refl k) (cs := frontC j c) (fun c _ => OrcOk.nil) ho hc.h hx h
  rwa [chn_split] at this
end Go.Abs

set_option linter.unusedVariables false
set_option linter.unusedSimpArgs false
namespace Go.Abs
/-! ## A region that draws its order and ends in a call of yield -/
section
variable {c : Cfg} {vals : Fm} {ν0 : Nu} {T0 : Tab} {w0 : World} {D : List Deferred} {rr : Option Nat} {Q : Exit → Act → World → Prop}
structure Front (full : List Oper) (c : Cfg) (oy : Oper) (l2 : List Oper) : Prop where
  eq : full = c.ops ++ oy :: l2
  g : ∀ o ∈ c.ops, o.guard = none
  b : ∀ j, j < c.ops.length → bit (maskOf c.anc oy.after.toList) j = true
  e : ∀ e ∈ oy.after.toList, bindsB e = true → e.on < c.ops.length
  a : ∀ o ∈ l2, ∃ e ∈ o.after.toList, bindsB e = true ∧ c.ops.length ≤ e.on
theorem Front.lt {full : List Oper} {oy : Oper} {l2 : List Oper} (F : Front full c oy l2) {i : Nat} (h : i < c.ops.length) : full.toArray[i]? = c.ops[i]? := by
  rw [F.eq]; simp [List.getElem?_append_left h]
theorem Front.at {full : List Oper} {oy : Oper} {l2 : List Oper} (F : Front full c oy l2) : full.toArray[c.ops.length]? = some oy := by
  rw [F.eq]; simp
theorem Front.len {full : List Oper} {oy : Oper} {l2 : List Oper} (F : Front full c oy l2) : full.length = c.ops.length + (l2.length + 1) := by
  rw [F.eq]; simp
/-- nothing behind the front is ready before all of the front is listed -/
theorem Front.ready {full : List Oper} {oy : Oper} {l2 : List Oper} (F : Front full c oy l2) (g : Geo c) (hanc : c.anc = ancsGo c.ops []) {L Lf : Array Bool} (hfr : ∀ i, i < c.ops.length → (ls L i ↔ ls Lf i)) (hno : ∀ i, c.ops.length ≤ i → ¬ ls L i)
    (hcl : ∀ (i : Nat) (o : Oper), c.ops[i]? = some o → ls Lf i → ∀ e ∈ o.after.toList, bindsB e = true → ls Lf e.on) (hlf : ∀ i, ls Lf i → i < c.ops.length) {i : Nat} (hi : i ∈ Region.ready .any full.toArray L) (hge : c.ops.length ≤ i) : i = c.ops.length ∧ ∀ j, j < c.ops.length → ls Lf j := by
  obtain ⟨h1, o, h2, h3⟩ := mem_ready.1 hi
  have h2' : full[i]? = some o := by simpa using h2
  rw [F.eq, List.getElem?_append_right hge] at h2'
  have back : ∀ e ∈ o.after.toList, bindsB e = true → ls L e.on := fun e he hb => h3 e (by simpa using he) (by rw [bindsB_eq]; exact hb)
  cases hk : i - c.ops.length with
  | zero =>
    rw [hk] at h2'
    simp at h2'
    subst h2'
    refine ⟨by omega, fun j hj => ?_⟩
    have hb := F.b j hj
    obtain ⟨e, e1, e2, e3⟩ := maskOf_bit hb
    have hlt := F.e e e1 e2
    have hs := (hfr e.on hlt).1 (back e e1 e2)
    rcases e3 with rfl | e3
    · exact hs
    · have e4 : bit (c.an e.on) j = true := by
        unfold Cfg.an; rw [nthN_eq]; exact e3
      exact g.down (S := ls Lf) hcl e.on hs j e4
  | succ k =>
    rw [hk] at h2'
    simp at h2'
    obtain ⟨e, e1, e2, e3⟩ := F.a o (List.mem_of_getElem? h2')
    exact absurd (back e e1 e2) (hno e.on e3)
end
end Go.Abs

set_option linter.unusedVariables false
set_option linter.unusedSimpArgs false
namespace Go.Abs
section
variable {E : Env} {n k : Nat} {A : Amb} {fm : Fm} {T : Tab} {σ : List St} {post : AExit → Fm → Tab → List St → Prop}
end
end Go.Abs

set_option linter.unusedVariables false
set_option linter.unusedSimpArgs false
namespace Go.Abs
section
variable {E : Env} {n k : Nat} {fm : Fm} {T : Tab} {post : AExit → Fm → Tab → Prop}
theorem run_eqNil {P : Program} {w : World} {t e : TypeId} (hd : P.underlying t = some (.slice e)) (ao : Option Addr) (len c : Nat) (h0 : ao = none → len = 0 ∧ c = 0) (x y : Operand) :
    ∃ b : Bool, (eqGuard .eql t x y (.slice ao len c) (.slice none 0 0)).run P w = .ok () w ∧ (binOp .eql t (.slice ao len c) (.slice none 0 0)).run P w = .ok (.bool b) w := by
  cases ao with
  | none =>
    obtain ⟨rfl, rfl⟩ := h0 rfl
    have he : ∀ d, (Op.equalIn (d + 1) t (.slice none 0 0) (.slice none 0 0)).run P w = .ok true w := fun d => by simp [Op.equalIn, run_underlying hd]
    exact ⟨true, by rw [eqGuard_at_slice]; rfl, by simp only [binOp]; simp [Op.equal, Op.maxDepth, he 9999]⟩
  | some b =>
    have he : ∀ d, (Op.equalIn (d + 1) t (.slice (some b) len c) (.slice none 0 0)).run P w = .ok false w := fun d => by simp [Op.equalIn, run_underlying hd]
    exact ⟨false, by rw [eqGuard_at_slice]; rfl, by simp only [binOp]; simp [Op.equal, Op.maxDepth, he 9999]⟩
/-- a region whose last operation holds a slice against nil, of which it is not known whether it is nothing -/
theorem AWp.eqNil (hE : EnvOk E) {id : Nat} {opsA : Array Oper} {l1 : List Oper} {oy : Oper} (hsp : opsA.toList = l1 ++ [oy]) {ds1 : List (Option Bool)} {o1 : Out}
    (ho1 : runOps E opsA.toList n l1 fm (T ++ holes (cntA E l1)) T.length ds1 = o1) (hc1 : Ok o1)
    {x y : Operand} {t : Nat} {ty e yt : TypeId} (hop : oy.op = .binOp .eql ty x y yt) (hg : oy.guard = none) (hdst : oy.dst = some t) (htn : t < n) (hd : E.P.underlying ty = some (.slice e))
    {sz p g off len : Nat} {cap : Option Nat} {o : AObj} (hx : evOf o1.fm x = some (.slice sz p g off len cap)) (hy : evOf o1.fm y = some .nilSlice) (ho : nth o1.tab p = some o) (hgo : g = o.g)
    (rest : ∀ b : Bool, post .normal ((t, .bool b) :: o1.fm) o1.tab) : AWp E n k (.region id opsA false) fm T post := by
  intro rr D ν a w hs hrd
  refine wpIn_region_list ?_
  rw [hsp]
  refine wpListIn_app l1 a w ?_
  obtain ⟨g1, g2, g3⟩ := Holes_holes hs.hr (cntA E l1)
  rw [← show opsA.toList.toArray = opsA by simp]
  refine runOps_sound hE l1 ⟨g1, hs.fm, hs.size, hs.defers⟩ g3 (by rw [ho1]; exact hc1.h) fun ν1 a1 w1 s1 n1 f1 => ?_
  rw [ho1] at s1 f1
  have f1' : Fr (Own ν T) w (Own ν1 o1.tab) w1 := ⟨f1.os, f1.tape, f1.output, f1.size, fun b hb ho => f1.block b hb (fun h => ho (g2 b h)), fun b hb => (f1.own b hb).imp (g2 b) (fun h => h)⟩
  show wpListIn _ _ _ _ _ [oy] a1 w1
  unfold wpListIn
  rw [if_pos (by simp [Region.wanted, hg])]
  refine ⟨fun _ _ => trivial, ?_⟩
  have hsem : oy.semAt (Fc rr).round a1.eval = execOp a1.eval oy := by
    cases rr with
    | none => exact Oper.semAt_none _ _
    | some l => exact Oper.semAt_some l _ _ (fun c h => by rw [hop] at h; cases h)
  have hxe := evOf_rel s1 x _ hx
  have hye := evOf_rel s1 y _ hy
  have hyv : a1.eval y = .slice none 0 0 := hye.nilSlice_inv
  obtain ⟨ao, len', c', hxv, h0⟩ : ∃ ao len' c', a1.eval x = .slice ao len' c' ∧ (ao = none → len' = 0 ∧ c' = 0) := by
    rcases hxe.slice_inv s1.hr ho hgo with ⟨l, b, c, hl, hv, hsl⟩ | ⟨bo, l, rfl, hv, hl, hz'⟩
    · exact ⟨some b, _, c, hv, fun h => by cases h⟩
    · exact ⟨bo, 0, 0, hv, fun _ => ⟨rfl, rfl⟩⟩
  obtain ⟨b, e1, e2⟩ := run_eqNil (P := E.P) (w := w1) hd ao len' c' h0 x y
  have hrun : (oy.semAt (Fc rr).round a1.eval).run E.P w1 = .ok (.value (.bool b)) w1 := by
    rw [hsem]
    simp only [execOp, hop, hxv, hyv, Sem.run_bind, e1, e2, Result.andThen_ok, Sem.run_pure]
  rw [hrun]
  show wpListIn (Fc rr) 0 E.P opsA.toList.toArray (Post E n k post D ν T w) [] _ _
  unfold wpListIn
  have s2 : SRel E D ν1 ((t, .bool b) :: o1.fm) o1.tab n (a1.put oy.dst (.bool b)) w1 := by
    have := s1.put (d := oy.dst) (NuLe.refl ν1) s1.hr (by rw [hdst]; simpa [dstOk] using htn) (.bool b)
    rw [hdst] at this ⊢
    exact this
  exact ⟨.normal, _, _, ν1, rfl, rest b, s2.m, n1.b k, f1'⟩
end
end Go.Abs

set_option linter.unusedVariables false
set_option linter.unusedSimpArgs false
namespace Go.Abs
open Go.RowKit Go.WideShapes Go.ChangeShapes Go.ChangeAt
/-! ## Rows of laws: a struct of four slices of bytes -/
section
variable {H : Type} {enc : TypeId × Value → H} {P : Program}
end
end Go.Abs

set_option linter.unusedVariables false
set_option linter.unusedSimpArgs false
namespace Go.Abs
open Go.RowKit Go.WideShapes Go.ChangeShapes Go.ChangeAt
/-! ## Rows of laws: a slice of structs of two numbers -/
section
variable {H : Type} {enc : TypeId × Value → H} {P : Program}
def cellI (W : World) (a : Addr) (j : Nat) : Int := match W.cell? (a.add j) with | some (.int _ n) => n | _ => 0
theorem pair_cells {e : TypeId} {f0 f1 : Field} (he : P.underlying e = some (.struct #[f0, f1])) (h0 : P.underlying f0.type = some (.int .i64)) (h1 : P.underlying f1.type = some (.int .i64)) (o0 : f0.offset = 0) (o1 : f1.offset = 1) (c0 : P.cellsOf f0.type = 1) (c1 : P.cellsOf f1.type = 1) (hc : P.cellsOf e = 2)
    {W : World} {n : Nat} {a : Addr} {y : DataW H × List MemPlace} (h : (W.cells? 0 a (P.cellsOf e)).bind (DataW.trod enc P W 0 (fun _ => true) true n e) = some y) :
    ∀ j, j < 2 → W.cell? (a.add j) = some (.int .i64 (cellI W a j)) := by
  rw [Option.bind_eq_some_iff] at h
  obtain ⟨cs, hcs, hy⟩ := h
  obtain ⟨y0, y1, m, _, hl, t0, t1⟩ := trod_struct2 he hy
  rw [hc] at hl
  rw [c0, o0] at t0
  rw [c1, o1] at t1
  obtain ⟨x0, e0, _, _⟩ := DataW.trod_int h0 t0
  obtain ⟨x1, e1, _, _⟩ := DataW.trod_int h1 t1
  obtain ⟨_, hcell⟩ := World.cells?_some hcs
  match cs, hl with
  | [u0, u1], _ =>
    simp at e0 e1
    subst e0 e1
    intro j hj
    have k0 := hcell.2 0 (by rw [hc]; omega)
    have k1 := hcell.2 1 (by rw [hc]; omega)
    simp only [List.getElem?_cons_zero, List.getElem?_cons_succ] at k0 k1
    match j, hj with
    | 0, _ => unfold cellI; rw [k0]
    | 1, _ => unfold cellI; rw [k1]
theorem arg_ops {t e : TypeId} {f0 f1 : Field} (ht : P.underlying t = some (.slice e)) (he : P.underlying e = some (.struct #[f0, f1])) (h0 : P.underlying f0.type = some (.int .i64)) (h1 : P.underlying f1.type = some (.int .i64)) (o0 : f0.offset = 0) (o1 : f1.offset = 1) (c0 : P.cellsOf f0.type = 1) (c1 : P.cellsOf f1.type = 1) (hc : P.cellsOf e = 2) (hby : P.bytesOf e = 16)
    {W : World} {base : Nat} {v : Value} {d : DataW H} {ps : List MemPlace} (hval : Value.okWide P W .any base t v) (hT : DataW.Trod enc P W 0 (fun _ => true) true t v d ps) (hsz : ∀ elems spare, d = .slice elems spare → (elems.length + spare.length) * P.bytesOf e ≤ reachBytes) :
    ∃ (xs : List Int) (n k : Nat) (l : Loc), n * 2 ≤ xs.length ∧ n ≤ 140737488355000 ∧ l.g = 0 ∧ l.room = xs.length ∧ (0 < l.room → l.a.block < W.heap.size) ∧
      (∀ i, i < xs.length → W.cell? (l.a.add i) = some (.int .i64 (xs.getD i 0))) ∧ (∀ (ν : Nu) (p : Nat), ν p = some l → VR ν (.slice 2 p 0 0 n (some k)) v) := by
  obtain ⟨a1, len, cap, rfl⟩ := okWide_slice ht hval
  obtain ⟨fuel, hf⟩ := hT
  rcases DataW.trod_slice ht hf with ⟨hcs, hx⟩ | ⟨a, len', cap', elems, rest, n, _, hcs, hx, _, hl, hm, hlen, hel, hsp, _⟩
  · simp [Value.cells] at hcs
    obtain ⟨rfl, rfl, rfl⟩ := hcs
    exact ⟨[], 0, 0, ⟨⟨0, 0, none⟩, 0, 0⟩, Nat.le_refl _, Nat.zero_le _, rfl, rfl, fun h => (by cases h), fun i hi => (by simp at hi), fun ν p hp => .sliceZ none hp rfl (.inl rfl)⟩
  · simp [Value.cells] at hcs
    obtain ⟨rfl, rfl, rfl⟩ := hcs
    simp only [Prod.mk.injEq] at hx
    obtain ⟨rfl, rfl⟩ := hx
    have hs := hsz _ _ rfl
    obtain ⟨hr, hre⟩ := hsp rfl
    rw [hby, List.length_map, List.length_map, hlen, hr] at hs
    have hs2 : cap * 16 ≤ 140737488355328 := by
      have : len + (cap - len) = cap := by omega
      rw [this] at hs
      unfold reachBytes at hs
      omega
    have hpair : ∀ i, i < cap → ∀ j, j < 2 → W.cell? (a.add (i * 2 + j)) = some (.int .i64 (cellI W a (i * 2 + j))) := by
      intro i hi j hj
      have key : ∃ y, (W.cells? 0 (a.add (i * P.cellsOf e)) (P.cellsOf e)).bind (DataW.trod enc P W 0 (fun _ => true) true n e) = some y := by
        by_cases h : i < len
        · rw [hel i h]
          exact ⟨_, List.getElem?_eq_getElem (by omega)⟩
        · have := hre (i - len) (by omega)
          rw [show len + (i - len) = i by omega] at this
          rw [this]
          exact ⟨_, List.getElem?_eq_getElem (by omega)⟩
      obtain ⟨y, hy⟩ := key
      have := pair_cells he h0 h1 o0 o1 c0 c1 hc hy j hj
      unfold cellI at this
      rw [add_add, hc] at this
      exact this
    have hall : ∀ i, i < cap * 2 → W.cell? (a.add i) = some (.int .i64 (cellI W a i)) := by
      intro i hi
      have := hpair (i / 2) (by omega) (i % 2) (by omega)
      rwa [show i / 2 * 2 + i % 2 = i by omega] at this
    have hlx : ((List.range (cap * 2)).map (cellI W a)).length = cap * 2 := by simp
    refine ⟨(List.range (cap * 2)).map (cellI W a), len, cap, ⟨a, 0, cap * 2⟩, by rw [hlx]; omega, by omega, rfl, by rw [hlx], fun h0 => ?_, fun i hi => ?_, fun ν p hp => ?_⟩
    · have h1 := hall 0 h0
      unfold World.cell? at h1
      rcases Nat.lt_or_ge a.block W.heap.size with h | h
      · exact h
      · have hb : (a.add 0).block = a.block := block_add a 0
        rw [hb, Array.getElem?_eq_none h] at h1
        cases h1
    · rw [hlx] at hi
      rw [hall i hi]
      simp [List.getD, List.getElem?_map, List.getElem?_range hi]
    · refine .slice hp rfl ⟨hl, fun k hk => by injection hk, ?_, by simp, fun h => (by cases h)⟩
      simp [Addr.add]
theorem ints_obj {W : World} {k : IntKind} {zs : List Int} {l : Loc} {ν : Nu} (hcell : ∀ i, i < zs.length → W.cell? (l.a.add i) = some (.int k (zs.getD i 0))) : ∀ i, i < (AVal.ints k zs).len → ∃ x, W.cell? (l.a.add i) = some x ∧ VR ν ((AVal.ints k zs).get i) x :=
  fun i hi => ⟨_, hcell i hi, .int _ _⟩
end
end Go.Abs
