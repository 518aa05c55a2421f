/- An abstract machine over small tables of objects, and its soundness over the given model: no condition. -/
import Derived.Test.YtkbfjfookfmobaaDoorAbs1
import Derived.Below
import Derived.ChangeSame
import Derived.SizedLaws
import Derived.WideKeyArgs
import Derived.OpenShut
import Derived.ChangeSlices
import Derived.WalkKit
import Derived.ProofKit
import Derived.Deep.DeepHandedRow
import Derived.Lib.LaidTab
set_option linter.unusedVariables false
set_option linter.unusedSimpArgs false
namespace Go.Abs

/-! ## Words for proofs: nothing here unfolds by itself -/
structure Ok (o : Out) : Prop where h : allP o.cs
structure OkR (r : Res) : Prop where h : allP r.cs
def To (E : Env) (n k : Nat) (c : Code) (fm : Fm) (T : Tab) (ex : AExit) (fm' : Fm) (T' : Tab) : Prop := AWp E n k c fm T fun e f t => e = ex ∧ f = fm' ∧ t = T'

theorem Ok.of {o : Out} {cs : List Con} (e : o.cs = cs) (h : allP cs) : Ok o := ⟨e ▸ h⟩
theorem OkR.of {o : Res} {cs : List Con} (e : o.cs = cs) (h : allP cs) : OkR o := ⟨e ▸ h⟩
theorem To.is {E : Env} {n k : Nat} {c : Code} {fm : Fm} {T : Tab} {o : Out} (h : To E n k c fm T o.ex o.fm o.tab) : AWp E n k c fm T (Is o) := h
theorem To.of {E : Env} (hE : EnvOk E) (hm : E.P.follows .mixedOrders = true) {n k m : Nat} {orc : Orc} (hk : k ≤ orc.kb) {c : Code} (hO : OrcOk E n orc c) {f : Nat} {fm : Fm} {T : Tab} {ds : List (Option Bool)} {slots : List Nat} {o : Out}
    (ho : trim k m slots (run E n orc f c fm T ds) = o) (h : Ok o) {ex : AExit} {fm' : Fm} {T' : Tab} (e1 : o.ex = ex) (e2 : o.fm = fm') (e3 : o.tab = T') : To E n k c fm T ex fm' T' := by
  subst e1 e2 e3
  exact run_trim' hE hm m orc hk hO f ds slots ho h.h
theorem To.base {E : Env} {n k kb : Nat} {c : Code} {fm : Fm} {T : Tab} {ex : AExit} {fm' : Fm} {T' : Tab} (hk : k ≤ kb) (h : To E n kb c fm T ex fm' T') : To E n k c fm T ex fm' T' := AWp.base hk h

/-- a counted loop in its block, and out of it -/
theorem To.rounds {E : Env} {n k : Nat} {id : Nat} {c : Code} (F : Nat → Fm) (T : Nat → Tab) (N : Nat) {fm' : Fm} {T' : Tab}
    (round : ∀ i, i < N → To E n k c (F i) (T i) .normal (F (i + 1)) (T (i + 1))) (last : To E n k c (F N) (T N) (.exit id) fm' T') : To E n k (.block id (.loop c)) (F 0) (T 0) .normal fm' T' := by
  refine AWp.block ?_
  refine AWp.loop (fun fm T' m => ∃ i, i ≤ N ∧ m = N - i ∧ fm = F i ∧ T' = T i) N ⟨0, Nat.zero_le _, rfl, rfl, rfl⟩ ?_
  rintro fm T1 m ⟨i, hi, rfl, rfl, rfl⟩
  rcases Nat.lt_or_ge i N with hlt | hge
  · refine (round i hlt).mono fun ex fm1 T1 ⟨e1, e2, e3⟩ => ?_
    subst e1 e2 e3
    exact ⟨N - (i + 1), by omega, i + 1, hlt, rfl, rfl, rfl⟩
  · have : i = N := by omega
    subst this
    refine last.mono fun ex fm1 T1 ⟨e1, e2, e3⟩ => ?_
    subst e1 e2 e3
    simp
/-- the same, where the last round leaves the block too -/
theorem To.roundsRet {E : Env} {n k : Nat} {id : Nat} {c : Code} (F : Nat → Fm) (T : Nat → Tab) (N : Nat) {ex : AExit} {fm' : Fm} {T' : Tab}
    (round : ∀ i, i < N → To E n k c (F i) (T i) .normal (F (i + 1)) (T (i + 1))) (last : To E n k c (F N) (T N) ex fm' T') (hx : ex ≠ .normal) (hi : ex ≠ .exit id) : To E n k (.block id (.loop c)) (F 0) (T 0) ex fm' T' := by
  refine AWp.block ?_
  refine AWp.loop (fun fm T' m => ∃ i, i ≤ N ∧ m = N - i ∧ fm = F i ∧ T' = T i) N ⟨0, Nat.zero_le _, rfl, rfl, rfl⟩ ?_
  rintro fm T1 m ⟨i, hi', rfl, rfl, rfl⟩
  rcases Nat.lt_or_ge i N with hlt | hge
  · refine (round i hlt).mono fun ex fm1 T1 ⟨e1, e2, e3⟩ => ?_
    subst e1 e2 e3
    exact ⟨N - (i + 1), by omega, i + 1, hlt, rfl, rfl, rfl⟩
  · have : i = N := by omega
    subst this
    refine last.mono fun e fm1 T1 ⟨e1, e2, e3⟩ => ?_
    subst e1 e2 e3
    cases e with
    | normal => exact absurd rfl hx
    | exit id' =>
      have : id' ≠ id := fun h => hi (by rw [h])
      simp [this]
    | goto l => simp
    | ret => simp

/-- the values of some slots -/
def pickV (m : Nat) (fm : Fm) : List Nat → Option (List AVal)
  | [] => some []
  | t :: r => match look fm t, pickV m fm r with
    | some v, some vs => match idsIn (fun i => Nat.blt i m) v with
      | true => some (v :: vs)
      | false => none
    | _, _ => none
def zipF : List Nat → List AVal → Fm
  | t :: r, v :: vs => (t, v) :: zipF r vs
  | _, _ => []
theorem pickV_ok {m : Nat} {fm : Fm} : ∀ {l : List Nat} {vs : List AVal}, pickV m fm l = some vs → pickF m fm l = some (zipF l vs)
  | [], vs, h => by simp [pickV] at h; subst h; rfl
  | t :: r, vs, h => by
    simp only [pickV] at h
    split at h
    · rename_i v us h1 h2
      split at h
      · rename_i h3
        injection h with h; subst h
        simp only [pickF, h1, pickV_ok h2, h3, zipF]
      · cases h
    · cases h
/-- what is told of a block, by the values of some slots and the first m objects -/
def blkS (m : Nat) (slots : List Nat) (g : List AVal → Tab → Out) : Nat → Fm → Tab → List (Option Bool) → Out := fun kb fm T ds =>
  match Nat.ble kb m && (Nat.ble m T.length && tabIn m (takeT m T)), pickV m fm slots with
  | true, some vs => match g vs (takeT m T) with
    | ⟨cs, ex, fm', T', _⟩ => ⟨cs, ex, fm', T', ds⟩
  | _, _ => failO
theorem blkS_ok {E : Env} {fn : Func} {id : Nat} {c : Code} {m : Nat} {slots : List Nat} {g : List AVal → Tab → Out}
    (hg : ∀ vs T, Ok (g vs T) → To E fn.ntmps m (.block id c) (zipF slots vs) T (g vs T).ex (g vs T).fm (g vs T).tab) : BlkOk E fn id c (blkS m slots g) := by
  intro kb fm T ds hc
  unfold blkS at hc ⊢
  cases hb : Nat.ble kb m && (Nat.ble m T.length && tabIn m (takeT m T)) with
  | false => rw [hb] at hc; exact absurd hc failO_no
  | true =>
    cases hp : pickV m fm slots with
    | none => rw [hb, hp] at hc; exact absurd hc failO_no
    | some vs =>
      rw [hb, hp] at hc
      simp only at hc ⊢
      have h1 := hg vs (takeT m T)
      generalize g vs (takeT m T) = o at h1 hc ⊢
      obtain ⟨cs, ex, fm', T', ds'⟩ := o
      simp only [Bool.and_eq_true] at hb
      refine AWp.base (Nat.le_of_ble_eq_true hb.1) ?_
      exact AWp.enter (k := m) (m := m) (pickV_ok hp) (by simp only [Bool.and_eq_true]; exact ⟨⟨Nat.ble_eq_true_of_le (Nat.le_refl m), hb.2.1⟩, hb.2.2⟩) (h1 ⟨hc⟩)

/-- nothing is a slice of an empty object -/
theorem AWp.nilTo {E : Env} {n k : Nat} {c : Code} {fm : Fm} (fm' : Fm) {T : Tab} {post : AExit → Fm → Tab → Prop} (kk : IntKind) (et : TypeId)
    (hf : ∀ t v, look fm' t = some v → look fm t = some v ∨ (look fm t = some .nilSlice ∧ ∃ sz, v = .slice sz T.length 0 0 0 none))
    (h : AWp E n k c fm' (T ++ [some ⟨.ints kk [], 0, true, et⟩]) post) : AWp E n k c fm T post := by
  intro ν a w hs
  have hn : ν T.length = none := by
    cases hν : ν T.length with
    | none => rfl
    | some l => have := hs.hr.lt _ l hν; omega
  obtain ⟨l0, hl0⟩ : ∃ l0 : Loc, l0 = ⟨⟨0, 0, none⟩, 0, 0⟩ := ⟨_, rfl⟩
  have hm : NuLe ν (upd ν T.length l0) := NuLe.upd_new (ν := ν) l0 hn
  have same : ∀ p, p ≠ T.length → upd ν T.length l0 p = ν p := fun p hp => upd_other ν l0 hp
  have self : upd ν T.length l0 T.length = some l0 := upd_same ν _ l0
  have getT : ∀ p o, (T ++ [some (⟨.ints kk [], 0, true, et⟩ : AObj)])[p]? = some o → (p < T.length ∧ T[p]? = some o) ∨ (p = T.length ∧ o = some ⟨.ints kk [], 0, true, et⟩) := by
    intro p o ho
    rcases Nat.lt_or_ge p T.length with hp | hp
    · rw [List.getElem?_append_left hp] at ho; exact .inl ⟨hp, ho⟩
    · rw [List.getElem?_append_right hp] at ho
      have hlt := (List.getElem?_eq_some_iff.1 ho).1
      have hp0 : p = T.length := by simp at hlt; omega
      subst hp0
      simp at ho
      exact .inr ⟨rfl, ho.symm⟩
  have hown : ∀ b, Own (upd ν T.length l0) (T ++ [some ⟨.ints kk [], 0, true, et⟩]) b → Own ν T b := by
    rintro b ⟨p, o, l, h1, h2, h3, h4, h5⟩
    rcases getT p _ h1 with ⟨hp, h1⟩ | ⟨hp, h1⟩
    · rw [same p (by omega)] at h3; exact ⟨p, o, l, h1, h2, h3, h4, h5⟩
    · subst hp; rw [self] at h3; injection h3 with h3; subst h3; subst hl0; simp at h4
  have hr' : HR E.gl (upd ν T.length l0) (T ++ [some ⟨.ints kk [], 0, true, et⟩]) w := by
    refine ⟨fun p o l ho hl => ?_, fun p l hl => ?_, fun p hp => ?_, fun p l hl h0 => ?_, fun p q o o' l l' ho ho' hw hne hl hl' h0 h0' => ?_, fun b d hb => ?_⟩
    · rcases getT p _ ho with ⟨hp, h1⟩ | ⟨hp, h1⟩
      · rw [same p (by omega)] at hl
        obtain ⟨g1, g2⟩ := hs.hr.obj p o l h1 hl
        exact ⟨g1, g2.kept hm fun _ => rfl⟩
      · subst hp; rw [self] at hl; injection hl with hl; subst hl; subst hl0
        injection h1 with h1; subst h1
        exact ⟨rfl, .ints _ _, .inr (.inr ⟨rfl, rfl⟩)⟩
    · by_cases e : p = T.length
      · subst e; simp
      · rw [same p e] at hl; have := hs.hr.lt p l hl; simp; omega
    · rcases getT p _ hp with ⟨hp', h1⟩ | ⟨hp', h1⟩
      · rw [same p (by omega)]; exact hs.hr.hole p h1
      · cases h1
    · by_cases e : p = T.length
      · subst e; rw [self] at hl; injection hl with hl; subst hl; subst hl0; simp at h0
      · rw [same p e] at hl; exact hs.hr.blk p l hl h0
    · rcases getT p _ ho with ⟨hp, h1⟩ | ⟨hp, h1⟩
      · rcases getT q _ ho' with ⟨hq, h2⟩ | ⟨hq, h2⟩
        · rw [same p (by omega)] at hl; rw [same q (by omega)] at hl'
          exact hs.hr.sep p q o o' l l' h1 h2 hw hne hl hl' h0 h0'
        · subst hq; rw [self] at hl'; injection hl' with hl'; subst hl'; subst hl0; simp at h0'
      · subst hp; rw [self] at hl; injection hl with hl; subst hl; subst hl0; simp at h0
    · obtain ⟨h1, h2⟩ := hs.hr.glob b d hb
      exact ⟨fun h3 => h1 (hown b h3), h2⟩
  have hs' : SRel E (upd ν T.length l0) fm' (T ++ [some ⟨.ints kk [], 0, true, et⟩]) n a w := by
    refine ⟨hr', fun t v hv => ?_, hs.size, hs.defers⟩
    rcases hf t v hv with h1 | ⟨h1, sz, rfl⟩
    · exact (hs.fm t v h1).mono hm
    · have := hs.fm t _ h1
      generalize a.tmps.getD t undef = x at this ⊢
      cases this
      exact .sliceZ none self (by rw [hl0]) (.inr ⟨rfl, by rw [hl0]; exact Nat.le_refl _⟩)
  refine wp_mono (h _ a w hs') fun e a' w' ⟨ex, f1, T1, ν1, h1, h2, h3, h4, h5⟩ => ⟨ex, f1, T1, ν1, h1, h2, h3, fun p hp l hl => ?_, ?_⟩
  · have := hs.hr.lt p l hl
    exact h4 p hp l (by rw [same p (by omega)]; exact hl)
  · exact ⟨h5.os, h5.tape, h5.output, h5.size, fun b hb hO => h5.block b hb (fun h => hO (hown b h)), fun b hb => (h5.own b hb).imp (hown b) id⟩

open Go.RowKit in
/-- a law over plain values -/
theorem calls_plain {P : Program} {f : FuncId} {args : List AVal} {v : AVal} {T1 : Tab} (h : Small P (fun _ => none) f args [] v T1) {w : World} {vs : Array Value} {x : Value} (hx : ∀ ν y, VR ν v y → y = x) (hv : VRs (fun _ => none) args vs.toList) :
    Calls P f vs w fun e w' => e = .returned x ∧ Below w.heap.size w w' := by
  refine (h (fun _ => none) w vs ⟨fun p o l ho => (by simp at ho), fun p l hl => (by cases hl), fun p hp => (by simp at hp), fun p l hl => (by cases hl), fun p q o o' l l' ho => (by simp at ho), fun b d hb => (by cases hb)⟩ hv).mono ?_
  rintro e w' ⟨y, ν', rfl, h1, h2, h3, h4⟩
  refine ⟨by rw [hx _ _ h1], h4.os, h4.tape, h4.output, h4.size, fun b hb => h4.block b hb ?_⟩
  rintro ⟨p, o, l, ho, _⟩
  simp at ho

/-! ## Demands: those that are flagged are computed, the same ones compared, the rest shown -/
def chkF : List Bool → List Con → Bool
  | _, [] => true
  | true :: fl, c :: cs => match c.chk modeB with
    | some true => chkF fl cs
    | _ => false
  | _ :: fl, _ :: cs => chkF fl cs
  | [], _ :: _ => false
def restF : List Bool → List Con → List Con
  | true :: fl, _ :: cs => restF fl cs
  | false :: fl, c :: cs => match c with
    | .tab _ _ => restF fl cs
    | .val _ _ => restF fl cs
    | c => c :: restF fl cs
  | _, _ => []
theorem demands : ∀ {fl : List Bool} {cs : List Con}, chkF fl cs = true → lefts cs = rights cs → allP (restF fl cs) → allP cs
  | _, [], _, _, _ => trivial
  | [], _ :: _, h, _, _ => by simp [chkF] at h
  | true :: fl, c :: cs, h1, h2, h3 => by
    simp only [chkF] at h1
    split at h1
    · rename_i hk
      have hc := Con.chk_ok hk
      refine ⟨hc, demands h1 ?_ h3⟩
      cases c <;> simp only [lefts, rights] at h2 ⊢ <;> first | exact h2 | (injection h2)
    · cases h1
  | false :: fl, c :: cs, h1, h2, h3 => by
    simp only [chkF] at h1
    cases c with
    | tab a b =>
      simp only [lefts, rights] at h2
      injection h2 with h4 h5
      exact ⟨h4, demands h1 h5 h3⟩
    | val a b =>
      simp only [lefts, rights] at h2
      injection h2 with h4 h5
      injection h4 with h4 _
      injection h4 with h4
      injection h4 with h4
      exact ⟨h4, demands h1 h5 h3⟩
    | _ => exact ⟨h3.1, demands h1 h2 h3.2⟩
theorem Ok.dem {o : Out} {fl : List Bool} {l : List Con} (h1 : chkF fl o.cs = true) (h2 : lefts o.cs = rights o.cs) (h3 : restF fl o.cs = l) (h : allP l) : Ok o := ⟨demands h1 h2 (h3 ▸ h)⟩
theorem OkR.dem {o : Res} {fl : List Bool} {l : List Con} (h1 : chkF fl o.cs = true) (h2 : lefts o.cs = rights o.cs) (h3 : restF fl o.cs = l) (h : allP l) : OkR o := ⟨demands h1 h2 (h3 ▸ h)⟩

/-- a body's run, as a contract -/
theorem small_of {E : Env} (hE : EnvOk E) (hm : E.P.follows .mixedOrders = true) {f : FuncId} {fn : Func} (hf : E.P.funcs[f]? = some fn) (hb : fn.body.isSome = true) {orc : OrcL} (hO : FnOrc E fn orc) {fuel : Nat} {args : List AVal} {T : Tab} {ds : List (Option Bool)} {R : Res}
    (hR : runF E fn orc fuel args T ds = R) (h : OkR R) {v : AVal} {T1 : Tab} (hv : R.val = v) (ht : R.tab = T1) : Small E.P E.gl f args T v T1 := by
  subst hv ht hR
  exact runF_small hE hm hf hb orc hO fuel ds h.h
theorem nofail : ¬ allP fail.cs := by simp [fail, allP, Con.h]
theorem nofailO : ¬ Ok failO := fun h => failO_no h.h

theorem nn_xor {k : IntKind} {a b : Int} (ha : nonneg k a) (hb : nonneg k b) : nonneg k (ixor a b) := by
  rw [nonneg_iff] at *
  exact ⟨Int.natCast_nonneg _, by simp only [ixor, Int.toNat_natCast]; exact Nat.xor_lt_two_pow ha.2 hb.2⟩
theorem nn_or {k : IntKind} {a b : Int} (ha : nonneg k a) (hb : nonneg k b) : nonneg k (ior a b) := by
  rw [nonneg_iff] at *
  exact ⟨Int.natCast_nonneg _, by simp only [ior, Int.toNat_natCast]; exact Nat.or_lt_two_pow ha.2 hb.2⟩
theorem nn_and {k : IntKind} {a b : Int} (ha : nonneg k a) (hb : nonneg k b) : nonneg k (iand a b) := by
  rw [nonneg_iff] at *
  exact ⟨Int.natCast_nonneg _, by simp only [iand, Int.toNat_natCast]; exact Nat.lt_of_le_of_lt Nat.and_le_left ha.2⟩
theorem nn8 {a : Int} : nonneg .u8 a ↔ 0 ≤ a ∧ a < 256 := Iff.rfl
end Go.Abs
namespace Go.Abs
/-- of a table only the first objects are kept: what came in -/
theorem small_drop {P : Program} {gl : Nat → Option AVal} {f : FuncId} {args : List AVal} {T0 T1 : Tab} {v : AVal} (h : Small P gl f args T0 v T1) (hl : T0.length ≤ T1.length := by (first | exact Nat.zero_le _ | simp)) (hi : tabIn T0.length (takeT T0.length T1) = true := by rfl) (hv : noIds v = true := by rfl) :
    Small P gl f args T0 v (takeT T0.length T1) := by
  intro ν w vs hr hvs
  refine (h ν w vs hr hvs).mono ?_
  rintro e w' ⟨x, ν', rfl, h1, h2, h3, h4⟩
  have hs : SRel ⟨P, fun _ => none, fun _ => none, gl⟩ ν' [] T1 0 { tmps := #[], defers := [] } w' := ⟨h2, fun t u hu => by simp [look] at hu, Nat.zero_le _, rfl⟩
  obtain ⟨ν2, s2, e5, e6⟩ := hs.cut (m := T0.length) (f := []) hl (fun t u hu => by simp [look] at hu) hi
  refine ⟨x, ν2, rfl, ?_, s2.hr, fun p hp l hl => ?_, h4.sub e6⟩
  · have := h1.ren (ν' := ν2) (r := id) (live := fun _ => false) (fun i l hb => by cases hb) hv
    rwa [ren_no v hv] at this
  · obtain ⟨l', g1, g2⟩ := h3 p hp l hl
    exact ⟨l', by rw [e5 p hp]; exact g1, g2⟩
end Go.Abs

set_option linter.unusedVariables false
namespace Go.Abs
open Go.RowKit Go.WideShapes Go.ChangeShapes
section
variable {H : Type} {enc : TypeId × Value → H} {P : Program}
theorem post_of_below {f : Func} {s : ChangeSpec} {apart fresh handsOn again : Bool} {W W' : World} {args : Array Value} {v : Value} {ds gs : List (DataW H)} {before pa pv : List MemPlace}
    (hW : DataW.Whole enc P f.params.toList s.vars apart W args.toList ds gs before)
    (hres : ∀ (b : Nat) (sp : Nat → Bool) (hd : Bool), DataW.TrodAll enc P W' b sp hd f.resultTypes.toList (v.resultList f.resultTypes.size) (s.fn H (ds ++ gs)).results [])
    (hargs : ∀ sp : Nat → Bool, (∀ p ∈ before, sp p.block = true) → DataW.TrodAll enc P W' 0 sp true f.params.toList args.toList (s.fn H (ds ++ gs)).args pa)
    (hvars : ∀ sp : Nat → Bool, (∀ p ∈ before, sp p.block = true) → DataW.TrodVars enc P W' sp s.vars (s.fn H (ds ++ gs)).vars pv)
    (hps : before = pa ++ pv) (hb : Below W.heap.size W W')
    (hok : ∀ (j : Nat) (t : TypeId) (r : Value), f.resultTypes[j]? = some t → (v.resultList f.resultTypes.size)[j]? = some r → Value.okWide P W' .any 0 t r) :
    s.post enc P f apart fresh handsOn again W args v W' := by
  have hlt : ∀ p ∈ before, p.block < W.heap.size := fun p hp => hW.lt p hp
  have hold : ∀ p ∈ before, (fun b => decide (b < W.heap.size)) p.block = true := fun p hp => by simpa using hlt p hp
  refine ⟨ds, gs, before, [], pa, pv, hW, hres _ _ _, hargs _ hold, hvars _ hold, World.keptBut_mono (fun p hp => ⟨hp, ?_⟩) (hb.frame (· ∈ before)), fun _ => ?_⟩
  · rw [hps, List.mem_append] at hp
    exact Or.inr hp
  · obtain ⟨_, _, _, _, _, hz, hn⟩ := hW
    refine ⟨hok, _, _, ([] ++ pa) ++ pv, ⟨[] ++ pa, pv, trodAll_append (hargs _ (fun _ _ => rfl)) (hres _ _ _), hvars _ (fun _ _ => rfl), rfl, ?_, ?_⟩, ?_⟩
    · intro b off hp
      have hin : MemPlace.cell b off ∈ before := by rw [hps]; simpa using hp
      rw [hb.frozen (hlt _ hin)]
      exact hz b off hin
    · intro ha
      have := hn ha
      rw [hps] at this
      simpa using this
    · intro p hp _
      rw [hps]
      simpa using hp
end
end Go.Abs

set_option linter.unusedVariables false
set_option linter.unusedSimpArgs false
namespace Go.Abs
open Go.RowKit Go.WideShapes Go.ChangeShapes Go.ChangeAt

/-! ## Rows of laws -/
section
variable {H : Type} {enc : TypeId × Value → H} {P : Program}

theorem trodAll_stays (hl : laidOutB P = true) {W W' : World} {sp' : Nat → Bool} : ∀ {ts : List TypeId} {vs : List Value} {ds : List (DataW H)} {ps : List MemPlace}, (∀ t ∈ ts, P.readableRec t = true ∧ t < P.types.size) →
    DataW.TrodAll enc P W 0 (fun _ => true) true ts vs ds ps → (∀ p ∈ ps, W.sameAt W' p) → (∀ p ∈ ps, sp' p.block = true) → DataW.TrodAll enc P W' 0 sp' true ts vs ds ps
  | [], vs, ds, ps, _, h, _, _ => by
    obtain ⟨rfl, rfl, rfl⟩ := trodAll_nil h
    exact h
  | t :: ts, vs, ds, ps, ht, h, h1, h2 => by
    obtain ⟨v, vs', d, ds', p, q, rfl, rfl, rfl, g1, g2⟩ := trodAll_cons h
    exact trodAll_cons_mk (WideElems.Trod_stays hl (ht t (.head _)).1 (ht t (.head _)).2 g1 (fun p hp => h1 p (List.mem_append_left _ hp)) (fun p hp => h2 p (List.mem_append_left _ hp)))
      (trodAll_stays hl (fun t ht' => ht t (.tail _ ht')) g2 (fun p hp => h1 p (List.mem_append_right _ hp)) (fun p hp => h2 p (List.mem_append_right _ hp)))

theorem sameAt_below {W W' : World} (h : Below W.heap.size W W') {p : MemPlace} (hp : p.block < W.heap.size) : W.sameAt W' p := by
  have hb := h.block p.block hp
  cases p with
  | cell b off => exact World.cell?_of_block hb
  | map b => exact hb

/-- a law's ending: true, and all that came in reads as before -/
theorem law_post {f : Func} {s : ChangeSpec} {tb : TypeId} (hl : laidOutB P = true) (hts : ∀ t ∈ f.params.toList, P.readableRec t = true ∧ t < P.types.size) (hvars : s.vars = [])
    {W W' : World} {args : Array Value} {ds gs : List (DataW H)} {before : List MemPlace} (hW : DataW.Whole enc P f.params.toList s.vars false W args.toList ds gs before)
    (hspec : s.fn H (ds ++ gs) = { results := [.lit (.bool true)], args := ds }) (hr : f.resultTypes = #[tb]) (hb : P.underlying tb = some .bool) (hbel : Below W.heap.size W W') :
    s.post enc P f false true false false W args (.bool true) W' := by
  have hW' := hW
  obtain ⟨p, q, hA, hV, rfl, hfz, hnd⟩ := hW
  rw [hvars] at hV
  obtain ⟨rfl, rfl⟩ := trodVars_none hV
  have hlt : ∀ x ∈ p, x.block < W.heap.size := fun x hx => hW'.lt x (by simpa using hx)
  refine post_of_below (pa := p) (pv := []) hW' (fun _ _ _ => ?_) (fun sp hsp => ?_) (fun sp _ => ?_) (by simp) hbel ?_
  · rw [hspec, hr]
    exact trodAll_cons_mk (shut_bool hb _) trodAll_mk0
  · rw [hspec]
    exact trodAll_stays hl hts hA (fun x hx => sameAt_below hbel (hlt x hx)) (fun x hx => hsp x (by simpa using hx))
  · rw [hspec, hvars]
    exact rfl
  · exact ok_one hr rfl (okWide_bool_mk hb _)

/-- a slice of bytes that came in -/
theorem arg_bytes {t e : TypeId} (ht : P.underlying t = some (.slice e)) (he : P.underlying e = some (.int .u8)) (hc : P.cellsOf e = 1) (hby : P.bytesOf e = 1) {W : World} {base : Nat} {v : Value} {d : DataW H} {ps : List MemPlace}
    (hval : Value.okWide P W .any base t v) (hT : DataW.Trod enc P W 0 (fun _ => true) true t v d ps) (hsz : ∀ elems spare, d = .slice elems spare → (elems.length + spare.length) * P.bytesOf e ≤ reachBytes) :
    ∃ (zs : List Int) (n : Nat) (l : Loc), n ≤ zs.length ∧ (∀ z ∈ zs, 0 ≤ z ∧ z < 256) ∧ zs.length ≤ 140737488351232 ∧ l.g = 0 ∧ l.room = zs.length ∧ (0 < l.room → l.a.block < W.heap.size) ∧
      (∀ i, i < zs.length → W.cell? (l.a.add i) = some (.int .u8 (zs.getD i 0))) ∧ (∀ (ν : Nu) (p : Nat), ν p = some l → VR ν (.slice 1 p 0 0 n (some zs.length)) v) := by
  obtain ⟨a1, len, cap, rfl⟩ := okWide_slice ht hval
  obtain ⟨fuel, hf⟩ := hT
  rcases open_ints ht he hc hf with ⟨hcs, hx⟩ | ⟨a, len', cap', zs, hcs, _, hl, hm, hz, hx, hcell, hwz⟩
  · simp [Value.cells] at hcs
    obtain ⟨rfl, rfl, rfl⟩ := hcs
    exact ⟨[], 0, ⟨⟨0, 0, none⟩, 0, 0⟩, Nat.le_refl _, fun z hz => (by cases hz), by simp, rfl, rfl, fun h => (by cases h), fun i hi => (by simp at hi), fun ν p hp => .sliceZ none hp rfl (.inl rfl)⟩
  · simp [Value.cells] at hcs
    obtain ⟨rfl, rfl, rfl⟩ := hcs
    simp only [Prod.mk.injEq] at hx
    obtain ⟨rfl, rfl⟩ := hx
    simp only [if_true] at hz
    have hs := hsz _ _ rfl
    rw [hby] at hs
    have hlen : (lits (H := H) .u8 (zs.take len)).length + (lits (H := H) .u8 (zs.drop len)).length = zs.length := by simp [lits]; omega
    rw [hlen] at hs
    refine ⟨zs, len, ⟨a, 0, zs.length⟩, by omega, fun z hz => ?_, by unfold reachBytes at hs; omega, rfl, rfl, fun h0 => ?_, hcell, fun ν p hp => ?_⟩
    · have := hwz z hz
      simp [Lit.wf, IntKind.min, IntKind.max, IntKind.signed, IntKind.bits] at this
      omega
    · have h1 := hcell 0 h0
      unfold World.cell? at h1
      rcases Nat.lt_or_ge a.block W.heap.size with h | h
      · exact h
      · have hb : (a.add 0).block = a.block := block_add a 0
        rw [hb, Array.getElem?_eq_none h] at h1
        cases h1
    · refine .slice hp rfl ⟨hl, fun k hk => by injection hk with hk; omega, ?_, by simp; omega, fun h => (by cases h)⟩
      simp [Addr.add]

def nuL (ls : List Loc) : Nu := fun p => ls[p]?
/-- what came in is a table of objects that are not written -/
theorem HR.args {T : Tab} {ls : List Loc} {W : World} (hlen : T.length = ls.length)
    (h : ∀ (p : Nat) (o : Option AObj), T[p]? = some o → ∃ (d : AVal) (et : TypeId) (l : Loc), o = some ⟨d, 0, false, et⟩ ∧ ls[p]? = some l ∧ l.g = 0 ∧ IsData d ∧ d.len ≤ l.room ∧ (0 < l.room → l.a.block < W.heap.size) ∧ ∀ i, i < d.len → ∃ x, W.cell? (l.a.add i) = some x ∧ VR (nuL ls) (d.get i) x) :
    HR (fun _ => none) (nuL ls) T W := by
  refine ⟨fun p o l ho hl => ?_, fun p l hl => ?_, fun p hp => ?_, fun p l hl h0 => ?_, fun p q o o' l l' ho ho' hw hne hl hl' h0 h0' => ?_, fun b d hb => (by cases hb)⟩
  · obtain ⟨d, et, l1, e1, e2, e3, e4, e5, e6, e7⟩ := h p _ ho
    injection e1 with e1; subst e1
    simp only [nuL] at hl
    rw [e2] at hl; injection hl with hl; subst hl
    exact ⟨e3.symm, e4, .inr (.inl ⟨rfl, e5, e7⟩)⟩
  · simp only [nuL] at hl
    rw [hlen]; exact (List.getElem?_eq_some_iff.1 hl).1
  · obtain ⟨d, et, l1, e1, _⟩ := h p _ hp
    cases e1
  · simp only [nuL] at hl
    have hlt := (List.getElem?_eq_some_iff.1 hl).1
    obtain ⟨o, ho⟩ : ∃ o, T[p]? = some o := ⟨T[p]'(by omega), List.getElem?_eq_getElem (by omega)⟩
    obtain ⟨d, et, l1, e1, e2, e3, e4, e5, e6, e7⟩ := h p o ho
    rw [e2] at hl; injection hl with hl; subst hl
    exact e6 h0
  · obtain ⟨d, et, l1, e1, _⟩ := h p _ ho
    injection e1 with e1; subst e1
    cases hw

/-- a law over what came in -/
theorem calls_args {f : FuncId} {args : List AVal} {v : AVal} {T T1 : Tab} {ls : List Loc} {w : World} {vs : Array Value} {x : Value} (h : Small P (fun _ => none) f args T v T1) (hT : HR (fun _ => none) (nuL ls) T w) (hown : ∀ (p : Nat) (o : AObj), T[p]? = some (some o) → o.own = false)
    (hx : ∀ ν y, VR ν v y → y = x) (hv : VRs (nuL ls) args vs.toList) :
    Calls P f vs w fun e w' => e = .returned x ∧ Below w.heap.size w w' := by
  refine (h (nuL ls) w vs hT hv).mono ?_
  rintro e w' ⟨y, ν', rfl, h1, h2, h3, h4⟩
  refine ⟨by rw [hx _ _ h1], h4.os, h4.tape, h4.output, h4.size, fun b hb => h4.block b hb ?_⟩
  rintro ⟨p, o, l, ho, hw, _⟩
  rw [hown p o ho] at hw
  cases hw
theorem bytes_obj {W : World} {zs : List Int} {l : Loc} {ν : Nu} (hcell : ∀ i, i < zs.length → W.cell? (l.a.add i) = some (.int .u8 (zs.getD i 0))) : ∀ i, i < (AVal.ints .u8 zs).len → ∃ x, W.cell? (l.a.add i) = some x ∧ VR ν ((AVal.ints .u8 zs).get i) x :=
  fun i hi => ⟨_, hcell i hi, .int _ _⟩
end
end Go.Abs

set_option linter.unusedVariables false
set_option linter.unusedSimpArgs false
namespace Go.Abs

/-- an empty object beside the others -/
theorem HR.pushEmpty {gl : Nat → Option AVal} {ν : Nu} {T : Tab} {w : World} (hr : HR gl ν T w) (kk : IntKind) (et : TypeId) :
    ∃ l0 : Loc, l0.g = 0 ∧ l0.room = 0 ∧ HR gl (upd ν T.length l0) (T ++ [some ⟨.ints kk [], 0, true, et⟩]) w ∧ NuLe ν (upd ν T.length l0) ∧ (∀ b, Own (upd ν T.length l0) (T ++ [some ⟨.ints kk [], 0, true, et⟩]) b → Own ν T b) := by
  have hn : ν T.length = none := by
    cases hν : ν T.length with
    | none => rfl
    | some l => have := hr.lt _ l hν; omega
  obtain ⟨l0, hl0⟩ : ∃ l0 : Loc, l0 = ⟨⟨0, 0, none⟩, 0, 0⟩ := ⟨_, rfl⟩
  have hm : NuLe ν (upd ν T.length l0) := NuLe.upd_new (ν := ν) l0 hn
  have same : ∀ p, p ≠ T.length → upd ν T.length l0 p = ν p := fun p hp => upd_other ν l0 hp
  have self : upd ν T.length l0 T.length = some l0 := upd_same ν _ l0
  have getT : ∀ p o, (T ++ [some (⟨.ints kk [], 0, true, et⟩ : AObj)])[p]? = some o → (p < T.length ∧ T[p]? = some o) ∨ (p = T.length ∧ o = some ⟨.ints kk [], 0, true, et⟩) := by
    intro p o ho
    rcases Nat.lt_or_ge p T.length with hp | hp
    · rw [List.getElem?_append_left hp] at ho; exact .inl ⟨hp, ho⟩
    · rw [List.getElem?_append_right hp] at ho
      have hlt := (List.getElem?_eq_some_iff.1 ho).1
      have hp0 : p = T.length := by simp at hlt; omega
      subst hp0
      simp at ho
      exact .inr ⟨rfl, ho.symm⟩
  have hown : ∀ b, Own (upd ν T.length l0) (T ++ [some ⟨.ints kk [], 0, true, et⟩]) b → Own ν T b := by
    rintro b ⟨p, o, l, h1, h2, h3, h4, h5⟩
    rcases getT p _ h1 with ⟨hp, h1⟩ | ⟨hp, h1⟩
    · rw [same p (by omega)] at h3; exact ⟨p, o, l, h1, h2, h3, h4, h5⟩
    · subst hp; rw [self] at h3; injection h3 with h3; subst h3; subst hl0; simp at h4
  refine ⟨l0, by rw [hl0], by rw [hl0], ⟨fun p o l ho hl => ?_, fun p l hl => ?_, fun p hp => ?_, fun p l hl h0 => ?_, fun p q o o' l l' ho ho' hw hne hl hl' h0 h0' => ?_, fun b d hb => ?_⟩, hm, hown⟩
  · rcases getT p _ ho with ⟨hp, h1⟩ | ⟨hp, h1⟩
    · rw [same p (by omega)] at hl
      obtain ⟨g1, g2⟩ := hr.obj p o l h1 hl
      exact ⟨g1, g2.kept hm fun _ => rfl⟩
    · subst hp; rw [self] at hl; injection hl with hl; subst hl; subst hl0
      injection h1 with h1; subst h1
      exact ⟨rfl, .ints _ _, .inr (.inr ⟨rfl, rfl⟩)⟩
  · by_cases e : p = T.length
    · subst e; simp
    · rw [same p e] at hl; have := hr.lt p l hl; simp; omega
  · rcases getT p _ hp with ⟨hp', h1⟩ | ⟨hp', h1⟩
    · rw [same p (by omega)]; exact hr.hole p h1
    · cases h1
  · by_cases e : p = T.length
    · subst e; rw [self] at hl; injection hl with hl; subst hl; subst hl0; simp at h0
    · rw [same p e] at hl; exact hr.blk p l hl h0
  · rcases getT p _ ho with ⟨hp, h1⟩ | ⟨hp, h1⟩
    · rcases getT q _ ho' with ⟨hq, h2⟩ | ⟨hq, h2⟩
      · rw [same p (by omega)] at hl; rw [same q (by omega)] at hl'
        exact hr.sep p q o o' l l' h1 h2 hw hne hl hl' h0 h0'
      · subst hq; rw [self] at hl'; injection hl' with hl'; subst hl'; subst hl0; simp at h0'
    · subst hp; rw [self] at hl; injection hl with hl; subst hl; subst hl0; simp at h0
  · obtain ⟨h1, h2⟩ := hr.glob b d hb
    exact ⟨fun h3 => h1 (hown b h3), h2⟩

/-- a result that is nothing, told as a slice of an empty object -/
theorem small_nil {P : Program} {gl : Nat → Option AVal} {f : FuncId} {args : List AVal} {T0 T1 : Tab} {v v' : AVal} (kk : IntKind) (et : TypeId) (h : Small P gl f args T0 v T1) (hk : T0.length ≤ T1.length)
    (hv : ∀ (ν : Nu) (x : Value) (l : Loc), ν T1.length = some l → l.g = 0 → l.room = 0 → (∀ u y, VR ν u y → True) → VR ν v x → VR ν v' x) : Small P gl f args T0 v' (T1 ++ [some ⟨.ints kk [], 0, true, et⟩]) := by
  intro ν w vs hr hvs
  refine (h ν w vs hr hvs).mono ?_
  rintro e w' ⟨x, ν', rfl, h1, h2, h3, h4⟩
  obtain ⟨l0, g1, g2, g3, g4, g5⟩ := h2.pushEmpty kk et
  refine ⟨x, upd ν' T1.length l0, rfl, hv _ x l0 (upd_same _ _ _) g1 g2 (fun _ _ _ => trivial) (h1.mono g4), g3, h3.trans (g4.b _), h4.sub g5⟩

theorem VR.nil_slice {ν : Nu} {x : Value} {q : Nat} {l : Loc} {sz : Nat} {cap : Option Nat} (hl : ν q = some l) (hg : l.g = 0) (hr : l.room = 0) (hc : cap = some 0 ∨ cap = none) (h : VR ν .nilSlice x) : VR ν (.slice sz q 0 0 0 cap) x := by
  cases h
  exact .sliceZ none hl hg.symm (hc.imp id fun h => ⟨h, by rw [hr]; exact Nat.le_refl _⟩)

/-- two results, the first one nothing -/
theorem small_nil2 {P : Program} {gl : Nat → Option AVal} {f : FuncId} {args : List AVal} {T0 T1 : Tab} {u : AVal} (kk : IntKind) (et : TypeId) {sz : Nat} {cap : Option Nat} (hc : cap = some 0 ∨ cap = none) (h : Small P gl f args T0 (.tuple [.nilSlice, u]) T1) (hk : T0.length ≤ T1.length) :
    Small P gl f args T0 (.tuple [.slice sz T1.length 0 0 0 cap, u]) (T1 ++ [some ⟨.ints kk [], 0, true, et⟩]) := by
  refine small_nil kk et h hk fun ν x l h1 h2 h3 _ hx => ?_
  cases hx with
  | tuple e1 e2 =>
    refine .tuple e1 fun i hi => ?_
    match i, hi with
    | 0, _ => exact VR.nil_slice h1 h2 h3 hc (e2 0 (by simp))
    | 1, _ => exact e2 1 (by simp)
    | i + 2, hi => simp at hi; omega
/-- one result, nothing -/
theorem small_nil1 {P : Program} {gl : Nat → Option AVal} {f : FuncId} {args : List AVal} {T0 T1 : Tab} (kk : IntKind) (et : TypeId) {sz : Nat} {cap : Option Nat} (hc : cap = some 0 ∨ cap = none) (h : Small P gl f args T0 .nilSlice T1) (hk : T0.length ≤ T1.length) :
    Small P gl f args T0 (.slice sz T1.length 0 0 0 cap) (T1 ++ [some ⟨.ints kk [], 0, true, et⟩]) :=
  small_nil kk et h hk fun ν x l h1 h2 h3 _ hx => VR.nil_slice h1 h2 h3 hc hx
end Go.Abs

set_option linter.unusedVariables false
set_option linter.unusedSimpArgs false
namespace Go.Abs
/-! ## Only some objects are kept, and they move together -/
def sigG : List Nat → Nat → Nat
  | [], _ => 0
  | p :: r, i => match Nat.beq p i with | true => 0 | false => sigG r i + 1
def hasG : List Nat → Nat → Bool
  | [], _ => false
  | p :: r, i => Nat.beq p i || hasG r i
def nodupG : List Nat → Bool
  | [] => true
  | p :: r => !hasG r p && nodupG r
def startsG : Nat → Nat → List Nat → Bool
  | _, 0, _ => true
  | i, k + 1, p :: r => Nat.beq p i && startsG (i + 1) k r
  | _, _ + 1, [] => false
def getG (T : Tab) (p : Nat) : Option AObj := match T[p]? with | some (some o) => some o | _ => none
def gcL (keep : List Nat) (T : Tab) : List Nat → Tab
  | [] => []
  | p :: r => (match getG T p with | some o => some (renO (sigG keep) o) | none => none) :: gcL keep T r
def gcT (keep : List Nat) (T : Tab) : Tab := gcL keep T keep
def inG (keep : List Nat) (T : Tab) : List Nat → Bool
  | [] => true
  | p :: r => (match getG T p with | some o => idsIn (hasG keep) o.data | none => true) && inG keep T r
def okG (k : Nat) (keep : List Nat) (T : Tab) : Bool := nodupG keep && (startsG 0 k keep && inG keep T keep)
def pickG (keep : List Nat) (fm : Fm) : List Nat → Option Fm
  | [] => some []
  | t :: r => match look fm t, pickG keep fm r with
    | some v, some f => match idsIn (hasG keep) v with
      | true => some ((t, ren (sigG keep) v) :: f)
      | false => none
    | _, _ => none
theorem hasG_get : ∀ {l : List Nat} {i : Nat}, hasG l i = true → l[sigG l i]? = some i
  | p :: r, i, h => by
    simp only [hasG, Bool.or_eq_true] at h
    simp only [sigG]
    cases hp : Nat.beq p i with
    | true => have := Nat.eq_of_beq_eq_true hp; subst this; rfl
    | false => simp only [hp, Bool.false_eq_true, false_or] at h; simpa using hasG_get h
theorem hasG_mem : ∀ {l : List Nat} {j p : Nat}, l[j]? = some p → hasG l p = true
  | q :: r, 0, p, h => by simp at h; subst h; simp [hasG]
  | q :: r, j + 1, p, h => by simp only [hasG, Bool.or_eq_true]; exact .inr (hasG_mem (by simpa using h))
theorem nodupG_ok : ∀ {l : List Nat}, nodupG l = true → ∀ (i j p : Nat), l[i]? = some p → l[j]? = some p → i = j
  | q :: r, h, 0, 0, p, _, _ => rfl
  | q :: r, h, 0, j + 1, p, hi, hj => by
    simp at hi; subst hi
    have := hasG_mem (l := r) (j := j) (by simpa using hj)
    simp [nodupG, this] at h
  | q :: r, h, i + 1, 0, p, hi, hj => by
    simp at hj; subst hj
    have := hasG_mem (l := r) (j := i) (by simpa using hi)
    simp [nodupG, this] at h
  | q :: r, h, i + 1, j + 1, p, hi, hj => by
    simp only [nodupG, Bool.and_eq_true] at h
    rw [nodupG_ok h.2 i j p (by simpa using hi) (by simpa using hj)]
theorem startsG_ok : ∀ {k i : Nat} {l : List Nat}, startsG i k l = true → ∀ j, j < k → l[j]? = some (i + j)
  | k + 1, i, p :: r, h, 0, _ => by simp only [startsG, Bool.and_eq_true] at h; rw [Nat.eq_of_beq_eq_true h.1]; rfl
  | k + 1, i, p :: r, h, j + 1, hj => by
    simp only [startsG, Bool.and_eq_true] at h
    rw [List.getElem?_cons_succ, startsG_ok h.2 j (by omega)]
    congr 1; omega
theorem gcL_get (keep : List Nat) (T : Tab) : ∀ (l : List Nat) (j : Nat), (gcL keep T l)[j]? = (l[j]?).map fun p => match getG T p with | some o => some (renO (sigG keep) o) | none => none
  | [], j => by simp [gcL]
  | p :: r, 0 => rfl
  | p :: r, j + 1 => by simpa [gcL] using gcL_get keep T r j
theorem gcL_len (keep : List Nat) (T : Tab) : ∀ (l : List Nat), (gcL keep T l).length = l.length
  | [] => rfl
  | p :: r => by simp [gcL, gcL_len keep T r]
theorem inG_ok {keep : List Nat} {T : Tab} : ∀ {l : List Nat}, inG keep T l = true → ∀ (j p : Nat) (o : AObj), l[j]? = some p → getG T p = some o → idsIn (hasG keep) o.data = true
  | q :: r, h, 0, p, o, hp, ho => by simp at hp; subst hp; simp only [inG, ho, Bool.and_eq_true] at h; exact h.1
  | q :: r, h, j + 1, p, o, hp, ho => by simp only [inG, Bool.and_eq_true] at h; exact inG_ok h.2 j p o (by simpa using hp) ho
theorem getG_some {T : Tab} {p : Nat} {o : AObj} (h : getG T p = some o) : T[p]? = some (some o) := by
  unfold getG at h; split at h
  · rename_i o' h'; injection h with h; subst h; exact h'
  · cases h
theorem pickG_ok {keep : List Nat} {fm : Fm} : ∀ {l : List Nat} {f : Fm}, pickG keep fm l = some f → ∀ t v, look f t = some v → ∃ u, look fm t = some u ∧ idsIn (hasG keep) u = true ∧ v = ren (sigG keep) u
  | [], f, h, t, v, hl => by simp [pickG] at h; subst h; simp [look] at hl
  | s :: r, f, h, t, v, hl => by
    simp only [pickG] at h
    split at h
    · rename_i u f' h1 h2
      split at h
      · rename_i h3
        injection h with h; subst h
        simp only [look] at hl
        split at hl
        · rename_i he
          have := Nat.eq_of_beq_eq_true he; subst this
          injection hl with hl; subst hl
          exact ⟨u, h1, h3, rfl⟩
        · exact pickG_ok h2 t v hl
      · cases h
    · cases h
def nuG (keep : List Nat) (ν : Nu) : Nu := fun j => match keep[j]? with | some p => ν p | none => none
theorem nuG_some {keep : List Nat} {ν : Nu} {j : Nat} {l : Loc} (h : nuG keep ν j = some l) : ∃ p, keep[j]? = some p ∧ ν p = some l := by
  unfold nuG at h; split at h
  · rename_i p hp; exact ⟨p, hp, h⟩
  · cases h
theorem nuG_key {keep : List Nat} {ν : Nu} : ∀ i l, hasG keep i = true → ν i = some l → nuG keep ν (sigG keep i) = some l := fun i l hi hl => by
  unfold nuG; rw [hasG_get hi]; exact hl
theorem gcT_some {keep : List Nat} {T : Tab} {j : Nat} {o' : AObj} (h : (gcT keep T)[j]? = some (some o')) : ∃ p o, keep[j]? = some p ∧ T[p]? = some (some o) ∧ o' = renO (sigG keep) o := by
  unfold gcT at h
  rw [gcL_get] at h
  cases hk : keep[j]? with
  | none => rw [hk] at h; cases h
  | some p =>
    rw [hk] at h
    simp only [Option.map_some] at h
    cases hg : getG T p with
    | none => rw [hg] at h; cases h
    | some o => rw [hg] at h; injection h with h; injection h with h; exact ⟨p, o, rfl, getG_some hg, h.symm⟩
theorem getG_of {T : Tab} {p : Nat} {o : AObj} (h : T[p]? = some (some o)) : getG T p = some o := by unfold getG; rw [h]
theorem Own.gc {keep : List Nat} {ν : Nu} {T : Tab} {b : Nat} (h : Own (nuG keep ν) (gcT keep T) b) : Own ν T b := by
  obtain ⟨j, o', l, h1, h2, h3, h4⟩ := h
  obtain ⟨p, o, e1, e2, rfl⟩ := gcT_some h1
  obtain ⟨p', e3, e4⟩ := nuG_some h3
  rw [e1] at e3; injection e3 with e3; subst e3
  exact ⟨p, o, l, e2, h2, e4, h4⟩
theorem HR.gc {gl : Nat → Option AVal} {ν : Nu} {T : Tab} {w : World} {k : Nat} {keep : List Nat} (h : HR gl ν T w) (hk : okG k keep T = true) : HR gl (nuG keep ν) (gcT keep T) w := by
  simp only [okG, Bool.and_eq_true] at hk
  obtain ⟨h1, h2, h3⟩ := hk
  refine ⟨fun j o' l ho hl => ?_, fun j l hl => ?_, fun j hj => ?_, fun j l hl h0 => ?_, fun i j o o' l l' ho ho' hw hne hl hl' => ?_, fun b d hb => ?_⟩
  · obtain ⟨p, o, e1, e2, rfl⟩ := gcT_some ho
    obtain ⟨p', e3, e4⟩ := nuG_some hl
    rw [e1] at e3; injection e3 with e3; subst e3
    obtain ⟨g1, g2⟩ := h.obj p o l e2 e4
    exact ⟨g1, g2.ren nuG_key (inG_ok h3 j p o e1 (getG_of e2))⟩
  · obtain ⟨p, e1, _⟩ := nuG_some hl
    unfold gcT; rw [gcL_len]; exact (List.getElem?_eq_some_iff.1 e1).1
  · unfold gcT at hj
    rw [gcL_get] at hj
    unfold nuG
    cases hk : keep[j]? with
    | none => rfl
    | some p =>
      simp only [hk, Option.map_some] at hj
      cases hν : ν p with
      | none => simp only [hν]
      | some l =>
        exfalso
        have hlt := h.lt p l hν
        have e : T[p]? = some T[p] := List.getElem?_eq_getElem hlt
        cases hT : T[p] with
        | none => rw [hT] at e; rw [h.hole p e] at hν; cases hν
        | some o => rw [hT] at e; rw [getG_of e] at hj; injection hj with hj; cases hj
  · obtain ⟨p, _, e⟩ := nuG_some hl
    exact h.blk p l e h0
  · obtain ⟨p, a, e1, e2, rfl⟩ := gcT_some ho
    obtain ⟨q, b, f1, f2, rfl⟩ := gcT_some ho'
    obtain ⟨p', e3, e4⟩ := nuG_some hl
    rw [e1] at e3; injection e3 with e3; subst e3
    obtain ⟨q', f3, f4⟩ := nuG_some hl'
    rw [f1] at f3; injection f3 with f3; subst f3
    exact h.sep p q a b l l' e2 f2 hw (fun e => hne (by subst e; exact nodupG_ok h1 i j p e1 f1)) e4 f4
  · obtain ⟨g1, g2⟩ := h.glob b d hb
    exact ⟨fun g => g1 g.gc, g2⟩
theorem NuLeB.gc {keep : List Nat} {ν ν' : Nu} {T : Tab} {k : Nat} (h : NuLeB k ν ν') (hk : okG k keep T = true) : NuLeB k ν (nuG keep ν') := fun p hp l hl => by
  simp only [okG, Bool.and_eq_true] at hk
  obtain ⟨l', h1, h2⟩ := h p hp l hl
  have e := startsG_ok hk.2.1 p hp
  rw [Nat.zero_add] at e
  exact ⟨l', by unfold nuG; rw [e]; exact h1, h2⟩
theorem SRel.gc {E : Env} {ν : Nu} {fm f : Fm} {T : Tab} {n k : Nat} {a : Act} {w : World} {keep : List Nat} {slots : List Nat} (h : SRel E ν fm T n a w) (hk : okG k keep T = true) (hf : pickG keep fm slots = some f) : SRel E (nuG keep ν) f (gcT keep T) n a w := by
  refine ⟨h.hr.gc hk, fun t v hv => ?_, h.size, h.defers⟩
  obtain ⟨u, h1, h2, rfl⟩ := pickG_ok hf t v hv
  exact (h.fm t u h1).ren nuG_key h2
/-- the outcome, with only some objects, moved together -/
def trimG (k : Nat) (keep : List Nat) (slots : List Nat) (o : Out) : Out :=
  match o with
  | ⟨cs, ex, fm, T, ds⟩ => match pickG keep fm slots, okG k keep T with
    | some f, true => ⟨cs, ex, f, gcT keep T, ds⟩
    | _, _ => failO
theorem AWp.trimG {E : Env} {n k : Nat} {keep : List Nat} {c : Code} {fm : Fm} {T : Tab} {o : Out} {slots : List Nat} (hc : allP (trimG k keep slots o).cs) (h : allP o.cs → AWp E n k c fm T (Is o)) : AWp E n k c fm T (Is (trimG k keep slots o)) := by
  obtain ⟨cs, ex, fm1, T1, ds⟩ := o
  unfold Abs.trimG at hc ⊢
  simp only at hc ⊢
  cases hp : pickG keep fm1 slots with
  | none => simp only [hp] at hc; exact absurd hc failO_no
  | some f =>
    cases hb : okG k keep T1 with
    | false => simp only [hp, hb] at hc; exact absurd hc failO_no
    | true =>
      simp only [hp, hb] at hc ⊢
      intro ν a w hs
      refine wp_mono (h hc ν a w hs) fun e a' w' ⟨ex', fm', T', ν', e1, ⟨e2, e3, e4⟩, s', n', f'⟩ => ?_
      simp only at e2 e3 e4
      subst e2 e3 e4
      exact ⟨ex', f, gcT keep T', nuG keep ν', e1, ⟨rfl, rfl, rfl⟩, s'.gc hb hp, n'.gc hb, f'.sub fun b hb => hb.gc⟩
theorem To.ofG {E : Env} (hE : EnvOk E) (hm : E.P.follows .mixedOrders = true) {n k : Nat} {keep : List Nat} {orc : Orc} (hk : k ≤ orc.kb) {c : Code} (hO : OrcOk E n orc c) {f : Nat} {fm : Fm} {T : Tab} {ds : List (Option Bool)} {slots : List Nat} {o : Out}
    (ho : trimG k keep slots (run E n orc f c fm T ds) = o) (h : Ok o) {ex : AExit} {fm' : Fm} {T' : Tab} (e1 : o.ex = ex) (e2 : o.fm = fm') (e3 : o.tab = T') : To E n k c fm T ex fm' T' := by
  subst e1 e2 e3 ho
  exact AWp.trimG h.h fun h => (run_sound hE hm hk hO f (fun _ _ h => h) h).1
/-- a function's outcome, with only some objects, moved together -/
theorem small_gc {P : Program} {gl : Nat → Option AVal} {f : FuncId} {args : List AVal} {T0 T1 : Tab} {v : AVal} (keep : List Nat) (h : Small P gl f args T0 v T1) {v' : AVal} {T' : Tab} (hk : okG T0.length keep T1 = true) (hv : idsIn (hasG keep) v = true) (e1 : ren (sigG keep) v = v') (e2 : gcT keep T1 = T') :
    Small P gl f args T0 v' T' := by
  subst e1 e2
  intro ν w vs hr hvs
  refine (h ν w vs hr hvs).mono ?_
  rintro e w' ⟨x, ν', rfl, h1, h2, h3, h4⟩
  exact ⟨x, nuG keep ν', rfl, h1.ren nuG_key hv, h2.gc hk, h3.gc hk, h4.sub fun b hb => hb.gc⟩
/-- a function's run, with only some objects, moved together -/
def resG (k : Nat) (keep : List Nat) (r : Res) : Res :=
  match r with
  | ⟨cs, v, T⟩ => match idsIn (hasG keep) v && okG k keep T with
    | true => ⟨cs, ren (sigG keep) v, gcT keep T⟩
    | false => fail
theorem small_ofG {E : Env} (hE : EnvOk E) (hm : E.P.follows .mixedOrders = true) {f : FuncId} {fn : Func} (hf : E.P.funcs[f]? = some fn) (hb : fn.body.isSome = true) {orc : OrcL} (hO : FnOrc E fn orc) {fuel : Nat} {args : List AVal} {T : Tab} {ds : List (Option Bool)} {R : Res} {keep : List Nat}
    (hR : resG T.length keep (runF E fn orc fuel args T ds) = R) (h : OkR R) {v : AVal} {T1 : Tab} (hv : R.val = v) (ht : R.tab = T1) : Small E.P E.gl f args T v T1 := by
  subst hv ht hR
  have hS := runF_small hE hm hf hb orc hO fuel (args := args) (T := T) ds
  generalize runF E fn orc fuel args T ds = r at h hS ⊢
  obtain ⟨cs, v, T1⟩ := r
  obtain ⟨h⟩ := h
  unfold resG at h ⊢
  simp only at h ⊢
  cases hb : idsIn (hasG keep) v && okG T.length keep T1 with
  | false => simp only [hb] at h; exact absurd h nofail
  | true =>
    simp only [hb] at h ⊢
    simp only [Bool.and_eq_true] at hb
    exact small_gc keep (hS h) hb.2 hb.1 rfl rfl
/-- what is told of a block, by the values of some slots and the first m objects, of which the first k stay in their places -/
def blkS2 (k m : Nat) (slots : List Nat) (g : List AVal → Tab → Out) : Nat → Fm → Tab → List (Option Bool) → Out := fun kb fm T ds =>
  match Nat.ble kb k && (Nat.ble k m && (Nat.ble m T.length && tabIn m (takeT m T))), pickV m fm slots with
  | true, some vs => match g vs (takeT m T) with
    | ⟨cs, ex, fm', T', _⟩ => ⟨cs, ex, fm', T', ds⟩
  | _, _ => failO
theorem blkS2_ok {E : Env} {fn : Func} {id : Nat} {c : Code} {k m : Nat} {slots : List Nat} {g : List AVal → Tab → Out}
    (hg : ∀ vs T, Ok (g vs T) → To E fn.ntmps k (.block id c) (zipF slots vs) T (g vs T).ex (g vs T).fm (g vs T).tab) : BlkOk E fn id c (blkS2 k m slots g) := by
  intro kb fm T ds hc
  unfold blkS2 at hc ⊢
  cases hb : Nat.ble kb k && (Nat.ble k m && (Nat.ble m T.length && tabIn m (takeT m T))) with
  | false => rw [hb] at hc; exact absurd hc failO_no
  | true =>
    cases hp : pickV m fm slots with
    | none => rw [hb, hp] at hc; exact absurd hc failO_no
    | some vs =>
      rw [hb, hp] at hc
      simp only at hc ⊢
      have h1 := hg vs (takeT m T)
      generalize g vs (takeT m T) = o at h1 hc ⊢
      obtain ⟨cs, ex, fm', T', ds'⟩ := o
      simp only [Bool.and_eq_true] at hb
      refine AWp.base (Nat.le_of_ble_eq_true hb.1) ?_
      exact AWp.enter (k := k) (m := m) (pickV_ok hp) (by simp only [Bool.and_eq_true]; exact ⟨⟨hb.2.1, hb.2.2.1⟩, hb.2.2.2⟩) (h1 ⟨hc⟩)
attribute [irreducible] resG trimG
end Go.Abs

set_option linter.unusedVariables false
set_option linter.unusedSimpArgs false
namespace Go.Abs
open Go.RowKit Go.WideShapes Go.ChangeShapes Go.ChangeAt
/-! ## Rows whose laws read tables of the program -/
section
variable {P : Program}
theorem laidMet_tail {x : String × DataW Unit} {r : List (String × DataW Unit)} {W : World} (h : laidMet P (x :: r) W) : laidMet P r W := by
  obtain ⟨ps, ⟨g, t, cs, fuel, p, q, _, _, _, _, hr, rfl⟩, hn, hb⟩ := h
  exact ⟨q, hr, (List.nodup_append.1 hn).2.1, fun b off hm => hb b off (List.mem_append_right _ hm)⟩
theorem glob_tab {W : World} {name : String} {k : IntKind} {zs : List Int} {g : Nat} (h : Lib.TabIs P W name k zs) (hg : P.globalNamed name = some g) (h0 : 0 < zs.length) :
    g < W.heap.size ∧ IsData (.ints k zs) ∧ ∀ i, i < (AVal.ints k zs).len → ∃ x, W.cell? ⟨g, i, none⟩ = some x ∧ ∀ ν, VR ν ((AVal.ints k zs).get i) x := by
  refine ⟨?_, .ints _ _, fun i hi => ⟨_, h.cell hg i hi, fun ν => .int _ _⟩⟩
  have h1 := h.cell hg 0 h0
  unfold World.cell? at h1
  rcases Nat.lt_or_ge g W.heap.size with h | h
  · exact h
  · rw [Array.getElem?_eq_none h] at h1; cases h1
/-- what came in, over the program's tables -/
theorem HR.argsG {gl : Nat → Option AVal} {T : Tab} {ls : List Loc} {W : World} (h : HR (fun _ => none) (nuL ls) T W) (hown : ∀ (p : Nat) (o : AObj), T[p]? = some (some o) → o.own = false)
    (hg : ∀ b d, gl b = some d → b < W.heap.size ∧ IsData d ∧ ∀ i, i < d.len → ∃ x, W.cell? ⟨b, i, none⟩ = some x ∧ ∀ ν, VR ν (d.get i) x) : HR gl (nuL ls) T W :=
  ⟨h.obj, h.lt, h.hole, h.blk, h.sep, fun b d hb => ⟨fun ⟨p, o, l, h1, h2, _⟩ => (by rw [hown p o h1] at h2; cases h2), hg b d hb⟩⟩
theorem calls_argsG {gl : Nat → Option AVal} {f : FuncId} {args : List AVal} {v : AVal} {T T1 : Tab} {ls : List Loc} {w : World} {vs : Array Value} {x : Value} (h : Small P gl f args T v T1) (hT : HR gl (nuL ls) T w) (hown : ∀ (p : Nat) (o : AObj), T[p]? = some (some o) → o.own = false)
    (hx : ∀ ν y, VR ν v y → y = x) (hv : VRs (nuL ls) args vs.toList) :
    Calls P f vs w fun e w' => e = .returned x ∧ Below w.heap.size w w' := by
  refine (h (nuL ls) w vs hT hv).mono ?_
  rintro e w' ⟨y, ν', rfl, h1, h2, h3, h4⟩
  refine ⟨by rw [hx _ _ h1], h4.os, h4.tape, h4.output, h4.size, fun b hb => h4.block b hb ?_⟩
  rintro ⟨p, o, l, ho, hw, _⟩
  rw [hown p o ho] at hw
  cases hw
end
end Go.Abs

set_option linter.unusedVariables false
namespace Go.Abs
/-! ## What stands in a table or a list of values, taken out -/
def vAt : List AVal → Nat → AVal
  | [], _ => un
  | v :: _, 0 => v
  | _ :: r, i + 1 => vAt r i
def dAt (T : Tab) (p : Nat) : AVal := match nth T p with | some o => o.data | none => un
def gAt (T : Tab) (p : Nat) : Nat := match nth T p with | some o => o.g | none => 0
def owAt (T : Tab) (p : Nat) : Bool := match nth T p with | some o => o.own | none => false
def etAt (T : Tab) (p : Nat) : TypeId := match nth T p with | some o => o.et | none => 0
def xsOf : AVal → List Int | .ints _ xs => xs | _ => []
def vsOf : AVal → List AVal | .agg vs => vs | _ => []
def iOf : AVal → Int | .int _ n => n | _ => 0
def bOf : AVal → Bool | .bool b => b | _ => false
def sOf : AVal → List UInt8 | .str s => s | _ => []
def offOf : AVal → Nat | .slice _ _ _ off _ _ => off | .ptr _ _ off => off | _ => 0
def lenOf : AVal → Nat | .slice _ _ _ _ len _ => len | _ => 0
def capOf : AVal → Option Nat | .slice _ _ _ _ _ cap => cap | _ => none
def gOf : AVal → Nat | .slice _ _ g _ _ _ => g | .var _ g => g | .ptr _ g _ => g | _ => 0
def pOf : AVal → Nat | .slice _ p _ _ _ _ => p | .var p _ => p | .ptr p _ _ => p | _ => 0
def xsAt (T : Tab) (p : Nat) : List Int := xsOf (dAt T p)
def cAt (T : Tab) (p i : Nat) : AVal := vAt (vsOf (dAt T p)) i
end Go.Abs
namespace Go.Abs
/-- flags, out of a number's bits -/
def bitsF : Nat → Nat → List Bool
  | 0, _ => []
  | k + 1, n => Nat.beq (n % 2) 1 :: bitsF k (n / 2)
end Go.Abs

set_option linter.unusedVariables false
set_option linter.unusedSimpArgs false
namespace Go.Abs
/-- entry: only some objects, moved together -/
theorem AWp.enterG {E : Env} {n k : Nat} {c : Code} {fm f : Fm} {T : Tab} {keep slots : List Nat} {post : AExit → Fm → Tab → Prop} (hp : pickG keep fm slots = some f) (hb : okG k keep T = true)
    (h : AWp E n k c f (gcT keep T) post) : AWp E n k c fm T post := by
  intro ν a w hs
  refine wp_mono (h _ a w (hs.gc hb hp)) fun e a' w' ⟨ex, fm', T', ν', e1, e2, s', n', f'⟩ => ⟨ex, fm', T', ν', e1, e2, s', fun p hp l hl => ?_, ?_⟩
  · simp only [okG, Bool.and_eq_true] at hb
    have e := startsG_ok hb.2.1 p hp
    rw [Nat.zero_add] at e
    exact n' p hp l (by unfold nuG; rw [e]; exact hl)
  · exact ⟨f'.os, f'.tape, f'.output, f'.size, fun b hb hO => f'.block b hb (fun h => hO h.gc), fun b hb => (f'.own b hb).imp (fun h => h.gc) id⟩
def pickGV (keep : List Nat) (fm : Fm) : List Nat → Option (List AVal)
  | [] => some []
  | t :: r => match look fm t, pickGV keep fm r with
    | some v, some vs => match idsIn (hasG keep) v with
      | true => some (ren (sigG keep) v :: vs)
      | false => none
    | _, _ => none
theorem pickGV_ok {keep : List Nat} {fm : Fm} : ∀ {l : List Nat} {vs : List AVal}, pickGV keep fm l = some vs → pickG keep fm l = some (zipF l vs)
  | [], vs, h => by simp [pickGV] at h; subst h; rfl
  | t :: r, vs, h => by
    simp only [pickGV] at h
    split at h
    · rename_i v us h1 h2
      split at h
      · rename_i h3
        injection h with h; subst h
        simp only [pickG, h1, pickGV_ok h2, h3, zipF]
      · cases h
    · cases h
/-- what is told of a block, over some objects, moved together -/
def blkGC (k : Nat) (keep slots : List Nat) (g : List AVal → Tab → Out) : Nat → Fm → Tab → List (Option Bool) → Out := fun kb fm T ds =>
  match Nat.ble kb k && okG k keep T, pickGV keep fm slots with
  | true, some vs => match g vs (gcT keep T) with
    | ⟨cs, ex, fm', T', _⟩ => ⟨cs, ex, fm', T', ds⟩
  | _, _ => failO
theorem blkGC_ok {E : Env} {fn : Func} {id : Nat} {c : Code} {k : Nat} {keep slots : List Nat} {g : List AVal → Tab → Out}
    (hg : ∀ vs T, Ok (g vs T) → To E fn.ntmps k (.block id c) (zipF slots vs) T (g vs T).ex (g vs T).fm (g vs T).tab) : BlkOk E fn id c (blkGC k keep slots g) := by
  intro kb fm T ds hc
  unfold blkGC at hc ⊢
  cases hb : Nat.ble kb k && okG k keep T with
  | false => rw [hb] at hc; exact absurd hc failO_no
  | true =>
    cases hp : pickGV keep fm slots with
    | none => rw [hb, hp] at hc; exact absurd hc failO_no
    | some vs =>
      rw [hb, hp] at hc
      simp only at hc ⊢
      have h1 := hg vs (gcT keep T)
      generalize g vs (gcT keep T) = o at h1 hc ⊢
      obtain ⟨cs, ex, fm', T', ds'⟩ := o
      simp only [Bool.and_eq_true] at hb
      refine AWp.base (Nat.le_of_ble_eq_true hb.1) ?_
      exact AWp.enterG (pickGV_ok hp) hb.2 (h1 ⟨hc⟩)
end Go.Abs
