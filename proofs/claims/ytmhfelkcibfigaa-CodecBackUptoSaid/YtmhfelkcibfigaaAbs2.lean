/- An abstract machine over small tables of objects, and its soundness over the given model: no condition. -/
import Derived.Test.YtmhfelkcibfigaaAbs1
import Derived.Below
import Derived.ChangeSame
import Derived.SizedLaws
import Derived.WideKeyArgs
import Derived.OpenShut
import Derived.ChangeSlices
import Derived.WalkKit
import Derived.ProofKit
import Derived.Deep.DeepHandedRow
import Derived.Lib.LaidTab
import Derived.RangeFuncNested
import Derived.Lib.MakeNoZero
import Derived.Laws.Externs
import Derived.Lib.SmallJoins
set_option linter.unusedVariables false
set_option linter.unusedSimpArgs false
namespace Go.Abs

/-! ## Calls on the objects that the arguments reach -/
theorem nth_iff : ∀ {T : Tab} {p : Nat} {o : AObj}, nth T p = some o ↔ T[p]? = some (some o)
  | [], p, o => by simp [nth]
  | x :: r, 0, o => by simp [nth]
  | x :: r, p + 1, o => by simpa [nth] using nth_iff (T := r) (p := p) (o := o)

def reachGo (T : Tab) : Nat → List Nat → List Nat → List Nat
  | 0, _, acc => acc
  | _ + 1, [], acc => acc
  | f + 1, p :: r, acc => match memN p acc with
    | true => reachGo T f r acc
    | false => match nth T p with
      | some o => reachGo T f (r ++ idsV [] o.data) (acc ++ [p])
      | none => acc ++ [p]

def anyObj (T : Tab) (p : Nat) : List Nat → Bool
  | [] => false
  | q :: r => (match nth T q with | some o => hasId p o.data | none => false) || anyObj T p r
def backed (args : List AVal) (T : Tab) : List Nat → List Nat → Bool
  | _, [] => true
  | e, p :: r => (allHas.anyHas p args || anyObj T p e) && backed args T (p :: e) r

theorem hasId_get {p : Nat} {d : AVal} (hd : IsData d) (h : hasId p d = true) : ∃ i, i < d.len ∧ hasId p (d.get i) = true := by
  cases hd with
  | ints k xs => simp [hasId, idsIn] at h
  | agg vs =>
    refine Classical.byContradiction fun hn => ?_
    have : idsInL (fun q => !Nat.beq q p) vs = true := idsInL_of fun i hi => by
      have h1 : ¬ hasId p (vs.getD i un) = true := fun h2 => hn ⟨i, hi, h2⟩
      simpa [hasId] using h1
    simp [hasId, idsIn, this] at h
  | fam Z => simp [hasId, idsIn] at h
  | frows q g Z vs =>
    refine Classical.byContradiction fun hn => ?_
    have hcell : ∀ i, i < (AVal.frows q g Z vs).len → idsIn (fun q => !Nat.beq q p) ((frowsV q g Z ++ vs).getD i un) = true := fun i hi => by
      have h1 : ¬ hasId p ((AVal.frows q g Z vs).get i) = true := fun h2 => hn ⟨i, hi, h2⟩
      rw [← cells_get (by constructor) hi] at h1
      simpa [hasId, AVal.cells] using h1
    have hv : idsInL (fun q => !Nat.beq q p) vs = true := idsInL_of fun i hi => by
      have := hcell (Z.length + i) (by rw [frows_len]; omega)
      have e : (frowsV q g Z ++ vs).getD (Z.length + i) un = vs.getD i un := by simp [List.getD, List.getElem?_append_right (show (frowsV q g Z).length ≤ Z.length + i by rw [frowsV_len]; omega), frowsV_len]
      rwa [e] at this
    cases Z with
    | nil => simp [hasId, idsIn, hv] at h
    | cons z Z =>
      have := hcell 0 (by rw [frows_len]; simp; omega)
      have e : (frowsV q g (z :: Z) ++ vs).getD 0 un = .frow q g 0 ((z :: Z).getD 0 []).length := by
        rw [← frowsV_get q g (z :: Z) (by simp)]; simp [List.getD, List.getElem?_append_left (show 0 < (frowsV q g (z :: Z)).length by rw [frowsV_len]; simp)]
      rw [e] at this
      simp only [idsIn] at this
      simp [hasId, idsIn, hv, this] at h
theorem anyObj_ok {T : Tab} {p : Nat} : ∀ {l : List Nat}, anyObj T p l = true → ∃ q ∈ l, ∃ o, T[q]? = some (some o) ∧ hasId p o.data = true
  | q :: r, h => by
    simp only [anyObj, Bool.or_eq_true] at h
    rcases h with h | h
    · split at h
      · rename_i o ho; exact ⟨q, .head _, o, nth_iff.1 ho, h⟩
      · cases h
    · obtain ⟨q', h1, h2⟩ := anyObj_ok h; exact ⟨q', .tail _ h1, h2⟩
theorem backed_ok {gl : Nat → Option AVal} {ν : Nu} {T : Tab} {w : World} {args : List AVal} {vs : List Value} (hr : HR gl ν T w) (hvs : VRs ν args vs) :
    ∀ {l e : List Nat}, backed args T e l = true → (∀ q ∈ e, (ν q).isSome) → ∀ q ∈ l, (ν q).isSome
  | [], e, h, he, q, hq => by cases hq
  | p :: r, e, h, he, q, hq => by
    simp only [backed, Bool.and_eq_true, Bool.or_eq_true] at h
    have hp : (ν p).isSome := by
      rcases h.1 with h1 | h1
      · obtain ⟨a, ha, hp⟩ := anyHas_ok h1
        obtain ⟨j, hj⟩ := List.mem_iff_getElem?.1 ha
        have hlt := (List.getElem?_eq_some_iff.1 hj).1
        have := hvs.2 j hlt
        rw [show args.getD j un = a by simp [List.getD, hj]] at this
        exact this.hasId hp
      · obtain ⟨q', h2, o, ho, hd⟩ := anyObj_ok h1
        obtain ⟨l, hl⟩ := Option.isSome_iff_exists.1 (he q' h2)
        have hdd := (hr.obj q' o l ho hl).2.1
        obtain ⟨i, hi, hid⟩ := hasId_get hdd hd
        obtain ⟨x, _, hx⟩ := hr.read ho hl hi
        exact hx.hasId hid
    rcases List.mem_cons.1 hq with rfl | hq
    · exact hp
    · refine backed_ok hr hvs h.2 (fun q' hq' => ?_) q hq
      rcases List.mem_cons.1 hq' with rfl | hq'
      · exact hp
      · exact he q' hq'

/-- the small table: all that is reached; what may be written stays its own -/
def smallR (T : Tab) (wr : List Bool) (fps : List Nat) : List Nat → Nat → Option Tab
  | [], _ => some []
  | p :: r, i => match nth T p, smallR T wr fps r (i + 1) with
    | some ⟨d, g, ow, et⟩, some T0 => match idsIn (fun q => memN q fps) d with
      | true => some (some ⟨ren (idxN fps) d, g, nthB wr i && ow, et⟩ :: T0)
      | false => none
    | _, _ => none
theorem smallR_ok {T : Tab} {wr : List Bool} {fps : List Nat} : ∀ {l : List Nat} {i : Nat} {T0 : Tab}, smallR T wr fps l i = some T0 → T0.length = l.length ∧ ∀ j, j < l.length → ∃ o : AObj, T[l.getD j 0]? = some (some o) ∧ idsIn (fun q => memN q fps) o.data = true ∧
    T0[j]? = some (some ⟨ren (idxN fps) o.data, o.g, nthB wr (i + j) && o.own, o.et⟩)
  | [], i, T0, h => by simp [smallR] at h; subst h; exact ⟨rfl, fun j hj => by simp at hj⟩
  | p :: r, i, T0, h => by
    simp only [smallR] at h
    split at h
    · rename_i d g ow et T1 ho hT1
      obtain ⟨l1, l2⟩ := smallR_ok hT1
      split at h
      · rename_i e1
        injection h with h; subst h
        refine ⟨by simp [l1], fun j hj => ?_⟩
        cases j with
        | zero => exact ⟨_, by simpa using nth_some ho, e1, by simp⟩
        | succ j => simpa [Nat.add_assoc, Nat.add_comm 1 j] using l2 j (by simpa using hj)
      · cases h
    · cases h

/-- what is written back -/
def backR (live : Nat → Bool) (r1 : Nat → Nat) (T0 T1 : Tab) : List Nat → Nat → Tab → Option (List Con × Tab)
  | [], _, T => some ([], T)
  | p :: r, i, T => match nth T0 i, nth T1 i with
    | some o0, some ⟨d, g, ow, et⟩ => match o0.own with
      | true => match ow, idsIn live d && d.noFam with
        | true, true => backR live r1 T0 T1 r (i + 1) (T.set p (some ⟨ren r1 d, g, true, et⟩))
        | _, _ => none
      | false => match backR live r1 T0 T1 r (i + 1) T with
        | some (cs, T') => some (.eqN g o0.g :: cs, T')
        | none => none
    | _, _ => none
def ownAt (T0 : Tab) (i : Nat) : Prop := ∃ o : AObj, T0[i]? = some (some o) ∧ o.own = true
theorem backR_ok {live : Nat → Bool} {r1 : Nat → Nat} {T0 T1 : Tab} : ∀ {l : List Nat} {i : Nat} {T : Tab} {cs : List Con} {T' : Tab}, backR live r1 T0 T1 l i T = some (cs, T') → allP cs → l.Nodup → (∀ p ∈ l, p < T.length) →
    T'.length = T.length ∧ (∀ p, (∀ j, j < l.length → ownAt T0 (i + j) → p ≠ l.getD j 0) → T'[p]? = T[p]?) ∧
    (∀ j, j < l.length → ownAt T0 (i + j) → ∃ o1, T1[i + j]? = some (some o1) ∧ o1.own = true ∧ idsIn live o1.data = true ∧ T'[l.getD j 0]? = some (some (renO r1 o1)) ∧ o1.data.noFam = true) ∧
    (∀ j, j < l.length → ¬ ownAt T0 (i + j) → ∃ o0 o1, T0[i + j]? = some (some o0) ∧ T1[i + j]? = some (some o1) ∧ o1.g = o0.g)
  | [], i, T, cs, T', h, hc, hn, hl => by
    simp [backR] at h; obtain ⟨_, rfl⟩ := h
    exact ⟨rfl, fun p _ => rfl, fun j hj => by simp at hj, fun j hj => by simp at hj⟩
  | p :: r, i, T, cs, T', h, hc, hn, hl => by
    simp only [backR] at h
    obtain ⟨hn1, hn2⟩ := List.nodup_cons.1 hn
    split at h
    · rename_i o0 d g ow et h0 h1
      have h0 := nth_iff.1 h0
      have h1 := nth_iff.1 h1
      split at h
      · rename_i hw
        have hown : ownAt T0 i := ⟨o0, h0, hw⟩
        split at h
        · have e2 : (idsIn live d && d.noFam) = true := by assumption
          simp only [Bool.and_eq_true] at e2
          obtain ⟨e2, e3⟩ := e2
          obtain ⟨a1, a2, a3, a4⟩ := backR_ok h hc hn2 (fun q hq => by simpa using hl q (.tail _ hq))
          refine ⟨by simpa using a1, fun q hq => ?_, fun j hj hwj => ?_, fun j hj hwj => ?_⟩
          · rw [a2 q (fun j hj hwj => by
              have := hq (j + 1) (by simpa using hj) (by rwa [show i + (j + 1) = i + 1 + j by omega])
              simpa using this)]
            have := hq 0 (by simp) (by simpa using hown)
            rw [List.getElem?_set_ne]
            simp at this; exact fun e => this e.symm
          · cases j with
            | zero =>
              refine ⟨⟨d, g, true, et⟩, by simpa using h1, rfl, e2, ?_, e3⟩
              simp only [List.getD_cons_zero]
              rw [a2 p (fun j hj _ => fun e => hn1 (by rw [e, getD_el hj]; exact List.getElem_mem _))]
              rw [List.getElem?_set_self (hl p (.head _))]
              rfl
            | succ j => simpa [Nat.add_assoc, Nat.add_comm 1 j] using a3 j (by simpa using hj) (by rwa [show i + 1 + j = i + (j + 1) by omega])
          · cases j with
            | zero => exact absurd hown (by simpa using hwj)
            | succ j => simpa [Nat.add_assoc, Nat.add_comm 1 j] using a4 j (by simpa using hj) (by rwa [show i + 1 + j = i + (j + 1) by omega])
        · cases h
      · rename_i hw
        have hown : ¬ ownAt T0 i := by
          rintro ⟨o, e1, e2⟩
          rw [h0] at e1; injection e1 with e1; injection e1 with e1; subst e1
          rw [hw] at e2; cases e2
        split at h
        · rename_i cs' T2 hb
          injection h with h; injection h with e1 e2; subst e1 e2
          obtain ⟨a1, a2, a3, a4⟩ := backR_ok hb hc.2 hn2 (fun q hq => hl q (.tail _ hq))
          refine ⟨a1, fun q hq => a2 q (fun j hj hwj => ?_), fun j hj hwj => ?_, fun j hj hwj => ?_⟩
          · have := hq (j + 1) (by simpa using hj) (by rwa [show i + (j + 1) = i + 1 + j by omega])
            simpa using this
          · cases j with
            | zero => exact absurd (by simpa using hwj) hown
            | succ j => simpa [Nat.add_assoc, Nat.add_comm 1 j] using a3 j (by simpa using hj) (by rwa [show i + 1 + j = i + (j + 1) by omega])
          · cases j with
            | zero => exact ⟨o0, ⟨d, g, ow, et⟩, by simpa using h0, by simpa using h1, hc.1⟩
            | succ j => simpa [Nat.add_assoc, Nat.add_comm 1 j] using a4 j (by simpa using hj) (by rwa [show i + 1 + j = i + (j + 1) by omega])
        · cases h
    · cases h

/-- the new objects that are reached -/
def newsGo (k : Nat) (T1 : Tab) : Nat → List Nat → List Nat → List Nat
  | 0, _, acc => acc
  | _ + 1, [], acc => acc
  | f + 1, p :: r, acc => match Nat.blt p k || memN p acc with
    | true => newsGo k T1 f r acc
    | false => match nth T1 p with
      | some o => newsGo k T1 f (r ++ idsV [] o.data) (acc ++ [p])
      | none => acc ++ [p]
def ownIds : Tab → Tab → List Nat
  | some o0 :: T0, some o1 :: T1 => match o0.own with
    | true => idsV [] o1.data ++ ownIds T0 T1
    | false => ownIds T0 T1
  | _ :: T0, _ :: T1 => ownIds T0 T1
  | _, _ => []
def newsR (k : Nat) (live : Nat → Bool) (r1 : Nat → Nat) (T1 : Tab) : List Nat → Option Tab
  | [] => some []
  | q :: r => match nth T1 q, newsR k live r1 T1 r with
    | some ⟨d, g, ow, et⟩, some N => match ow, idsIn live d && d.noFam, Nat.ble k q with
      | true, true, true => some (some ⟨ren r1 d, g, true, et⟩ :: N)
      | _, _, _ => none
    | _, _ => none
theorem newsR_ok {k : Nat} {live : Nat → Bool} {r1 : Nat → Nat} {T1 : Tab} : ∀ {l : List Nat} {N : Tab}, newsR k live r1 T1 l = some N → N.length = l.length ∧ ∀ j, j < l.length → ∃ o, k ≤ l.getD j 0 ∧ T1[l.getD j 0]? = some (some o) ∧ o.own = true ∧ idsIn live o.data = true ∧ N[j]? = some (some (renO r1 o)) ∧ o.data.noFam = true
  | [], N, h => by simp [newsR] at h; subst h; exact ⟨rfl, fun j hj => by simp at hj⟩
  | q :: r, N, h => by
    simp only [newsR] at h
    split at h
    · rename_i d g ow et N' ho hN
      split at h
      · rename_i e1 e2
        simp only [Bool.and_eq_true] at e1
        obtain ⟨e1, e3⟩ := e1
        injection h with h; subst h
        obtain ⟨l1, l2⟩ := newsR_ok hN
        refine ⟨by simp [l1], fun j hj => ?_⟩
        cases j with
        | zero => exact ⟨_, Nat.le_of_ble_eq_true e2, by simpa using nth_some ho, rfl, e1, by simp [renO], e3⟩
        | succ j => simpa using l2 j (by simpa using hj)
      · cases h
    · cases h

def liveR (k : Nat) (news : List Nat) (i : Nat) : Bool := Nat.blt i k || memN i news
def callGoN (news : List Nat) (cs : List Con) (v : AVal) (T1 : Tab) (fps : List Nat) (args : List AVal) (T T0 : Tab) : Res :=
  match newsR fps.length (liveR fps.length news) (backId fps news T.length) T1 news, backR (liveR fps.length news) (backId fps news T.length) T0 T1 fps 0 T with
  | some N, some (cs2, T2) =>
    match nodupN fps && nodupN news && idsInL (fun p => memN p fps) args && backed args T [] fps && idsIn (liveR fps.length news) v with
    | true => ⟨cs2 ++ cs, ren (backId fps news T.length) v, T2 ++ N⟩
    | false => fail
  | _, _ => fail
def callGoR (sm : Res) (fps : List Nat) (args : List AVal) (T T0 : Tab) : Res :=
  match sm with
  | ⟨cs, v, T1⟩ => callGoN (newsGo fps.length T1 1000 (idsV [] v ++ ownIds T0 T1) []) cs v T1 fps args T T0
def callF (sm : Summary) (wr : List Bool) (fps : List Nat) (args : List AVal) (T : Tab) : Res :=
  match smallR T wr fps fps 0 with
  | some T0 => callGoR (sm (rens (idxN fps) args) T0) fps args T T0
  | none => fail
/-- a call: the callee on a small table of what the arguments reach -/
def callR (sm : Summary) (wr : List Bool) : Summary := fun args T => callF sm wr (reachGo T 1000 (idsVs [] args) []) args T

theorem callGoN_ok {P : Program} {gl : Nat → Option AVal} {f : FuncId} {args : List AVal} {T T0 T1 : Tab} {wr : List Bool} {fps news : List Nat} {ν : Nu} {w : World} {vs : Array Value} {cs : List Con} {v : AVal}
    (hT0 : smallR T wr fps fps 0 = some T0) (hS : allP cs → Small P gl f (rens (idxN fps) args) T0 v T1) (hc : allP (callGoN news cs v T1 fps args T T0).cs) (hr : HR gl ν T w) (hvs : VRs ν args vs.toList) :
    Calls P f vs w fun e w' => ∃ x, e = .returned x ∧ OpPost gl ν T w T.length ⟨[], (callGoN news cs v T1 fps args T T0).val, (callGoN news cs v T1 fps args T T0).tab⟩ x w' := by
  unfold callGoN at hc ⊢
  have nofail : ¬ allP fail.cs := by simp [fail, allP, Con.h]
  cases hN : newsR fps.length (liveR fps.length news) (backId fps news T.length) T1 news with
  | none => simp only [hN] at hc; exact absurd hc nofail
  | some N =>
    cases hB : backR (liveR fps.length news) (backId fps news T.length) T0 T1 fps 0 T with
    | none => simp only [hN, hB] at hc; exact absurd hc nofail
    | some q =>
      obtain ⟨cs2, T2⟩ := q
      simp only [hN, hB] at hc ⊢
      split at hc
      rotate_left
      · exact absurd hc nofail
      rename_i hck
      simp only [hck]
      simp only [Bool.and_eq_true] at hck
      obtain ⟨⟨⟨⟨k1, k2⟩, k3⟩, k4⟩, k5⟩ := hck
      rw [allP_append] at hc
      have hsm := hS hc.2
      have nd1 := nodupN_ok k1
      have nd2 := nodupN_ok k2
      obtain ⟨s1, s2⟩ := smallR_ok hT0
      obtain ⟨n1, n2⟩ := newsR_ok hN
      simp only [Nat.zero_add] at s2
      have hin : ∀ p ∈ fps, p < T.length := fun p hp => by
        obtain ⟨h1, h2⟩ := idxN_get hp
        obtain ⟨o, h3, _⟩ := s2 _ h1
        rw [h2] at h3
        exact (List.getElem?_eq_some_iff.1 h3).1
      obtain ⟨b1, b2, b3, b4⟩ := backR_ok hB hc.1 nd1 hin
      simp only [Nat.zero_add] at b2 b3 b4
      have hold : ∀ i, i < fps.length → backId fps news T.length i = fps.getD i 0 := fun i hi => by
        have : Nat.blt i fps.length = true := by simpa using hi
        simp only [backId, this, nthN_eq]
      have hnew : ∀ i, fps.length ≤ i → backId fps news T.length i = T.length + idxN news i := fun i hi => by
        have : Nat.blt i fps.length = false := by
          cases hb : Nat.blt i fps.length with
          | false => rfl
          | true => have : i < fps.length := by simpa using hb
                    omega
        simp [backId, this]
      have args_back : (rens (idxN fps) args).map (ren fun i => fps.getD i 0) = args := by
        rw [← rens_map]
        exact rens_rens (live := fun p => memN p fps) (fun p hp => (idxN_get (memN_ok.1 hp)).2) args k3
      have hlive : ∀ i, fps.length ≤ i → liveR fps.length news i = true → i ∈ news := fun i hi h => by
        simp only [liveR, Bool.or_eq_true] at h
        rcases h with h | h
        · have : i < fps.length := by simpa using h
          omega
        · exact memN_ok.1 h
      have := embed (k := fps.length) (T' := T2 ++ N) (fp := fun i => fps.getD i 0) (r1 := backId fps news T.length) (own0 := ownAt T0) (live := liveR fps.length news) hsm
        ⟨s1, fun i hi => ?_, fun i j hi hj hne _ he => hne (nodup_getD nd1 hi hj he)⟩
        ⟨by simp [b1], fun p hp hno => ?_, fun i hi hw => ?_, fun i hi hw => b4 i hi hw, fun p h1 h2 => ?_, fun i hi => ⟨by simp [liveR, hi], hold i hi⟩, fun i hi h => ?_, fun i j hi hj h h' he => ?_⟩
        ?_ k5 hr (by rw [args_back]; exact hvs) ?_
      · exact this
      · obtain ⟨o, e1, e2, e3⟩ := s2 i hi
        refine ⟨_, o, e3, e1, rfl, ?_, ?_, fun h => ?_, ?_⟩
        · exact (ren_ren (live := fun p => memN p fps) (fun p hp => (idxN_get (memN_ok.1 hp)).2) _ e2).symm
        · exact idsIn_ren (live := fun p => memN p fps) (fun p hp => by simpa using (idxN_get (memN_ok.1 hp)).1) _ e2
        · simp only [Bool.and_eq_true] at h; exact ⟨h.2, rfl⟩
        · exact ⟨fun h => ⟨_, e3, h⟩, fun ⟨o', h1, h2⟩ => by rw [e3] at h1; injection h1 with h1; injection h1 with h1; subst h1; exact h2⟩
      · rw [List.getElem?_append_left (by omega)]
        exact b2 p fun j hj hw => hno j hj hw
      · obtain ⟨o1, e1, e2, e3, e4, e5⟩ := b3 i hi hw
        refine ⟨o1, e1, e2, ?_, e3, e5⟩
        have hlt := (List.getElem?_eq_some_iff.1 e4).1
        rw [List.getElem?_append_left hlt, e4]
      · have hj : p - T.length < news.length := by simp [b1, n1] at h2; omega
        obtain ⟨o, hge, e1, e2, e3, e4, e5⟩ := n2 _ hj
        have hmem : news.getD (p - T.length) 0 ∈ news := by rw [getD_el hj]; exact List.getElem_mem _
        have hidx := idxN_get hmem
        have hpos : idxN news (news.getD (p - T.length) 0) = p - T.length := nodup_getD nd2 hidx.1 hj hidx.2
        refine ⟨_, o, hge, by simp only [liveR]; rw [memN_ok.2 hmem, Bool.or_true], by rw [hnew _ hge, hpos]; omega, e1, e2, ?_, e3, e5⟩
        rw [List.getElem?_append_right (by omega), b1, e4]
      · rw [hnew i hi]
        have := (idxN_get (hlive i hi h)).1
        simp [b1, n1]; omega
      · rw [hnew i hi, hnew j hj] at he
        have e1 := (idxN_get (hlive i hi h)).2
        have e2 := (idxN_get (hlive j hj h')).2
        rw [← e1, ← e2]
        congr 1; omega
      · exact fun a ha => idsInL_mem (idsInL_ren (live := fun p => memN p fps) (fun p hp => by simpa using (idxN_get (memN_ok.1 hp)).1) args k3) a ha
      · intro i hi
        exact backed_ok hr hvs k4 (fun q hq => by cases hq) _ (by rw [getD_el hi]; exact List.getElem_mem _)

/-- what has to be shown of a specification -/
def SmOk (P : Program) (gl : Nat → Option AVal) (f : FuncId) (sm : Summary) : Prop := ∀ args T0, allP (sm args T0).cs → Small P gl f args T0 (sm args T0).val (sm args T0).tab
theorem callR_ok {P : Program} {gl : Nat → Option AVal} {f : FuncId} {sm : Summary} (h : SmOk P gl f sm) (wr : List Bool) : SumOk P gl f (callR sm wr) := by
  refine sumOk_of fun args T hc ν w vs hr hv => ?_
  unfold callR at hc ⊢
  generalize reachGo T 1000 (idsVs [] args) [] = fps at hc ⊢
  unfold callF at hc ⊢
  cases hT0 : smallR T wr fps fps 0 with
  | none => rw [hT0] at hc; exact absurd hc (by simp [fail, allP, Con.h])
  | some T0 =>
    rw [hT0] at hc
    simp only at hc ⊢
    unfold callGoR at hc ⊢
    have h1 := h (rens (idxN fps) args) T0
    generalize sm (rens (idxN fps) args) T0 = r at h1 hc ⊢
    obtain ⟨cs, v, T1⟩ := r
    exact callGoN_ok hT0 h1 hc hr hv
/-- a body's run, as such -/
def smRun (m : Mode) (E : Env) (fn : Func) (orc : OrcL) (fuel : Nat) (ds : List (Option Bool)) : Summary := fun args T0 => settled m (runF E fn orc fuel args T0 ds)
theorem smRun_ok {m : Mode} {E : Env} (hE : EnvOk E) (hm : E.P.follows .mixedOrders = true) {f : FuncId} {fn : Func} (hf : E.P.funcs[f]? = some fn) (hb : fn.body.isSome = true) (orc : OrcL) (hO : FnOrc E fn orc) (fuel : Nat) (ds : List (Option Bool)) : SmOk E.P E.gl f (smRun m E fn orc fuel ds) := by
  intro args T0 hc
  unfold smRun at hc ⊢
  obtain ⟨h1, h2, h3⟩ := settled_ok hc
  rw [h2, h3]
  exact runF_small hE hm hf hb orc hO fuel ds h1
/-- a function's summary: its body, run at the call -/
def sumI (m : Mode) (E : Env) (fn : Func) (orc : OrcL) (fuel : Nat) (ds : List (Option Bool)) (wr : List Bool) : Summary := callR (smRun m E fn orc fuel ds) wr
theorem sumI_ok {m : Mode} {E : Env} (hE : EnvOk E) (hm : E.P.follows .mixedOrders = true) {f : FuncId} {fn : Func} (hf : E.P.funcs[f]? = some fn) (hb : fn.body.isSome = true) (orc : OrcL) (hO : FnOrc E fn orc) (fuel : Nat) (ds : List (Option Bool)) (wr : List Bool) :
    SumOk E.P E.gl f (sumI m E fn orc fuel ds wr) := callR_ok (smRun_ok hE hm hf hb orc hO fuel ds) wr
end Go.Abs

set_option linter.unusedVariables false
set_option linter.unusedSimpArgs false
namespace Go.Abs

/-! ## Words for proofs: nothing here unfolds by itself -/
structure Ok (o : Out) : Prop where h : allP o.cs
structure OkR (r : Res) : Prop where h : allP r.cs
def To (E : Env) (n k : Nat) (c : Code) (fm : Fm) (T : Tab) (ex : AExit) (fm' : Fm) (T' : Tab) : Prop := AWp E n k c fm T fun e f t => e = ex ∧ f = fm' ∧ t = T'

theorem Ok.of {o : Out} {cs : List Con} (e : o.cs = cs) (h : allP cs) : Ok o := ⟨e ▸ h⟩
theorem OkR.of {o : Res} {cs : List Con} (e : o.cs = cs) (h : allP cs) : OkR o := ⟨e ▸ h⟩
theorem To.is {E : Env} {n k : Nat} {c : Code} {fm : Fm} {T : Tab} {o : Out} (h : To E n k c fm T o.ex o.fm o.tab) : AWp E n k c fm T (Is o) := h
theorem To.of {E : Env} (hE : EnvOk E) (hm : E.P.follows .mixedOrders = true) {n k m : Nat} {orc : Orc} (hk : k ≤ orc.kb) {c : Code} (hO : OrcOk E n orc c) {f : Nat} {fm : Fm} {T : Tab} {ds : List (Option Bool)} {slots : List Nat} {o : Out}
    (ho : trim k m slots (run E n orc f c fm T ds) = o) (h : Ok o) {ex : AExit} {fm' : Fm} {T' : Tab} (e1 : o.ex = ex) (e2 : o.fm = fm') (e3 : o.tab = T') : To E n k c fm T ex fm' T' := by
  subst e1 e2 e3
  exact run_trim' hE hm m orc hk hO f ds slots ho h.h
theorem To.base {E : Env} {n k kb : Nat} {c : Code} {fm : Fm} {T : Tab} {ex : AExit} {fm' : Fm} {T' : Tab} (hk : k ≤ kb) (h : To E n kb c fm T ex fm' T') : To E n k c fm T ex fm' T' := AWp.base hk h

/-- a counted loop in its block, and out of it -/
theorem To.rounds {E : Env} {n k : Nat} {id : Nat} {c : Code} (F : Nat → Fm) (T : Nat → Tab) (N : Nat) {fm' : Fm} {T' : Tab}
    (round : ∀ i, i < N → To E n k c (F i) (T i) .normal (F (i + 1)) (T (i + 1))) (last : To E n k c (F N) (T N) (.exit id) fm' T') : To E n k (.block id (.loop c)) (F 0) (T 0) .normal fm' T' := by
  refine AWp.block ?_
  refine AWp.loop (fun fm T' m => ∃ i, i ≤ N ∧ m = N - i ∧ fm = F i ∧ T' = T i) N ⟨0, Nat.zero_le _, rfl, rfl, rfl⟩ ?_
  rintro fm T1 m ⟨i, hi, rfl, rfl, rfl⟩
  rcases Nat.lt_or_ge i N with hlt | hge
  · refine (round i hlt).mono fun ex fm1 T1 ⟨e1, e2, e3⟩ => ?_
    subst e1 e2 e3
    exact ⟨N - (i + 1), by omega, i + 1, hlt, rfl, rfl, rfl⟩
  · have : i = N := by omega
    subst this
    refine last.mono fun ex fm1 T1 ⟨e1, e2, e3⟩ => ?_
    subst e1 e2 e3
    simp
/-- the same, where the last round leaves the block too -/
theorem To.roundsRet {E : Env} {n k : Nat} {id : Nat} {c : Code} (F : Nat → Fm) (T : Nat → Tab) (N : Nat) {ex : AExit} {fm' : Fm} {T' : Tab}
    (round : ∀ i, i < N → To E n k c (F i) (T i) .normal (F (i + 1)) (T (i + 1))) (last : To E n k c (F N) (T N) ex fm' T') (hx : ex ≠ .normal) (hi : ex ≠ .exit id) : To E n k (.block id (.loop c)) (F 0) (T 0) ex fm' T' := by
  refine AWp.block ?_
  refine AWp.loop (fun fm T' m => ∃ i, i ≤ N ∧ m = N - i ∧ fm = F i ∧ T' = T i) N ⟨0, Nat.zero_le _, rfl, rfl, rfl⟩ ?_
  rintro fm T1 m ⟨i, hi', rfl, rfl, rfl⟩
  rcases Nat.lt_or_ge i N with hlt | hge
  · refine (round i hlt).mono fun ex fm1 T1 ⟨e1, e2, e3⟩ => ?_
    subst e1 e2 e3
    exact ⟨N - (i + 1), by omega, i + 1, hlt, rfl, rfl, rfl⟩
  · have : i = N := by omega
    subst this
    refine last.mono fun e fm1 T1 ⟨e1, e2, e3⟩ => ?_
    subst e1 e2 e3
    cases e with
    | normal => exact absurd rfl hx
    | exit id' =>
      have : id' ≠ id := fun h => hi (by rw [h])
      simp [this]
    | goto l => simp
    | ret => simp

/-- nothing is a slice of an empty object -/
theorem AWp.nilTo {E : Env} {n k : Nat} {c : Code} {fm : Fm} (fm' : Fm) {T : Tab} {post : AExit → Fm → Tab → Prop} (kk : IntKind) (et : TypeId)
    (hf : ∀ t v, look fm' t = some v → look fm t = some v ∨ (look fm t = some .nilSlice ∧ ∃ sz, v = .slice sz T.length 0 0 0 none))
    (h : AWp E n k c fm' (T ++ [some ⟨.ints kk [], 0, true, et⟩]) post) : AWp E n k c fm T post := by
  intro rr D ν a w hs hrd
  have hn : ν T.length = none := by
    cases hν : ν T.length with
    | none => rfl
    | some l => have := hs.hr.lt _ l hν; omega
  obtain ⟨l0, hl0⟩ : ∃ l0 : Loc, l0 = ⟨⟨0, 0, none⟩, 0, 0⟩ := ⟨_, rfl⟩
  have hm : NuLe ν (upd ν T.length l0) := NuLe.upd_new (ν := ν) l0 hn
  have same : ∀ p, p ≠ T.length → upd ν T.length l0 p = ν p := fun p hp => upd_other ν l0 hp
  have self : upd ν T.length l0 T.length = some l0 := upd_same ν _ l0
  have getT : ∀ p o, (T ++ [some (⟨.ints kk [], 0, true, et⟩ : AObj)])[p]? = some o → (p < T.length ∧ T[p]? = some o) ∨ (p = T.length ∧ o = some ⟨.ints kk [], 0, true, et⟩) := by
    intro p o ho
    rcases Nat.lt_or_ge p T.length with hp | hp
    · rw [List.getElem?_append_left hp] at ho; exact .inl ⟨hp, ho⟩
    · rw [List.getElem?_append_right hp] at ho
      have hlt := (List.getElem?_eq_some_iff.1 ho).1
      have hp0 : p = T.length := by simp at hlt; omega
      subst hp0
      simp at ho
      exact .inr ⟨rfl, ho.symm⟩
  have hown : ∀ b, Own (upd ν T.length l0) (T ++ [some ⟨.ints kk [], 0, true, et⟩]) b → Own ν T b := by
    rintro b ⟨p, o, l, h1, h2, h3, h4, h5⟩
    rcases getT p _ h1 with ⟨hp, h1⟩ | ⟨hp, h1⟩
    · rw [same p (by omega)] at h3; exact ⟨p, o, l, h1, h2, h3, h4, h5⟩
    · subst hp; rw [self] at h3; injection h3 with h3; subst h3; subst hl0; simp at h4
  have hr' : HR E.gl (upd ν T.length l0) (T ++ [some ⟨.ints kk [], 0, true, et⟩]) w := by
    refine ⟨fun p o l ho hl => ?_, fun p l hl => ?_, fun p hp => ?_, fun p l hl h0 => ?_, fun p q o o' l l' ho ho' hw hne hl hl' h0 h0' => ?_, fun b d hb => ?_, fun p o l ho hl => ?_⟩
    · rcases getT p _ ho with ⟨hp, h1⟩ | ⟨hp, h1⟩
      · rw [same p (by omega)] at hl
        obtain ⟨g1, g2⟩ := hs.hr.obj p o l h1 hl
        exact ⟨g1, g2.kept hm fun _ => rfl⟩
      · subst hp; rw [self] at hl; injection hl with hl; subst hl; subst hl0
        injection h1 with h1; subst h1
        exact ⟨rfl, .ints _ _, .inr (.inr ⟨rfl, rfl⟩)⟩
    · by_cases e : p = T.length
      · subst e; simp
      · rw [same p e] at hl; have := hs.hr.lt p l hl; simp; omega
    · rcases getT p _ hp with ⟨hp', h1⟩ | ⟨hp', h1⟩
      · rw [same p (by omega)]; exact hs.hr.hole p h1
      · cases h1
    · by_cases e : p = T.length
      · subst e; rw [self] at hl; injection hl with hl; subst hl; subst hl0; simp at h0
      · rw [same p e] at hl; exact hs.hr.blk p l hl h0
    · rcases getT p _ ho with ⟨hp, h1⟩ | ⟨hp, h1⟩
      · rcases getT q _ ho' with ⟨hq, h2⟩ | ⟨hq, h2⟩
        · rw [same p (by omega)] at hl; rw [same q (by omega)] at hl'
          exact hs.hr.sep p q o o' l l' h1 h2 hw hne hl hl' h0 h0'
        · subst hq; rw [self] at hl'; injection hl' with hl'; subst hl'; subst hl0; simp at h0'
      · subst hp; rw [self] at hl; injection hl with hl; subst hl; subst hl0; simp at h0
    · obtain ⟨h1, h2⟩ := hs.hr.glob b d hb
      exact ⟨fun h3 => h1 (hown b h3), h2⟩
    · rcases getT p _ ho with ⟨hp, h1⟩ | ⟨hp, h1⟩
      · rw [same p (by omega)] at hl
        exact (hs.hr.fam p o l h1 hl).sub hown
      · injection h1 with h1; subst h1
        exact FamOk.no rfl
  have hs' : SRel E D (upd ν T.length l0) fm' (T ++ [some ⟨.ints kk [], 0, true, et⟩]) n a w := by
    refine ⟨hr', fun t v hv => ?_, hs.size, hs.defers⟩
    rcases hf t v hv with h1 | ⟨h1, sz, rfl⟩
    · exact (hs.fm t v h1).mono hm
    · have := hs.fm t _ h1
      generalize a.tmps.getD t undef = x at this ⊢
      cases this
      exact .sliceZ none self (by rw [hl0]) (.inr ⟨rfl, by rw [hl0]; exact Nat.le_refl _⟩)
  refine wpIn_mono (h rr D _ a w hs' hrd) fun e a' w' ⟨ex, f1, T1, ν1, h1, h2, h3, h4, h5⟩ => ⟨ex, f1, T1, ν1, h1, h2, h3, fun p hp l hl => ?_, ?_⟩
  · have := hs.hr.lt p l hl
    exact h4 p hp l (by rw [same p (by omega)]; exact hl)
  · exact ⟨h5.os, h5.tape, h5.output, h5.size, fun b hb hO => h5.block b hb (fun h => hO (hown b h)), fun b hb => (h5.own b hb).imp (hown b) id⟩

open Go.RowKit in
/-! ## Demands: those that are flagged are computed, the same ones compared, the rest shown -/
def chkF : List Bool → List Con → Bool
  | _, [] => true
  | true :: fl, c :: cs => match c.chk modeB with
    | some true => chkF fl cs
    | _ => false
  | _ :: fl, _ :: cs => chkF fl cs
  | [], _ :: _ => false
def restF : List Bool → List Con → List Con
  | true :: fl, _ :: cs => restF fl cs
  | false :: fl, c :: cs => match c with
    | .tab _ _ => restF fl cs
    | .val _ _ => restF fl cs
    | c => c :: restF fl cs
  | _, _ => []
theorem demands : ∀ {fl : List Bool} {cs : List Con}, chkF fl cs = true → lefts cs = rights cs → allP (restF fl cs) → allP cs
  | _, [], _, _, _ => trivial
  | [], _ :: _, h, _, _ => by simp [chkF] at h
  | true :: fl, c :: cs, h1, h2, h3 => by
    simp only [chkF] at h1
    split at h1
    · rename_i hk
      have hc := Con.chk_ok hk
      refine ⟨hc, demands h1 ?_ h3⟩
      cases c <;> simp only [lefts, rights] at h2 ⊢ <;> first | exact h2 | (injection h2)
    · cases h1
  | false :: fl, c :: cs, h1, h2, h3 => by
    simp only [chkF] at h1
    cases c with
    | tab a b =>
      simp only [lefts, rights] at h2
      injection h2 with h4 h5
      exact ⟨h4, demands h1 h5 h3⟩
    | val a b =>
      simp only [lefts, rights] at h2
      injection h2 with h4 h5
      injection h4 with h4 _
      injection h4 with h4
      injection h4 with h4
      exact ⟨h4, demands h1 h5 h3⟩
    | _ => exact ⟨h3.1, demands h1 h2 h3.2⟩
theorem Ok.dem {o : Out} {fl : List Bool} {l : List Con} (h1 : chkF fl o.cs = true) (h2 : lefts o.cs = rights o.cs) (h3 : restF fl o.cs = l) (h : allP l) : Ok o := ⟨demands h1 h2 (h3 ▸ h)⟩
theorem OkR.dem {o : Res} {fl : List Bool} {l : List Con} (h1 : chkF fl o.cs = true) (h2 : lefts o.cs = rights o.cs) (h3 : restF fl o.cs = l) (h : allP l) : OkR o := ⟨demands h1 h2 (h3 ▸ h)⟩

/-- a body's run, as a contract -/
theorem small_of {E : Env} (hE : EnvOk E) (hm : E.P.follows .mixedOrders = true) {f : FuncId} {fn : Func} (hf : E.P.funcs[f]? = some fn) (hb : fn.body.isSome = true) {orc : OrcL} (hO : FnOrc E fn orc) {fuel : Nat} {args : List AVal} {T : Tab} {ds : List (Option Bool)} {R : Res}
    (hR : runF E fn orc fuel args T ds = R) (h : OkR R) {v : AVal} {T1 : Tab} (hv : R.val = v) (ht : R.tab = T1) : Small E.P E.gl f args T v T1 := by
  subst hv ht hR
  exact runF_small hE hm hf hb orc hO fuel ds h.h
theorem nofail : ¬ allP fail.cs := by simp [fail, allP, Con.h]
end Go.Abs
namespace Go.Abs
/-- of a table only the first objects are kept: what came in -/
theorem small_drop {P : Program} {gl : Nat → Option AVal} {f : FuncId} {args : List AVal} {T0 T1 : Tab} {v : AVal} (h : Small P gl f args T0 v T1) (hl : T0.length ≤ T1.length := by (first | exact Nat.zero_le _ | simp)) (hi : tabIn T0.length (takeT T0.length T1) = true := by rfl) (hv : noIds v = true := by rfl) :
    Small P gl f args T0 v (takeT T0.length T1) := by
  intro ν w vs hr hvs
  refine (h ν w vs hr hvs).mono ?_
  rintro e w' ⟨x, ν', rfl, h1, h2, h3, h4⟩
  have hs : SRel ⟨P, fun _ => none, fun _ => none, gl⟩ [] ν' [] T1 0 { tmps := #[], defers := [] } w' := ⟨h2, fun t u hu => by simp [look] at hu, Nat.zero_le _, rfl⟩
  obtain ⟨ν2, s2, e5, e6⟩ := hs.cut (m := T0.length) (f := []) hl (fun t u hu => by simp [look] at hu) hi
  refine ⟨x, ν2, rfl, ?_, s2.hr, fun p hp l hl => ?_, h4.sub e6⟩
  · have := h1.ren (ν' := ν2) (r := id) (live := fun _ => false) (fun i l hb => by cases hb) hv
    rwa [ren_no v hv] at this
  · obtain ⟨l', g1, g2⟩ := h3 p hp l hl
    exact ⟨l', by rw [e5 p hp]; exact g1, g2⟩
end Go.Abs

set_option linter.unusedVariables false
namespace Go.Abs
open Go.RowKit Go.WideShapes Go.ChangeShapes
section
variable {H : Type} {enc : TypeId × Value → H} {P : Program}
theorem post_of_below {f : Func} {s : ChangeSpec} {apart fresh handsOn again : Bool} {W W' : World} {args : Array Value} {v : Value} {ds gs : List (DataW H)} {before pa pv : List MemPlace}
    (hW : DataW.Whole enc P f.params.toList s.vars apart W args.toList ds gs before)
    (hres : ∀ (b : Nat) (sp : Nat → Bool) (hd : Bool), DataW.TrodAll enc P W' b sp hd f.resultTypes.toList (v.resultList f.resultTypes.size) (s.fn H (ds ++ gs)).results [])
    (hargs : ∀ sp : Nat → Bool, (∀ p ∈ before, sp p.block = true) → DataW.TrodAll enc P W' 0 sp true f.params.toList args.toList (s.fn H (ds ++ gs)).args pa)
    (hvars : ∀ sp : Nat → Bool, (∀ p ∈ before, sp p.block = true) → DataW.TrodVars enc P W' sp s.vars (s.fn H (ds ++ gs)).vars pv)
    (hps : before = pa ++ pv) (hb : Below W.heap.size W W')
    (hok : ∀ (j : Nat) (t : TypeId) (r : Value), f.resultTypes[j]? = some t → (v.resultList f.resultTypes.size)[j]? = some r → Value.okWide P W' .any 0 t r) :
    s.post enc P f apart fresh handsOn again W args v W' := by
  have hlt : ∀ p ∈ before, p.block < W.heap.size := fun p hp => hW.lt p hp
  have hold : ∀ p ∈ before, (fun b => decide (b < W.heap.size)) p.block = true := fun p hp => by simpa using hlt p hp
  refine ⟨ds, gs, before, [], pa, pv, hW, hres _ _ _, hargs _ hold, hvars _ hold, World.keptBut_mono (fun p hp => ⟨hp, ?_⟩) (hb.frame (· ∈ before)), fun _ => ?_⟩
  · rw [hps, List.mem_append] at hp
    exact Or.inr hp
  · obtain ⟨_, _, _, _, _, hz, hn⟩ := hW
    refine ⟨hok, _, _, ([] ++ pa) ++ pv, ⟨[] ++ pa, pv, trodAll_append (hargs _ (fun _ _ => rfl)) (hres _ _ _), hvars _ (fun _ _ => rfl), rfl, ?_, ?_⟩, ?_⟩
    · intro b off hp
      have hin : MemPlace.cell b off ∈ before := by rw [hps]; simpa using hp
      rw [hb.frozen (hlt _ hin)]
      exact hz b off hin
    · intro ha
      have := hn ha
      rw [hps] at this
      simpa using this
    · intro p hp _
      rw [hps]
      simpa using hp
end
end Go.Abs

set_option linter.unusedVariables false
set_option linter.unusedSimpArgs false
namespace Go.Abs
open Go.RowKit Go.WideShapes Go.ChangeShapes Go.ChangeAt

/-! ## Rows of laws -/
section
variable {H : Type} {enc : TypeId × Value → H} {P : Program}

theorem trodAll_stays (hl : laidOutB P = true) {W W' : World} {sp' : Nat → Bool} : ∀ {ts : List TypeId} {vs : List Value} {ds : List (DataW H)} {ps : List MemPlace}, (∀ t ∈ ts, P.readableRec t = true ∧ t < P.types.size) →
    DataW.TrodAll enc P W 0 (fun _ => true) true ts vs ds ps → (∀ p ∈ ps, W.sameAt W' p) → (∀ p ∈ ps, sp' p.block = true) → DataW.TrodAll enc P W' 0 sp' true ts vs ds ps
  | [], vs, ds, ps, _, h, _, _ => by
    obtain ⟨rfl, rfl, rfl⟩ := trodAll_nil h
    exact h
  | t :: ts, vs, ds, ps, ht, h, h1, h2 => by
    obtain ⟨v, vs', d, ds', p, q, rfl, rfl, rfl, g1, g2⟩ := trodAll_cons h
    exact trodAll_cons_mk (WideElems.Trod_stays hl (ht t (.head _)).1 (ht t (.head _)).2 g1 (fun p hp => h1 p (List.mem_append_left _ hp)) (fun p hp => h2 p (List.mem_append_left _ hp)))
      (trodAll_stays hl (fun t ht' => ht t (.tail _ ht')) g2 (fun p hp => h1 p (List.mem_append_right _ hp)) (fun p hp => h2 p (List.mem_append_right _ hp)))

theorem sameAt_below {W W' : World} (h : Below W.heap.size W W') {p : MemPlace} (hp : p.block < W.heap.size) : W.sameAt W' p := by
  have hb := h.block p.block hp
  cases p with
  | cell b off => exact World.cell?_of_block hb
  | map b => exact hb

/-- a law's ending: true, and all that came in reads as before -/
theorem law_post {f : Func} {s : ChangeSpec} {tb : TypeId} (hl : laidOutB P = true) (hts : ∀ t ∈ f.params.toList, P.readableRec t = true ∧ t < P.types.size) (hvars : s.vars = [])
    {W W' : World} {args : Array Value} {ds gs : List (DataW H)} {before : List MemPlace} (hW : DataW.Whole enc P f.params.toList s.vars false W args.toList ds gs before)
    (hspec : s.fn H (ds ++ gs) = { results := [.lit (.bool true)], args := ds }) (hr : f.resultTypes = #[tb]) (hb : P.underlying tb = some .bool) (hbel : Below W.heap.size W W') :
    s.post enc P f false true false false W args (.bool true) W' := by
  have hW' := hW
  obtain ⟨p, q, hA, hV, rfl, hfz, hnd⟩ := hW
  rw [hvars] at hV
  obtain ⟨rfl, rfl⟩ := trodVars_none hV
  have hlt : ∀ x ∈ p, x.block < W.heap.size := fun x hx => hW'.lt x (by simpa using hx)
  refine post_of_below (pa := p) (pv := []) hW' (fun _ _ _ => ?_) (fun sp hsp => ?_) (fun sp _ => ?_) (by simp) hbel ?_
  · rw [hspec, hr]
    exact trodAll_cons_mk (shut_bool hb _) trodAll_mk0
  · rw [hspec]
    exact trodAll_stays hl hts hA (fun x hx => sameAt_below hbel (hlt x hx)) (fun x hx => hsp x (by simpa using hx))
  · rw [hspec, hvars]
    exact rfl
  · exact ok_one hr rfl (okWide_bool_mk hb _)

def nuL (ls : List Loc) : Nu := fun p => ls[p]?
/-- what came in is a table of objects that are not written -/
theorem HR.args {T : Tab} {ls : List Loc} {W : World} (hlen : T.length = ls.length)
    (h : ∀ (p : Nat) (o : Option AObj), T[p]? = some o → ∃ (d : AVal) (et : TypeId) (l : Loc), o = some ⟨d, 0, false, et⟩ ∧ ls[p]? = some l ∧ l.g = 0 ∧ IsData d ∧ d.len ≤ l.room ∧ (0 < l.room → l.a.block < W.heap.size) ∧ (∀ i, i < d.len → (∃ x, W.cell? (l.a.add i) = some x ∧ VR (nuL ls) (d.get i) x)) ∧ FamOk (fun _ => False) W ⟨d, 0, false, et⟩ l) :
    HR (fun _ => none) (nuL ls) T W := by
  refine ⟨fun p o l ho hl => ?_, fun p l hl => ?_, fun p hp => ?_, fun p l hl h0 => ?_, fun p q o o' l l' ho ho' hw hne hl hl' h0 h0' => ?_, fun b d hb => (by cases hb), fun p o l ho hl => ?_⟩
  · obtain ⟨d, et, l1, e1, e2, e3, e4, e5, e6, e7⟩ := h p _ ho
    injection e1 with e1; subst e1
    simp only [nuL] at hl
    rw [e2] at hl; injection hl with hl; subst hl
    exact ⟨e3.symm, e4, .inr (.inl ⟨rfl, e5, e7.1⟩)⟩
  · simp only [nuL] at hl
    rw [hlen]; exact (List.getElem?_eq_some_iff.1 hl).1
  · obtain ⟨d, et, l1, e1, _⟩ := h p _ hp
    cases e1
  · simp only [nuL] at hl
    have hlt := (List.getElem?_eq_some_iff.1 hl).1
    obtain ⟨o, ho⟩ : ∃ o, T[p]? = some o := ⟨T[p]'(by omega), List.getElem?_eq_getElem (by omega)⟩
    obtain ⟨d, et, l1, e1, e2, e3, e4, e5, e6, e7⟩ := h p o ho
    rw [e2] at hl; injection hl with hl; subst hl
    exact e6 h0
  · obtain ⟨d, et, l1, e1, _⟩ := h p _ ho
    injection e1 with e1; subst e1
    cases hw
  · obtain ⟨d, et, l1, e1, e2, e3, e4, e5, e6, e7, e8⟩ := h p _ ho
    injection e1 with e1; subst e1
    simp only [nuL] at hl
    rw [e2] at hl; injection hl with hl; subst hl
    refine e8.sub ?_
    rintro b ⟨q, oq, lq, k1, k2, _⟩
    obtain ⟨d', et', l', f1, _⟩ := h q _ k1
    injection f1 with f1; subst f1
    cases k2

/-- a law over what came in -/
theorem calls_args {f : FuncId} {args : List AVal} {v : AVal} {T T1 : Tab} {ls : List Loc} {w : World} {vs : Array Value} {x : Value} (h : Small P (fun _ => none) f args T v T1) (hT : HR (fun _ => none) (nuL ls) T w) (hown : ∀ (p : Nat) (o : AObj), T[p]? = some (some o) → o.own = false)
    (hx : ∀ ν y, VR ν v y → y = x) (hv : VRs (nuL ls) args vs.toList) :
    Calls P f vs w fun e w' => e = .returned x ∧ Below w.heap.size w w' := by
  refine (h (nuL ls) w vs hT hv).mono ?_
  rintro e w' ⟨y, ν', rfl, h1, h2, h3, h4⟩
  refine ⟨by rw [hx _ _ h1], h4.os, h4.tape, h4.output, h4.size, fun b hb => h4.block b hb ?_⟩
  rintro ⟨p, o, l, ho, hw, _⟩
  rw [hown p o ho] at hw
  cases hw
theorem bytes_obj {W : World} {zs : List Int} {l : Loc} {ν : Nu} (hcell : ∀ i, i < zs.length → W.cell? (l.a.add i) = some (.int .u8 (zs.getD i 0))) : ∀ i, i < (AVal.ints .u8 zs).len → ∃ x, W.cell? (l.a.add i) = some x ∧ VR ν ((AVal.ints .u8 zs).get i) x :=
  fun i hi => ⟨_, hcell i hi, .int _ _⟩
end
end Go.Abs

set_option linter.unusedVariables false
set_option linter.unusedSimpArgs false
namespace Go.Abs

/-- an empty object beside the others -/
theorem HR.pushEmpty {gl : Nat → Option AVal} {ν : Nu} {T : Tab} {w : World} (hr : HR gl ν T w) (kk : IntKind) (et : TypeId) :
    ∃ l0 : Loc, l0.g = 0 ∧ l0.room = 0 ∧ HR gl (upd ν T.length l0) (T ++ [some ⟨.ints kk [], 0, true, et⟩]) w ∧ NuLe ν (upd ν T.length l0) ∧ (∀ b, Own (upd ν T.length l0) (T ++ [some ⟨.ints kk [], 0, true, et⟩]) b → Own ν T b) := by
  have hn : ν T.length = none := by
    cases hν : ν T.length with
    | none => rfl
    | some l => have := hr.lt _ l hν; omega
  obtain ⟨l0, hl0⟩ : ∃ l0 : Loc, l0 = ⟨⟨0, 0, none⟩, 0, 0⟩ := ⟨_, rfl⟩
  have hm : NuLe ν (upd ν T.length l0) := NuLe.upd_new (ν := ν) l0 hn
  have same : ∀ p, p ≠ T.length → upd ν T.length l0 p = ν p := fun p hp => upd_other ν l0 hp
  have self : upd ν T.length l0 T.length = some l0 := upd_same ν _ l0
  have getT : ∀ p o, (T ++ [some (⟨.ints kk [], 0, true, et⟩ : AObj)])[p]? = some o → (p < T.length ∧ T[p]? = some o) ∨ (p = T.length ∧ o = some ⟨.ints kk [], 0, true, et⟩) := by
    intro p o ho
    rcases Nat.lt_or_ge p T.length with hp | hp
    · rw [List.getElem?_append_left hp] at ho; exact .inl ⟨hp, ho⟩
    · rw [List.getElem?_append_right hp] at ho
      have hlt := (List.getElem?_eq_some_iff.1 ho).1
      have hp0 : p = T.length := by simp at hlt; omega
      subst hp0
      simp at ho
      exact .inr ⟨rfl, ho.symm⟩
  have hown : ∀ b, Own (upd ν T.length l0) (T ++ [some ⟨.ints kk [], 0, true, et⟩]) b → Own ν T b := by
    rintro b ⟨p, o, l, h1, h2, h3, h4, h5⟩
    rcases getT p _ h1 with ⟨hp, h1⟩ | ⟨hp, h1⟩
    · rw [same p (by omega)] at h3; exact ⟨p, o, l, h1, h2, h3, h4, h5⟩
    · subst hp; rw [self] at h3; injection h3 with h3; subst h3; subst hl0; simp at h4
  refine ⟨l0, by rw [hl0], by rw [hl0], ⟨fun p o l ho hl => ?_, fun p l hl => ?_, fun p hp => ?_, fun p l hl h0 => ?_, fun p q o o' l l' ho ho' hw hne hl hl' h0 h0' => ?_, fun b d hb => ?_, fun p o l ho hl => ?_⟩, hm, hown⟩
  · rcases getT p _ ho with ⟨hp, h1⟩ | ⟨hp, h1⟩
    · rw [same p (by omega)] at hl
      obtain ⟨g1, g2⟩ := hr.obj p o l h1 hl
      exact ⟨g1, g2.kept hm fun _ => rfl⟩
    · subst hp; rw [self] at hl; injection hl with hl; subst hl; subst hl0
      injection h1 with h1; subst h1
      exact ⟨rfl, .ints _ _, .inr (.inr ⟨rfl, rfl⟩)⟩
  · by_cases e : p = T.length
    · subst e; simp
    · rw [same p e] at hl; have := hr.lt p l hl; simp; omega
  · rcases getT p _ hp with ⟨hp', h1⟩ | ⟨hp', h1⟩
    · rw [same p (by omega)]; exact hr.hole p h1
    · cases h1
  · by_cases e : p = T.length
    · subst e; rw [self] at hl; injection hl with hl; subst hl; subst hl0; simp at h0
    · rw [same p e] at hl; exact hr.blk p l hl h0
  · rcases getT p _ ho with ⟨hp, h1⟩ | ⟨hp, h1⟩
    · rcases getT q _ ho' with ⟨hq, h2⟩ | ⟨hq, h2⟩
      · rw [same p (by omega)] at hl; rw [same q (by omega)] at hl'
        exact hr.sep p q o o' l l' h1 h2 hw hne hl hl' h0 h0'
      · subst hq; rw [self] at hl'; injection hl' with hl'; subst hl'; subst hl0; simp at h0'
    · subst hp; rw [self] at hl; injection hl with hl; subst hl; subst hl0; simp at h0
  · obtain ⟨h1, h2⟩ := hr.glob b d hb
    exact ⟨fun h3 => h1 (hown b h3), h2⟩
  · rcases getT p _ ho with ⟨hp, h1⟩ | ⟨hp, h1⟩
    · rw [same p (by omega)] at hl
      exact (hr.fam p o l h1 hl).sub hown
    · injection h1 with h1; subst h1
      exact FamOk.no rfl

/-- a result that is nothing, told as a slice of an empty object -/
theorem small_nil {P : Program} {gl : Nat → Option AVal} {f : FuncId} {args : List AVal} {T0 T1 : Tab} {v v' : AVal} (kk : IntKind) (et : TypeId) (h : Small P gl f args T0 v T1) (hk : T0.length ≤ T1.length)
    (hv : ∀ (ν : Nu) (x : Value) (l : Loc), ν T1.length = some l → l.g = 0 → l.room = 0 → (∀ u y, VR ν u y → True) → VR ν v x → VR ν v' x) : Small P gl f args T0 v' (T1 ++ [some ⟨.ints kk [], 0, true, et⟩]) := by
  intro ν w vs hr hvs
  refine (h ν w vs hr hvs).mono ?_
  rintro e w' ⟨x, ν', rfl, h1, h2, h3, h4⟩
  obtain ⟨l0, g1, g2, g3, g4, g5⟩ := h2.pushEmpty kk et
  refine ⟨x, upd ν' T1.length l0, rfl, hv _ x l0 (upd_same _ _ _) g1 g2 (fun _ _ _ => trivial) (h1.mono g4), g3, h3.trans (g4.b _), h4.sub g5⟩

theorem VR.nil_slice {ν : Nu} {x : Value} {q : Nat} {l : Loc} {sz : Nat} {cap : Option Nat} (hl : ν q = some l) (hg : l.g = 0) (hr : l.room = 0) (hc : cap = some 0 ∨ cap = none) (h : VR ν .nilSlice x) : VR ν (.slice sz q 0 0 0 cap) x := by
  cases h
  exact .sliceZ none hl hg.symm (hc.imp id fun h => ⟨h, by rw [hr]; exact Nat.le_refl _⟩)

/-- two results, the first one nothing -/
theorem small_nil2 {P : Program} {gl : Nat → Option AVal} {f : FuncId} {args : List AVal} {T0 T1 : Tab} {u : AVal} (kk : IntKind) (et : TypeId) {sz : Nat} {cap : Option Nat} (hc : cap = some 0 ∨ cap = none) (h : Small P gl f args T0 (.tuple [.nilSlice, u]) T1) (hk : T0.length ≤ T1.length) :
    Small P gl f args T0 (.tuple [.slice sz T1.length 0 0 0 cap, u]) (T1 ++ [some ⟨.ints kk [], 0, true, et⟩]) := by
  refine small_nil kk et h hk fun ν x l h1 h2 h3 _ hx => ?_
  cases hx with
  | tuple e1 e2 =>
    refine .tuple e1 fun i hi => ?_
    match i, hi with
    | 0, _ => exact VR.nil_slice h1 h2 h3 hc (e2 0 (by simp))
    | 1, _ => exact e2 1 (by simp)
    | i + 2, hi => simp at hi; omega
end Go.Abs

set_option linter.unusedVariables false
set_option linter.unusedSimpArgs false
namespace Go.Abs
/-! ## Only some objects are kept, and they move together -/
def sigG : List Nat → Nat → Nat
  | [], _ => 0
  | p :: r, i => match Nat.beq p i with | true => 0 | false => sigG r i + 1
def hasG : List Nat → Nat → Bool
  | [], _ => false
  | p :: r, i => Nat.beq p i || hasG r i
def nodupG : List Nat → Bool
  | [] => true
  | p :: r => !hasG r p && nodupG r
def startsG : Nat → Nat → List Nat → Bool
  | _, 0, _ => true
  | i, k + 1, p :: r => Nat.beq p i && startsG (i + 1) k r
  | _, _ + 1, [] => false
def getG (T : Tab) (p : Nat) : Option AObj := match T[p]? with | some (some o) => some o | _ => none
def gcL (keep : List Nat) (T : Tab) : List Nat → Tab
  | [] => []
  | p :: r => (match getG T p with | some o => some (renO (sigG keep) o) | none => none) :: gcL keep T r
def gcT (keep : List Nat) (T : Tab) : Tab := gcL keep T keep
def inG (keep : List Nat) (T : Tab) : List Nat → Bool
  | [] => true
  | p :: r => (match getG T p with | some o => idsIn (hasG keep) o.data | none => true) && inG keep T r
def okG (k : Nat) (keep : List Nat) (T : Tab) : Bool := nodupG keep && (startsG 0 k keep && inG keep T keep)
def pickG (keep : List Nat) (fm : Fm) : List Nat → Option Fm
  | [] => some []
  | t :: r => match look fm t, pickG keep fm r with
    | some v, some f => match idsIn (hasG keep) v with
      | true => some ((t, ren (sigG keep) v) :: f)
      | false => none
    | _, _ => none
theorem hasG_get : ∀ {l : List Nat} {i : Nat}, hasG l i = true → l[sigG l i]? = some i
  | p :: r, i, h => by
    simp only [hasG, Bool.or_eq_true] at h
    simp only [sigG]
    cases hp : Nat.beq p i with
    | true => have := Nat.eq_of_beq_eq_true hp; subst this; rfl
    | false => simp only [hp, Bool.false_eq_true, false_or] at h; simpa using hasG_get h
theorem hasG_mem : ∀ {l : List Nat} {j p : Nat}, l[j]? = some p → hasG l p = true
  | q :: r, 0, p, h => by simp at h; subst h; simp [hasG]
  | q :: r, j + 1, p, h => by simp only [hasG, Bool.or_eq_true]; exact .inr (hasG_mem (by simpa using h))
theorem nodupG_ok : ∀ {l : List Nat}, nodupG l = true → ∀ (i j p : Nat), l[i]? = some p → l[j]? = some p → i = j
  | q :: r, h, 0, 0, p, _, _ => rfl
  | q :: r, h, 0, j + 1, p, hi, hj => by
    simp at hi; subst hi
    have := hasG_mem (l := r) (j := j) (by simpa using hj)
    simp [nodupG, this] at h
  | q :: r, h, i + 1, 0, p, hi, hj => by
    simp at hj; subst hj
    have := hasG_mem (l := r) (j := i) (by simpa using hi)
    simp [nodupG, this] at h
  | q :: r, h, i + 1, j + 1, p, hi, hj => by
    simp only [nodupG, Bool.and_eq_true] at h
    rw [nodupG_ok h.2 i j p (by simpa using hi) (by simpa using hj)]
theorem startsG_ok : ∀ {k i : Nat} {l : List Nat}, startsG i k l = true → ∀ j, j < k → l[j]? = some (i + j)
  | k + 1, i, p :: r, h, 0, _ => by simp only [startsG, Bool.and_eq_true] at h; rw [Nat.eq_of_beq_eq_true h.1]; rfl
  | k + 1, i, p :: r, h, j + 1, hj => by
    simp only [startsG, Bool.and_eq_true] at h
    rw [List.getElem?_cons_succ, startsG_ok h.2 j (by omega)]
    congr 1; omega
theorem gcL_get (keep : List Nat) (T : Tab) : ∀ (l : List Nat) (j : Nat), (gcL keep T l)[j]? = (l[j]?).map fun p => match getG T p with | some o => some (renO (sigG keep) o) | none => none
  | [], j => by simp [gcL]
  | p :: r, 0 => rfl
  | p :: r, j + 1 => by simpa [gcL] using gcL_get keep T r j
theorem gcL_len (keep : List Nat) (T : Tab) : ∀ (l : List Nat), (gcL keep T l).length = l.length
  | [] => rfl
  | p :: r => by simp [gcL, gcL_len keep T r]
theorem inG_ok {keep : List Nat} {T : Tab} : ∀ {l : List Nat}, inG keep T l = true → ∀ (j p : Nat) (o : AObj), l[j]? = some p → getG T p = some o → idsIn (hasG keep) o.data = true
  | q :: r, h, 0, p, o, hp, ho => by simp at hp; subst hp; simp only [inG, ho, Bool.and_eq_true] at h; exact h.1
  | q :: r, h, j + 1, p, o, hp, ho => by simp only [inG, Bool.and_eq_true] at h; exact inG_ok h.2 j p o (by simpa using hp) ho
theorem getG_some {T : Tab} {p : Nat} {o : AObj} (h : getG T p = some o) : T[p]? = some (some o) := by
  unfold getG at h; split at h
  · rename_i o' h'; injection h with h; subst h; exact h'
  · cases h
theorem pickG_ok {keep : List Nat} {fm : Fm} : ∀ {l : List Nat} {f : Fm}, pickG keep fm l = some f → ∀ t v, look f t = some v → ∃ u, look fm t = some u ∧ idsIn (hasG keep) u = true ∧ v = ren (sigG keep) u
  | [], f, h, t, v, hl => by simp [pickG] at h; subst h; simp [look] at hl
  | s :: r, f, h, t, v, hl => by
    simp only [pickG] at h
    split at h
    · rename_i u f' h1 h2
      split at h
      · rename_i h3
        injection h with h; subst h
        simp only [look] at hl
        split at hl
        · rename_i he
          have := Nat.eq_of_beq_eq_true he; subst this
          injection hl with hl; subst hl
          exact ⟨u, h1, h3, rfl⟩
        · exact pickG_ok h2 t v hl
      · cases h
    · cases h
def nuG (keep : List Nat) (ν : Nu) : Nu := fun j => match keep[j]? with | some p => ν p | none => none
theorem nuG_some {keep : List Nat} {ν : Nu} {j : Nat} {l : Loc} (h : nuG keep ν j = some l) : ∃ p, keep[j]? = some p ∧ ν p = some l := by
  unfold nuG at h; split at h
  · rename_i p hp; exact ⟨p, hp, h⟩
  · cases h
theorem nuG_key {keep : List Nat} {ν : Nu} : ∀ i l, hasG keep i = true → ν i = some l → nuG keep ν (sigG keep i) = some l := fun i l hi hl => by
  unfold nuG; rw [hasG_get hi]; exact hl
theorem gcT_some {keep : List Nat} {T : Tab} {j : Nat} {o' : AObj} (h : (gcT keep T)[j]? = some (some o')) : ∃ p o, keep[j]? = some p ∧ T[p]? = some (some o) ∧ o' = renO (sigG keep) o := by
  unfold gcT at h
  rw [gcL_get] at h
  cases hk : keep[j]? with
  | none => rw [hk] at h; cases h
  | some p =>
    rw [hk] at h
    simp only [Option.map_some] at h
    cases hg : getG T p with
    | none => rw [hg] at h; cases h
    | some o => rw [hg] at h; injection h with h; injection h with h; exact ⟨p, o, rfl, getG_some hg, h.symm⟩
theorem getG_of {T : Tab} {p : Nat} {o : AObj} (h : T[p]? = some (some o)) : getG T p = some o := by unfold getG; rw [h]
theorem Own.gc {keep : List Nat} {ν : Nu} {T : Tab} {b : Nat} (h : Own (nuG keep ν) (gcT keep T) b) : Own ν T b := by
  obtain ⟨j, o', l, h1, h2, h3, h4⟩ := h
  obtain ⟨p, o, e1, e2, rfl⟩ := gcT_some h1
  obtain ⟨p', e3, e4⟩ := nuG_some h3
  rw [e1] at e3; injection e3 with e3; subst e3
  exact ⟨p, o, l, e2, h2, e4, h4⟩
theorem HR.gc {gl : Nat → Option AVal} {ν : Nu} {T : Tab} {w : World} {k : Nat} {keep : List Nat} (h : HR gl ν T w) (hk : okG k keep T = true) : HR gl (nuG keep ν) (gcT keep T) w := by
  simp only [okG, Bool.and_eq_true] at hk
  obtain ⟨h1, h2, h3⟩ := hk
  refine ⟨fun j o' l ho hl => ?_, fun j l hl => ?_, fun j hj => ?_, fun j l hl h0 => ?_, fun i j o o' l l' ho ho' hw hne hl hl' => ?_, fun b d hb => ?_, fun j o' l ho hl => ?_⟩
  · obtain ⟨p, o, e1, e2, rfl⟩ := gcT_some ho
    obtain ⟨p', e3, e4⟩ := nuG_some hl
    rw [e1] at e3; injection e3 with e3; subst e3
    obtain ⟨g1, g2⟩ := h.obj p o l e2 e4
    exact ⟨g1, g2.ren nuG_key (inG_ok h3 j p o e1 (getG_of e2))⟩
  · obtain ⟨p, e1, _⟩ := nuG_some hl
    unfold gcT; rw [gcL_len]; exact (List.getElem?_eq_some_iff.1 e1).1
  · unfold gcT at hj
    rw [gcL_get] at hj
    unfold nuG
    cases hk : keep[j]? with
    | none => rfl
    | some p =>
      simp only [hk, Option.map_some] at hj
      cases hν : ν p with
      | none => simp only [hν]
      | some l =>
        exfalso
        have hlt := h.lt p l hν
        have e : T[p]? = some T[p] := List.getElem?_eq_getElem hlt
        cases hT : T[p] with
        | none => rw [hT] at e; rw [h.hole p e] at hν; cases hν
        | some o => rw [hT] at e; rw [getG_of e] at hj; injection hj with hj; cases hj
  · obtain ⟨p, _, e⟩ := nuG_some hl
    exact h.blk p l e h0
  · obtain ⟨p, a, e1, e2, rfl⟩ := gcT_some ho
    obtain ⟨q, b, f1, f2, rfl⟩ := gcT_some ho'
    obtain ⟨p', e3, e4⟩ := nuG_some hl
    rw [e1] at e3; injection e3 with e3; subst e3
    obtain ⟨q', f3, f4⟩ := nuG_some hl'
    rw [f1] at f3; injection f3 with f3; subst f3
    exact h.sep p q a b l l' e2 f2 hw (fun e => hne (by subst e; exact nodupG_ok h1 i j p e1 f1)) e4 f4
  · obtain ⟨g1, g2⟩ := h.glob b d hb
    exact ⟨fun g => g1 g.gc, g2⟩
  · obtain ⟨p, o, e1, e2, rfl⟩ := gcT_some ho
    obtain ⟨p', e3, e4⟩ := nuG_some hl
    rw [e1] at e3; injection e3 with e3; subst e3
    exact ((h.fam p o l e2 e4).sub fun b hb => hb.gc).ren
theorem NuLeB.gc {keep : List Nat} {ν ν' : Nu} {T : Tab} {k : Nat} (h : NuLeB k ν ν') (hk : okG k keep T = true) : NuLeB k ν (nuG keep ν') := fun p hp l hl => by
  simp only [okG, Bool.and_eq_true] at hk
  obtain ⟨l', h1, h2⟩ := h p hp l hl
  have e := startsG_ok hk.2.1 p hp
  rw [Nat.zero_add] at e
  exact ⟨l', by unfold nuG; rw [e]; exact h1, h2⟩
theorem SRel.gc {E : Env} {D : List Deferred} {ν : Nu} {fm f : Fm} {T : Tab} {n k : Nat} {a : Act} {w : World} {keep : List Nat} {slots : List Nat} (h : SRel E D ν fm T n a w) (hk : okG k keep T = true) (hf : pickG keep fm slots = some f) : SRel E D (nuG keep ν) f (gcT keep T) n a w := by
  refine ⟨h.hr.gc hk, fun t v hv => ?_, h.size, h.defers⟩
  obtain ⟨u, h1, h2, rfl⟩ := pickG_ok hf t v hv
  exact (h.fm t u h1).ren nuG_key h2
/-- the outcome, with only some objects, moved together -/
def trimG (k : Nat) (keep : List Nat) (slots : List Nat) (o : Out) : Out :=
  match o with
  | ⟨cs, ex, fm, T, ds⟩ => match pickG keep fm slots, okG k keep T with
    | some f, true => ⟨cs, ex, f, gcT keep T, ds⟩
    | _, _ => failO
theorem AWp.trimG {E : Env} {n k : Nat} {keep : List Nat} {c : Code} {fm : Fm} {T : Tab} {o : Out} {slots : List Nat} (hc : allP (trimG k keep slots o).cs) (h : allP o.cs → AWp E n k c fm T (Is o)) : AWp E n k c fm T (Is (trimG k keep slots o)) := by
  obtain ⟨cs, ex, fm1, T1, ds⟩ := o
  unfold Abs.trimG at hc ⊢
  simp only at hc ⊢
  cases hp : pickG keep fm1 slots with
  | none => simp only [hp] at hc; exact absurd hc failO_no
  | some f =>
    cases hb : okG k keep T1 with
    | false => simp only [hp, hb] at hc; exact absurd hc failO_no
    | true =>
      simp only [hp, hb] at hc ⊢
      intro rr D ν a w hs hrd
      refine wpIn_mono (h hc rr D ν a w hs hrd) fun e a' w' ⟨ex', fm', T', ν', e1, ⟨e2, e3, e4⟩, ⟨ms, s', mk⟩, n', f'⟩ => ?_
      simp only at e2 e3 e4
      subst e2 e3 e4
      exact ⟨ex', f, gcT keep T', nuG keep ν', e1, ⟨rfl, rfl, rfl⟩, ⟨ms, s'.gc hb hp, mk⟩, n'.gc hb, f'.sub fun b hb => hb.gc⟩
theorem To.ofG {E : Env} (hE : EnvOk E) (hm : E.P.follows .mixedOrders = true) {n k : Nat} {keep : List Nat} {orc : Orc} (hk : k ≤ orc.kb) {c : Code} (hO : OrcOk E n orc c) {f : Nat} {fm : Fm} {T : Tab} {ds : List (Option Bool)} {slots : List Nat} {o : Out}
    (ho : trimG k keep slots (run E n orc f c fm T ds) = o) (h : Ok o) {ex : AExit} {fm' : Fm} {T' : Tab} (e1 : o.ex = ex) (e2 : o.fm = fm') (e3 : o.tab = T') : To E n k c fm T ex fm' T' := by
  subst e1 e2 e3 ho
  exact AWp.trimG h.h fun h => (run_sound hE hm hk hO f (fun _ _ h => h) h).1
/-- a function's outcome, with only some objects, moved together -/
theorem small_gc {P : Program} {gl : Nat → Option AVal} {f : FuncId} {args : List AVal} {T0 T1 : Tab} {v : AVal} (keep : List Nat) (h : Small P gl f args T0 v T1) {v' : AVal} {T' : Tab} (hk : okG T0.length keep T1 = true) (hv : idsIn (hasG keep) v = true) (e1 : ren (sigG keep) v = v') (e2 : gcT keep T1 = T') :
    Small P gl f args T0 v' T' := by
  subst e1 e2
  intro ν w vs hr hvs
  refine (h ν w vs hr hvs).mono ?_
  rintro e w' ⟨x, ν', rfl, h1, h2, h3, h4⟩
  exact ⟨x, nuG keep ν', rfl, h1.ren nuG_key hv, h2.gc hk, h3.gc hk, h4.sub fun b hb => hb.gc⟩
/-- a function's run, with only some objects, moved together -/
def resG (k : Nat) (keep : List Nat) (r : Res) : Res :=
  match r with
  | ⟨cs, v, T⟩ => match idsIn (hasG keep) v && okG k keep T with
    | true => ⟨cs, ren (sigG keep) v, gcT keep T⟩
    | false => fail
theorem small_ofG {E : Env} (hE : EnvOk E) (hm : E.P.follows .mixedOrders = true) {f : FuncId} {fn : Func} (hf : E.P.funcs[f]? = some fn) (hb : fn.body.isSome = true) {orc : OrcL} (hO : FnOrc E fn orc) {fuel : Nat} {args : List AVal} {T : Tab} {ds : List (Option Bool)} {R : Res} {keep : List Nat}
    (hR : resG T.length keep (runF E fn orc fuel args T ds) = R) (h : OkR R) {v : AVal} {T1 : Tab} (hv : R.val = v) (ht : R.tab = T1) : Small E.P E.gl f args T v T1 := by
  subst hv ht hR
  have hS := runF_small hE hm hf hb orc hO fuel (args := args) (T := T) ds
  generalize runF E fn orc fuel args T ds = r at h hS ⊢
  obtain ⟨cs, v, T1⟩ := r
  obtain ⟨h⟩ := h
  unfold resG at h ⊢
  simp only at h ⊢
  cases hb : idsIn (hasG keep) v && okG T.length keep T1 with
  | false => simp only [hb] at h; exact absurd h nofail
  | true =>
    simp only [hb] at h ⊢
    simp only [Bool.and_eq_true] at hb
    exact small_gc keep (hS h) hb.2 hb.1 rfl rfl
attribute [irreducible] resG trimG
end Go.Abs

set_option linter.unusedVariables false
set_option linter.unusedSimpArgs false
namespace Go.Abs
open Go.RowKit Go.WideShapes Go.ChangeShapes Go.ChangeAt
/-! ## Rows whose laws read tables of the program -/
section
variable {P : Program}
end
end Go.Abs

set_option linter.unusedVariables false
namespace Go.Abs
/-! ## What stands in a table or a list of values, taken out -/
def vAt : List AVal → Nat → AVal
  | [], _ => un
  | v :: _, 0 => v
  | _ :: r, i + 1 => vAt r i
def dAt (T : Tab) (p : Nat) : AVal := match nth T p with | some o => o.data | none => un
def gAt (T : Tab) (p : Nat) : Nat := match nth T p with | some o => o.g | none => 0
def owAt (T : Tab) (p : Nat) : Bool := match nth T p with | some o => o.own | none => false
def etAt (T : Tab) (p : Nat) : TypeId := match nth T p with | some o => o.et | none => 0
def xsOf : AVal → List Int | .ints _ xs => xs | _ => []
def vsOf : AVal → List AVal | .agg vs => vs | _ => []
def iOf : AVal → Int | .int _ n => n | _ => 0
def offOf : AVal → Nat | .slice _ _ _ off _ _ => off | .ptr _ _ off => off | _ => 0
def lenOf : AVal → Nat | .slice _ _ _ _ len _ => len | _ => 0
def capOf : AVal → Option Nat | .slice _ _ _ _ _ cap => cap | _ => none
def xsAt (T : Tab) (p : Nat) : List Int := xsOf (dAt T p)
def cAt (T : Tab) (p i : Nat) : AVal := vAt (vsOf (dAt T p)) i
end Go.Abs
namespace Go.Abs
/-- flags, out of a number's bits -/
def bitsF : Nat → Nat → List Bool
  | 0, _ => []
  | k + 1, n => Nat.beq (n % 2) 1 :: bitsF k (n / 2)
end Go.Abs

set_option linter.unusedVariables false
set_option linter.unusedSimpArgs false
namespace Go.Abs
/-- entry: only some objects, moved together -/
theorem AWp.enterG {E : Env} {n k : Nat} {c : Code} {fm f : Fm} {T : Tab} {keep slots : List Nat} {post : AExit → Fm → Tab → Prop} (hp : pickG keep fm slots = some f) (hb : okG k keep T = true)
    (h : AWp E n k c f (gcT keep T) post) : AWp E n k c fm T post := by
  intro rr D ν a w hs hrd
  refine wpIn_mono (h rr D _ a w (hs.gc hb hp) hrd) fun e a' w' ⟨ex, fm', T', ν', e1, e2, s', n', f'⟩ => ⟨ex, fm', T', ν', e1, e2, s', fun p hp l hl => ?_, ?_⟩
  · simp only [okG, Bool.and_eq_true] at hb
    have e := startsG_ok hb.2.1 p hp
    rw [Nat.zero_add] at e
    exact n' p hp l (by unfold nuG; rw [e]; exact hl)
  · exact ⟨f'.os, f'.tape, f'.output, f'.size, fun b hb hO => f'.block b hb (fun h => hO h.gc), fun b hb => (f'.own b hb).imp (fun h => h.gc) id⟩
end Go.Abs

set_option linter.unusedVariables false
set_option linter.unusedSimpArgs false
namespace Go.Abs
/-! ## Range over a function: code that runs beside the loops' records -/
/-- what a record is of: its loop, as text, and what is known of the temporaries at its entry -/
structure Host where
  ps : Array Tmp
  assign : Code
  body : Code
  fm : Fm
  n : Nat
abbrev St := LoopState × Option Code
abbrev Amb := List (Nat × Host)

theorem VR.monoB {k : Nat} {ν ν' : Nu} {v : AVal} {x : Value} (hm : NuLeB k ν ν') (hv : idsIn (fun i => Nat.blt i k) v = true) (h : VR ν v x) : VR ν' v x := by
  let ν2 : Nu := fun p => if p < k then ν' p else ν p
  have h1 : NuLe ν ν2 := fun p l hl => by
    by_cases hp : p < k
    · obtain ⟨l', g1, g2⟩ := hm p hp l hl
      exact ⟨l', by simp only [ν2, if_pos hp]; exact g1, g2⟩
    · exact ⟨l, by simp only [ν2, if_neg hp]; exact hl, .inr ⟨rfl, rfl, rfl, rfl⟩⟩
  have h2 := (h.mono h1).ren (ν' := ν') (r := fun i => i) (live := fun i => Nat.blt i k) (fun i l hi hl => by
    have hp : i < k := by simpa using hi
    simpa only [ν2, if_pos hp] using hl) hv
  rwa [ren_id] at h2
def fmIn (k : Nat) (fm : Fm) : Prop := ∀ t v, look fm t = some v → idsIn (fun i => Nat.blt i k) v = true
def ambIn (k : Nat) (A : Amb) : Prop := ∀ x ∈ A, fmIn k x.2.fm
def RecOk (ν : Nu) (l : Nat) (H : Host) (st : St) (w : World) : Prop :=
  ∃ rc : Loop, w.heap[l]? = some (.loop rc) ∧ rc.state = st.1 ∧ rc.pending = st.2 ∧ rc.params = H.ps ∧ rc.assign = H.assign ∧ rc.body = H.body ∧ H.n ≤ rc.tmps.size ∧ ∀ t v, look H.fm t = some v → VR ν v (rc.tmps.getD t undef)
def RecsOk (ν : Nu) : Amb → List St → World → Prop
  | [], [], _ => True
  | (l, H) :: A, st :: σ, w => RecOk ν l H st w ∧ RecsOk ν A σ w ∧ ∀ x ∈ A, x.1 ≠ l
  | _, _, _ => False
theorem RecOk.keep {k : Nat} {ν ν' : Nu} {l : Nat} {H : Host} {st : St} {w w' : World} (h : RecOk ν l H st w) (hin : fmIn k H.fm) (hm : NuLeB k ν ν') (hw : w'.heap[l]? = w.heap[l]?) : RecOk ν' l H st w' := by
  obtain ⟨rc, h1, h2, h3, h4, h5, h6, h7, h8⟩ := h
  exact ⟨rc, by rw [hw]; exact h1, h2, h3, h4, h5, h6, h7, fun t v hl => (h8 t v hl).monoB hm (hin t v hl)⟩
theorem RecsOk.keep {k : Nat} {ν ν' : Nu} {w w' : World} (hm : NuLeB k ν ν') : ∀ {A : Amb} {σ : List St}, RecsOk ν A σ w → ambIn k A → (∀ x ∈ A, w'.heap[x.1]? = w.heap[x.1]?) → RecsOk ν' A σ w'
  | [], [], _, _, _ => trivial
  | [], _ :: _, h, _, _ => h.elim
  | _ :: _, [], h, _, _ => h.elim
  | (l, H) :: A, st :: σ, ⟨h1, h2, h3⟩, hin, hw => ⟨h1.keep (hin _ (.head _)) hm (hw _ (.head _)), RecsOk.keep hm h2 (fun x hx => hin x (.tail _ hx)) (fun x hx => hw x (.tail _ hx)), h3⟩
theorem RecsOk.loop {ν : Nu} {w : World} : ∀ {A : Amb} {σ : List St}, RecsOk ν A σ w → ∀ x ∈ A, ∃ rc, w.heap[x.1]? = some (.loop rc)
  | (l, H) :: A, st :: σ, ⟨h1, h2, h3⟩, x, hx => by
    rcases List.mem_cons.1 hx with rfl | hx
    · obtain ⟨rc, h, _⟩ := h1; exact ⟨rc, h⟩
    · exact RecsOk.loop h2 x hx
/-- the blocks that may change -/
def OwnA (A : Amb) (ν : Nu) (T : Tab) (b : Nat) : Prop := Own ν T b ∨ ∃ x ∈ A, x.1 = b
theorem size_of {w : World} {b : Nat} {o : Obj} (h : w.heap[b]? = some o) : b < w.heap.size := by
  rcases Nat.lt_or_ge b w.heap.size with h' | h'
  · exact h'
  · rw [Array.getElem?_eq_none h'] at h; cases h
theorem Fr.amb {A : Amb} {ν ν' : Nu} {T T' : Tab} {w w' : World} (h : Fr (Own ν T) w (Own ν' T') w') : Fr (OwnA A ν T) w (OwnA A ν' T') w' :=
  ⟨h.os, h.tape, h.output, h.size, fun b hb hO => h.block b hb (fun h => hO (.inl h)), fun b hb => by
    rcases hb with hb | hb
    · exact (h.own b hb).imp .inl id
    · exact .inl (.inr hb)⟩
/-- a block that is neither cells nor a record stays -/
theorem Fr.other {gl : Nat → Option AVal} {A : Amb} {σ : List St} {ν : Nu} {T : Tab} {O : Nat → Prop} {w w' : World} (hf : Fr (OwnA A ν T) w O w') (hr : HR gl ν T w) (hA : RecsOk ν A σ w) {b : Nat} {o : Obj} (ho : w.heap[b]? = some o) (h1 : ∀ c t z, o ≠ .cells c t z) (h2 : ∀ r, o ≠ .loop r) : w'.heap[b]? = some o := by
  rw [hf.block b (size_of ho) (fun h => ?_)]
  · exact ho
  · rcases h with h | ⟨x, hx, rfl⟩
    · exact hr.notOwn ho h1 h
    · obtain ⟨rc, hrc⟩ := hA.loop x hx
      rw [hrc] at ho; injection ho with ho; exact h2 rc ho.symm
theorem RdOk.amb {rr : Option Nat} {gl : Nat → Option AVal} {A : Amb} {σ σ' : List St} {ν ν' : Nu} {T : Tab} {O : Nat → Prop} {w w' : World} (h : RdOk rr w) (hr : HR gl ν T w) (hA : RecsOk ν A σ w) (hA' : RecsOk ν' A σ' w') (hf : Fr (OwnA A ν T) w O w') : RdOk rr w' := fun l hl => by
  obtain ⟨r, h1⟩ := h l hl
  by_cases hx : ∃ x ∈ A, x.1 = l
  · obtain ⟨x, hx, rfl⟩ := hx
    exact hA'.loop x hx
  · refine ⟨r, ?_⟩
    rw [hf.block l (size_of h1) (fun h => ?_)]
    · exact h1
    · rcases h with h | h
      · exact hr.notOwn h1 (fun _ _ _ h => by cases h) h
      · exact hx h
theorem MarksOk.trans2 {ms ms2 : List Deferred} {w w1 w2 : World} (h : MarksOk ms w w1) (h2 : MarksOk ms2 w1 w2) (hs : w.heap.size ≤ w1.heap.size) (hk : ∀ (b : Nat) x, w1.heap[b]? = some (.deferred x) → w2.heap[b]? = some (.deferred x)) : MarksOk (ms2 ++ ms) w w2 := by
  have lt : ∀ d ∈ ms, ∃ r, d = { target := .collected r, args := #[] } ∧ w.heap.size ≤ r ∧ r < w1.heap.size ∧ w2.heap[r]? = some (.deferred (some [])) := fun d hd => by
    obtain ⟨r, e, g1, g2⟩ := h.1 d hd
    exact ⟨r, e, g1, size_of g2, hk _ _ g2⟩
  refine ⟨fun d hd => ?_, List.nodup_append.2 ⟨h2.2, h.2, fun a ha b hb e => ?_⟩⟩
  · rcases List.mem_append.1 hd with hd | hd
    · obtain ⟨r, e, g1, g2⟩ := h2.1 d hd
      exact ⟨r, e, by omega, g2⟩
    · obtain ⟨r, e, g1, _, g2⟩ := lt d hd
      exact ⟨r, e, g1, g2⟩
  · obtain ⟨r, e1, g1, _⟩ := h2.1 a ha
    obtain ⟨r', e2, _, g2, _⟩ := lt b hb
    rw [e, e2] at e1
    injection e1 with e1; injection e1 with e1
    omega

def YPost (E : Env) (n k : Nat) (A : Amb) (post : AExit → Fm → Tab → List St → Prop) (D : List Deferred) (ν : Nu) (T : Tab) (w : World) (e : Exit) (a' : Act) (w' : World) : Prop :=
  ∃ ex fm' T' σ' ν', e = AExit.to ex ∧ post ex fm' T' σ' ∧ SRelM E D w ν' fm' T' n a' w' ∧ RecsOk ν' A σ' w' ∧ NuLeB k ν ν' ∧ Fr (OwnA A ν T) w (OwnA A ν' T') w'
/-- code that runs beside records -/
def YWp (E : Env) (n k : Nat) (A : Amb) (c : Code) (fm : Fm) (T : Tab) (σ : List St) (post : AExit → Fm → Tab → List St → Prop) : Prop :=
  ∀ (rr : Option Nat) D ν a w, SRel E D ν fm T n a w → RdOk rr w → RecsOk ν A σ w → c.wpIn (Fc rr) 0 E.P (YPost E n k A post D ν T w) a w

section
variable {E : Env} {n k : Nat} {A : Amb} {fm : Fm} {T : Tab} {σ : List St} {post : AExit → Fm → Tab → List St → Prop}
theorem YWp.mono {c : Code} {post' : AExit → Fm → Tab → List St → Prop} (h : YWp E n k A c fm T σ post) (hp : ∀ ex fm T σ, post ex fm T σ → post' ex fm T σ) : YWp E n k A c fm T σ post' :=
  fun rr D ν a w hs hrd hA => wpIn_mono (h rr D ν a w hs hrd hA) fun e a' w' ⟨ex, fm', T', σ', ν', h1, h2, h3⟩ => ⟨ex, fm', T', σ', ν', h1, hp _ _ _ _ h2, h3⟩
theorem YPost.trans {D ms : List Deferred} {ν ν1 : Nu} {w w1 : World} {T1 : Tab} {fm1 : Fm} {a1 : Act} {σ1 : List St} {e : Exit} {a' : Act} {w' : World} (h : YPost E n k A post (ms ++ D) ν1 T1 w1 e a' w') (s1 : SRel E (ms ++ D) ν1 fm1 T1 n a1 w1) (m1 : MarksOk ms w w1) (A1 : RecsOk ν1 A σ1 w1) (hm : NuLeB k ν ν1) (hf : Fr (OwnA A ν T) w (OwnA A ν1 T1) w1) : YPost E n k A post D ν T w e a' w' := by
  obtain ⟨ex, fm', T', σ', ν', h1, h2, ⟨ms2, h3, m2⟩, h6, h4, h5⟩ := h
  exact ⟨ex, fm', T', σ', ν', h1, h2, ⟨ms2 ++ ms, by rw [List.append_assoc]; exact h3, m1.trans2 m2 hf.size fun b x hb => h5.other s1.hr A1 hb (fun _ _ _ h => by cases h) (fun _ h => by cases h)⟩, h6, hm.trans h4, hf.trans h5⟩
theorem YWp.seq {x y : Code} (h : YWp E n k A x fm T σ fun ex fm' T' σ' => match ex with | .normal => YWp E n k A y fm' T' σ' post | ex => post ex fm' T' σ') : YWp E n k A (.seq x y) fm T σ post := by
  intro rr D ν a w hs hrd hA
  refine wpIn_seq (wpIn_mono (h rr D ν a w hs hrd hA) fun e a' w' ⟨ex, fm', T', σ', ν', h1, h2, h3, h6, h4, h5⟩ => ?_)
  subst h1
  cases ex with
  | normal =>
    obtain ⟨ms, h3, hm⟩ := h3
    exact wpIn_mono (h2 rr _ ν' a' w' h3 (hrd.amb hs.hr hA h6 h5) h6) fun e a2 w2 hp => hp.trans h3 hm h6 h4 h5
  | exit id => exact ⟨.exit id, fm', T', σ', ν', rfl, h2, h3, h6, h4, h5⟩
  | goto l => exact ⟨.goto l, fm', T', σ', ν', rfl, h2, h3, h6, h4, h5⟩
  | ret => exact ⟨.ret, fm', T', σ', ν', rfl, h2, h3, h6, h4, h5⟩
theorem YWp.block {id : Nat} {c : Code} (h : YWp E n k A c fm T σ fun ex fm' T' σ' => match ex with | .exit id' => if id' = id then post .normal fm' T' σ' else post (.exit id') fm' T' σ' | ex => post ex fm' T' σ') : YWp E n k A (.block id c) fm T σ post := by
  intro rr D ν a w hs hrd hA
  refine wpIn_block (wpIn_mono (h rr D ν a w hs hrd hA) fun e a' w' ⟨ex, fm', T', σ', ν', h1, h2, h3, h6, h4, h5⟩ => ?_)
  subst h1
  cases ex with
  | normal => exact ⟨.normal, fm', T', σ', ν', rfl, h2, h3, h6, h4, h5⟩
  | exit id' =>
    simp only [AExit.to, Exit.inBlock]
    simp only at h2
    split
    · rename_i e
      rw [if_pos e] at h2
      exact ⟨.normal, fm', T', σ', ν', rfl, h2, h3, h6, h4, h5⟩
    · rename_i e
      rw [if_neg e] at h2
      exact ⟨.exit id', fm', T', σ', ν', rfl, h2, h3, h6, h4, h5⟩
  | goto l => exact ⟨.goto l, fm', T', σ', ν', rfl, h2, h3, h6, h4, h5⟩
  | ret => exact ⟨.ret, fm', T', σ', ν', rfl, h2, h3, h6, h4, h5⟩
theorem YWp.cond {c : Operand} {x y : Code} {b : Bool} (hb : evOf fm c = some (.bool b)) (ht : b = true → YWp E n k A x fm T σ post) (hf : b = false → YWp E n k A y fm T σ post) : YWp E n k A (.cond c x y) fm T σ post := by
  intro rr D ν a w hs hrd hA
  have h1 := (evOf_rel hs c _ hb).bool_inv
  exact wpIn_cond_split h1 (fun e => ht e rr D ν a w hs hrd hA) (fun e => hf e rr D ν a w hs hrd hA)
theorem YWp.loop {c : Code} (I : Fm → Tab → List St → Nat → Prop) (m0 : Nat) (h0 : I fm T σ m0)
    (round : ∀ fm T σ m, I fm T σ m → YWp E n k A c fm T σ fun ex fm' T' σ' => match ex with | .normal => ∃ m', m' < m ∧ I fm' T' σ' m' | ex => post ex fm' T' σ') : YWp E n k A (.loop c) fm T σ post := by
  intro rr D ν a w hs hrd hA b kk cs hro hbb hrm
  have key : ∀ (m : Nat) (fm1 : Fm) (T1 : Tab) (σ1 : List St) (ν1 : Nu) (a1 : Act) (w1 : World) (ms : List Deferred), I fm1 T1 σ1 m → SRel E (ms ++ D) ν1 fm1 T1 n a1 w1 → MarksOk ms w w1 → RecsOk ν1 A σ1 w1 → NuLeB k ν ν1 → Fr (OwnA A ν T) w (OwnA A ν1 T1) w1 →
      ∃ e a' w', YPost E n k A post D ν T w e a' w' ∧ ArrivesIn (Machine.fenced E.P (Fc rr)) E.P (lone (b.atR a1 (.code c :: .inLoop c :: kk)) cs w1) b kk cs e a' w' := by
    intro m
    induction m using Nat.strongRecOn with
    | _ m ih =>
      intro fm1 T1 σ1 ν1 a1 w1 ms hI hs1 mk hA1 hm hf
      obtain ⟨e, a2, w2, hP, harr⟩ := round fm1 T1 σ1 m hI rr _ ν1 a1 w1 hs1 (hrd.amb hs.hr hA hA1 hf) hA1 b (.inLoop c :: kk) cs hro hbb hrm
      obtain ⟨ex, fm2, T2, σ2, ν2, h1, h2, ⟨ms2, h3, mk2⟩, h6, h4, h5⟩ := hP.trans hs1 mk hA1 hm hf
      subst h1
      cases ex with
      | normal =>
        obtain ⟨m', hlt, hI'⟩ := h2
        obtain ⟨e3, a3, w3, hp3, harr3⟩ := ih m' hlt fm2 T2 σ2 ν2 a2 w2 ms2 hI' h3 mk2 h6 h4 h5
        exact ⟨e3, a3, w3, hp3, .of_steps (StepsIn.trans harr (.one (fenced_calm hbb hrm rfl) stepR_inLoop)) harr3⟩
      | exit id => exact ⟨_, a2, w2, ⟨.exit id, fm2, T2, σ2, ν2, rfl, h2, ⟨ms2, h3, mk2⟩, h6, h4, h5⟩, .pass (x := .inLoop c) rfl (fun _ _ => .inl (by simp [AExit.to])) harr⟩
      | goto l => exact ⟨_, a2, w2, ⟨.goto l, fm2, T2, σ2, ν2, rfl, h2, ⟨ms2, h3, mk2⟩, h6, h4, h5⟩, .pass (x := .inLoop c) rfl (fun _ _ => .inl (by simp [AExit.to])) harr⟩
      | ret => exact ⟨_, a2, w2, ⟨.ret, fm2, T2, σ2, ν2, rfl, h2, ⟨ms2, h3, mk2⟩, h6, h4, h5⟩, .pass (x := .inLoop c) rfl (fun _ _ => .inl (by simp [AExit.to])) harr⟩
  obtain ⟨e, a', w', hp, harr⟩ := key m0 fm T σ ν a w [] h0 hs (MarksOk.nil _ _) hA (NuLeB.refl _ _) (Fr.refl _ _)
  exact ⟨e, a', w', hp, .of_steps (.one (fenced_calm hbb hrm rfl) stepR_loop) harr⟩
end
end Go.Abs

set_option linter.unusedVariables false
set_option linter.unusedSimpArgs false
namespace Go.Abs
theorem Oper.wpIn_mono2 {F : Fence} {n : Nat} {P : Program} {o : Oper} {a : Act} {w : World} {K K' : Act → World → Prop} {Q Q' : Exit → Act → World → Prop} (hk : ∀ a w, K a w → K' a w) (hq : ∀ ch a w, Q (.panic ch) a w → Q' (.panic ch) a w) (ho : ∀ a w, Q .outgrown a w → Q' .outgrown a w)
    (h : o.wpIn F n P a w K Q) : o.wpIn F n P a w K' Q' := by
  have hl : LetsOut Q → LetsOut Q' := fun ⟨a, w, h⟩ => ⟨a, w, ho a w h⟩
  unfold Oper.wpIn at *
  refine ⟨h.1, ?_⟩
  have h := h.2
  generalize (o.semAt F.round a.eval).run P w = r at *
  cases r with
  | ok nx w' =>
    cases nx with
    | value v => exact hk _ _ h
    | skip => exact hk _ _ h
    | defer d => exact hk _ _ h
    | enter f args =>
      refine ⟨h.1, h.2.mono fun e w2 he => ?_⟩
      cases e with
      | returned v => exact hk _ _ he
      | panicked ch => exact hq _ _ _ he
      | outgrown => exact hl he
    | row row args => exact ⟨h.1, h.2.mono fun v w2 he => hk _ _ he⟩
    | round l f tm s b =>
      refine ⟨h.1, h.2.mono fun e w2 he => ?_⟩
      cases e with
      | returned v => exact hk _ _ he
      | panicked ch => exact hq _ _ _ he
      | outgrown => exact hl he
    | _ => exact h.elim
  | halt t w' =>
    cases t with
    | panic v => exact hq _ _ _ h
    | _ => exact h.elim
/-- what follows in a list of operations -/
def thenQ (K : Act → World → Prop) (Q : Exit → Act → World → Prop) : Exit → Act → World → Prop
  | .normal, a, w => K a w
  | e, a, w => Q e a w
theorem wpListIn_app {F : Fence} {n : Nat} {P : Program} {ops : Array Oper} {Q : Exit → Act → World → Prop} {l2 : List Oper} : ∀ (l1 : List Oper) (a : Act) (w : World), wpListIn F n P ops (thenQ (wpListIn F n P ops Q l2) Q) l1 a w → wpListIn F n P ops Q (l1 ++ l2) a w
  | [], a, w, h => h
  | o :: r, a, w, h => by
    show wpListIn F n P ops Q (o :: (r ++ l2)) a w
    unfold wpListIn at h ⊢
    split at h
    · rename_i hw
      rw [if_pos hw]
      exact Oper.wpIn_mono2 (fun a w h => wpListIn_app r a w h) (fun _ _ _ h => h) (fun _ _ h => h) h
    · rename_i hw
      rw [if_neg hw]
      exact ⟨h.1, wpListIn_app r _ _ h.2⟩
theorem putObj_self {w : World} {l : Nat} {o o' : Obj} (h : w.heap[l]? = some o) : (w.putObj l o').heap[l]? = some o' := by
  simp only [World.putObj]
  rw [Array.getElem?_setIfInBounds_self_of_lt (size_of h)]
theorem putObj_ne {w : World} {l b : Nat} {o' : Obj} (h : l ≠ b) : (w.putObj l o').heap[b]? = w.heap[b]? := by
  simp only [World.putObj]
  rw [Array.getElem?_setIfInBounds_ne h]
theorem RecsOk.same {ν : Nu} {w w' : World} : ∀ {A : Amb} {σ : List St}, RecsOk ν A σ w → (∀ x ∈ A, w'.heap[x.1]? = w.heap[x.1]?) → RecsOk ν A σ w'
  | [], [], _, _ => trivial
  | [], _ :: _, h, _ => h.elim
  | _ :: _, [], h, _ => h.elim
  | (l, H) :: A, st :: σ, ⟨⟨rc, h1, h1'⟩, h2, h3⟩, hw => ⟨⟨rc, by rw [hw _ (.head _)]; exact h1, h1'⟩, RecsOk.same h2 (fun x hx => hw x (.tail _ hx)), h3⟩
/-- a record is written -/
theorem RecsOk.put {ν : Nu} {w : World} : ∀ {A : Amb} {σ : List St}, RecsOk ν A σ w → ∀ {i l : Nat} {H : Host}, A[i]? = some (l, H) → ∀ {st : St}, σ[i]? = some st →
    ∃ rc : Loop, w.heap[l]? = some (.loop rc) ∧ rc.state = st.1 ∧ rc.pending = st.2 ∧ rc.params = H.ps ∧ rc.assign = H.assign ∧ rc.body = H.body ∧ H.n ≤ rc.tmps.size ∧ (∀ t v, look H.fm t = some v → VR ν v (rc.tmps.getD t undef)) ∧
      ∀ (s : LoopState) (pd : Option Code), RecsOk ν A (σ.set i (s, pd)) (w.putObj l (.loop { rc with state := s, pending := pd }))
  | (l0, H0) :: A, st0 :: σ, ⟨h1, h2, h3⟩, 0, l, H, hi, st, hs => by
    simp at hi hs
    obtain ⟨rfl, rfl⟩ := hi
    subst hs
    obtain ⟨rc, g1, g2, g3, g4, g5, g6, g7, g8⟩ := h1
    exact ⟨rc, g1, g2, g3, g4, g5, g6, g7, g8, fun s pd => ⟨⟨{ rc with state := s, pending := pd }, putObj_self g1, rfl, rfl, g4, g5, g6, g7, g8⟩, h2.same fun x hx => putObj_ne (Ne.symm (h3 x hx)), h3⟩⟩
  | (l0, H0) :: A, st0 :: σ, ⟨h1, h2, h3⟩, i + 1, l, H, hi, st, hs => by
    obtain ⟨rc, g1, g2, g3, g4, g5, g6, g7, g8, g9⟩ := h2.put (i := i) (by simpa using hi) (by simpa using hs)
    have hmem : (l, H) ∈ A := List.mem_of_getElem? (i := i) (by simpa using hi)
    refine ⟨rc, g1, g2, g3, g4, g5, g6, g7, g8, fun s pd => ⟨?_, g9 s pd, h3⟩⟩
    obtain ⟨r0, k1, k2⟩ := h1
    exact ⟨r0, by rw [putObj_ne (h3 _ hmem)]; exact k1, k2⟩
section
variable {E : Env} {n k : Nat} {A : Amb} {fm : Fm} {T : Tab} {σ : List St} {post : AExit → Fm → Tab → List St → Prop}
end
end Go.Abs

set_option linter.unusedVariables false
set_option linter.unusedSimpArgs false
namespace Go.Abs
/-- blocks were laid at the end; nothing else -/
structure Gr (w w' : World) : Prop where
  os : w'.os = w.os
  tape : w'.tape = w.tape
  output : w'.output = w.output
  size : w.heap.size ≤ w'.heap.size
  low : ∀ b : Nat, b < w.heap.size → w'.heap[b]? = w.heap[b]?
theorem Gr.alloc (w : World) (o : Obj) : Gr w (w.alloc o) :=
  ⟨rfl, rfl, rfl, by simp, fun b hb => by
    simp only [World.alloc]
    rw [Array.getElem?_push, if_neg (by omega)]⟩
theorem Gr.trans {a b c : World} (h : Gr a b) (k : Gr b c) : Gr a c :=
  ⟨k.os.trans h.os, k.tape.trans h.tape, k.output.trans h.output, Nat.le_trans h.size k.size, fun x hx => (k.low x (Nat.lt_of_lt_of_le hx h.size)).trans (h.low x hx)⟩
theorem Gr.fr {A : Amb} {ν : Nu} {T : Tab} {w w' : World} (h : Gr w w') : Fr (OwnA A ν T) w (OwnA A ν T) w' := ⟨h.os, h.tape, h.output, h.size, fun b hb _ => h.low b hb, fun b hb => .inl hb⟩
section
variable {E : Env} {n k : Nat} {A : Amb} {fm : Fm} {T : Tab} {σ : List St} {post : AExit → Fm → Tab → List St → Prop}
end
end Go.Abs

set_option linter.unusedVariables false
set_option linter.unusedSimpArgs false
namespace Go.Abs
/-! ## a function's contract from its body's walk; bytes of whatever kind -/
theorem small_of_awp {E : Env} (hE : EnvOk E) {f : FuncId} {fn : Func} {c : Code} (hf : E.P.funcs[f]? = some fn) (hb : fn.body = some c) {args : List AVal} {T0 : Tab} {v : AVal} {T1 : Tab} (hle : Nat.ble args.length fn.ntmps = true)
    (h : AWp E fn.ntmps T0.length c (argF args 0) T0 fun ex fm T => (ex = .normal ∨ ex = .ret) ∧ T = T1 ∧ ∃ cs us, aRes E fm T fn.results.toList = some (cs, us) ∧ allP cs ∧ retV us = v) : Small E.P E.gl f args T0 v T1 := by
  intro ν w vs hr hv
  refine callsIn_wide.1 (callsIn_of_wp_marks (F := Fence.wide) (n := 0) hf hb trivial ?_)
  have hs : SRel E [] ν (argF args 0) T0 fn.ntmps { tmps := vs ++ Array.replicate (fn.ntmps - vs.size) undef, defers := [] } w := by
    refine ⟨hr, fun t v hl => ?_, by simp; omega, rfl⟩
    obtain ⟨h1, h2, h3⟩ := argF_look hv hl
    simp only [Nat.sub_zero] at h2 h3
    have : (vs ++ Array.replicate (fn.ntmps - vs.size) undef).getD t undef = vs.toList.getD t undef := by
      have h2' : t < vs.size := by simpa using h2
      simp [Array.getElem?_append_left h2', List.getD]
    rw [this]; exact h3
  refine wpIn_mono (h none [] ν _ w hs (fun l h => by cases h)) fun e a' w' hP => ?_
  obtain ⟨ex, fm', T', ν', e1, ⟨hex, hT, cs2, us, h2, h3, hu⟩, ⟨ms, s', mk⟩, n', f'⟩ := hP
  subst e1 hT hu
  have post : LeavesInM Fence.wide 0 E.P fn a'.tmps (fun e w' => ∃ x ν', e = .returned x ∧ VR ν' (retV us) x ∧ HR E.gl ν' T' w' ∧ NuLeB T0.length ν ν' ∧ Fr (Own ν T0) w (Own ν' T') w') a'.defers .returning w' := by
    have hd : a'.defers = ms := by rw [s'.defers, List.append_nil]
    rw [hd]
    refine leaves_marks ms w' mk.1 mk.2 (Sh.refl w.heap.size w') fun w2 hsh => ?_
    have s2 : SRel E (ms ++ []) ν' fm' T' fn.ntmps a' w2 := ⟨s'.hr.sh hsh, s'.fm, s'.size, s'.defers⟩
    obtain ⟨xs, g1, g2⟩ := aRes_sound hE s2 h2 h3
    have hres : (results fn a'.tmps).run E.P w2 = .ok (if h : xs.toArray.size = 1 then xs.toArray[0] else .tuple xs.toArray) w2 := by
      have : (fn.results.mapM (resF a'.tmps)).run E.P w2 = .ok xs.toArray w2 := by
        rw [Array.mapM_eq_mapM_toList]
        simp [g1]
      unfold results
      rw [Sem.run_bind]
      refine (congrArg (fun r => Result.andThen r _) ((congrArg (fun g => Sem.run E.P (Array.mapM g fn.results) w2) (funext fun x => ?_)).trans this)).trans rfl
      cases x <;> rfl
    exact ⟨_, hres, _, ν', rfl, retV_VR g2, s2.hr, n', f'.sh rfl hsh⟩
  rcases hex with rfl | rfl
  · exact post
  · exact post

section
variable {E : Env} {n k : Nat} {fm : Fm} {T : Tab} {post : AExit → Fm → Tab → Prop}
end
end Go.Abs

set_option linter.unusedVariables false
namespace Go.Abs
/-! ## a chain of codes -/
def chn : List Code → Code → Code
  | [], r => r
  | c :: l, r => .seq c (chn l r)
def runs (E : Env) (n : Nat) (orc : Orc) (f : Nat) : List Code → Fm → Tab → List (Option Bool) → Out
  | [], fm, T, ds => ⟨[], .normal, fm, T, ds⟩
  | c :: l, fm, T, ds => seqO (run E n orc f c fm T ds) (runs E n orc f l)
theorem AWp.chn {E : Env} (hE : EnvOk E) (hm : E.P.follows .mixedOrders = true) {n k : Nat} {orc : Orc} (hk : k ≤ orc.kb) {f : Nat} {post : AExit → Fm → Tab → Prop} {rest : Code} : ∀ {cs : List Code}, (∀ c ∈ cs, OrcOk E n orc c) → ∀ {fm : Fm} {T : Tab} {ds : List (Option Bool)} {o : Out}, runs E n orc f cs fm T ds = o → allP o.cs → o.ex = .normal → AWp E n k rest o.fm o.tab post → AWp E n k (Abs.chn cs rest) fm T post
  | [], _, fm, T, ds, o, ho, hc, hx, h => by subst ho; exact h
  | c :: l, hO, fm, T, ds, o, ho, hc, hx, h => by
    refine AWp.seq ?_
    simp only [runs] at ho
    have hrun := fun hh => (run_sound hE hm hk (hO c (.head _)) f (c := c) (fun _ _ h => h) (fm := fm) (T := T) (ds := ds) hh).1
    generalize run E n orc f c fm T ds = o1 at ho hrun
    obtain ⟨cs1, ex1, fm1, T1, ds1⟩ := o1
    cases ex1 with
    | normal =>
      simp only [seqO] at ho
      generalize hr : runs E n orc f l fm1 T1 ds1 = o2 at ho
      obtain ⟨cs2, ex2, fm2, T2, ds2⟩ := o2
      subst ho
      simp only at hc hx h
      rw [allP_append] at hc
      refine AWp.mono (hrun hc.1) fun ex fm' T' hP => ?_
      obtain ⟨e1, e2, e3⟩ := hP
      subst e1 e2 e3
      exact AWp.chn hE hm hk (fun c hc => hO c (.tail _ hc)) hr hc.2 hx h
    | exit id => subst ho; cases hx
    | goto l => subst ho; cases hx
    | ret => subst ho; cases hx
def frontC : Nat → Code → List Code
  | n + 1, .seq a b => a :: frontC n b
  | _, _ => []
def backC : Nat → Code → Code
  | n + 1, .seq a b => backC n b
  | _, c => c
theorem chn_split : ∀ (n : Nat) (c : Code), chn (frontC n c) (backC n c) = c
  | 0, c => by cases c <;> rfl
  | n + 1, c => by
    cases c with
    | seq a b => simp only [frontC, backC, chn, chn_split n b]
    | _ => rfl
theorem AWp.cut {E : Env} (hE : EnvOk E) (hm : E.P.follows .mixedOrders = true) {n k : Nat} {f : Nat} {post : AExit → Fm → Tab → Prop} {c : Code} (j : Nat) {fm : Fm} {T : Tab} {ds : List (Option Bool)} {o : Out} (ho : runs E n ⟨k, []⟩ f (frontC j c) fm T ds = o) (hc : Ok o) (hx : o.ex = .normal) (h : AWp E n k (backC j c) o.fm o.tab post) : AWp E n k c fm T post := by
  have := AWp.chn hE hm (orc := ⟨k, []⟩) (Nat.le_refl k) (cs := frontC j c) (fun c _ => OrcOk.nil) ho hc.h hx h
  rwa [chn_split] at this
end Go.Abs

set_option linter.unusedVariables false
set_option linter.unusedSimpArgs false
namespace Go.Abs
/-! ## A region that draws its order and ends in a call of yield -/
section
variable {c : Cfg} {vals : Fm} {ν0 : Nu} {T0 : Tab} {w0 : World} {D : List Deferred} {rr : Option Nat} {Q : Exit → Act → World → Prop}
structure Front (full : List Oper) (c : Cfg) (oy : Oper) (l2 : List Oper) : Prop where
  eq : full = c.ops ++ oy :: l2
  g : ∀ o ∈ c.ops, o.guard = none
  b : ∀ j, j < c.ops.length → bit (maskOf c.anc oy.after.toList) j = true
  e : ∀ e ∈ oy.after.toList, bindsB e = true → e.on < c.ops.length
  a : ∀ o ∈ l2, ∃ e ∈ o.after.toList, bindsB e = true ∧ c.ops.length ≤ e.on
theorem Front.lt {full : List Oper} {oy : Oper} {l2 : List Oper} (F : Front full c oy l2) {i : Nat} (h : i < c.ops.length) : full.toArray[i]? = c.ops[i]? := by
  rw [F.eq]; simp [List.getElem?_append_left h]
theorem Front.at {full : List Oper} {oy : Oper} {l2 : List Oper} (F : Front full c oy l2) : full.toArray[c.ops.length]? = some oy := by
  rw [F.eq]; simp
theorem Front.len {full : List Oper} {oy : Oper} {l2 : List Oper} (F : Front full c oy l2) : full.length = c.ops.length + (l2.length + 1) := by
  rw [F.eq]; simp
/-- nothing behind the front is ready before all of the front is listed -/
theorem Front.ready {full : List Oper} {oy : Oper} {l2 : List Oper} (F : Front full c oy l2) (g : Geo c) (hanc : c.anc = ancsGo c.ops []) {L Lf : Array Bool} (hfr : ∀ i, i < c.ops.length → (ls L i ↔ ls Lf i)) (hno : ∀ i, c.ops.length ≤ i → ¬ ls L i)
    (hcl : ∀ (i : Nat) (o : Oper), c.ops[i]? = some o → ls Lf i → ∀ e ∈ o.after.toList, bindsB e = true → ls Lf e.on) (hlf : ∀ i, ls Lf i → i < c.ops.length) {i : Nat} (hi : i ∈ Region.ready .any full.toArray L) (hge : c.ops.length ≤ i) : i = c.ops.length ∧ ∀ j, j < c.ops.length → ls Lf j := by
  obtain ⟨h1, o, h2, h3⟩ := mem_ready.1 hi
  have h2' : full[i]? = some o := by simpa using h2
  rw [F.eq, List.getElem?_append_right hge] at h2'
  have back : ∀ e ∈ o.after.toList, bindsB e = true → ls L e.on := fun e he hb => h3 e (by simpa using he) (by rw [bindsB_eq]; exact hb)
  cases hk : i - c.ops.length with
  | zero =>
    rw [hk] at h2'
    simp at h2'
    subst h2'
    refine ⟨by omega, fun j hj => ?_⟩
    have hb := F.b j hj
    obtain ⟨e, e1, e2, e3⟩ := maskOf_bit hb
    have hlt := F.e e e1 e2
    have hs := (hfr e.on hlt).1 (back e e1 e2)
    rcases e3 with rfl | e3
    · exact hs
    · have e4 : bit (c.an e.on) j = true := by
        unfold Cfg.an; rw [nthN_eq]; exact e3
      exact g.down (S := ls Lf) hcl e.on hs j e4
  | succ k =>
    rw [hk] at h2'
    simp at h2'
    obtain ⟨e, e1, e2, e3⟩ := F.a o (List.mem_of_getElem? h2')
    exact absurd (back e e1 e2) (hno e.on e3)
end
end Go.Abs

set_option linter.unusedVariables false
set_option linter.unusedSimpArgs false
namespace Go.Abs
section
variable {E : Env} {n k : Nat} {A : Amb} {fm : Fm} {T : Tab} {σ : List St} {post : AExit → Fm → Tab → List St → Prop}
end
end Go.Abs

set_option linter.unusedVariables false
set_option linter.unusedSimpArgs false
namespace Go.Abs
section
variable {E : Env} {n k : Nat} {fm : Fm} {T : Tab} {post : AExit → Fm → Tab → Prop}
theorem run_eqNil {P : Program} {w : World} {t e : TypeId} (hd : P.underlying t = some (.slice e)) (ao : Option Addr) (len c : Nat) (h0 : ao = none → len = 0 ∧ c = 0) (x y : Operand) :
    ∃ b : Bool, (eqGuard .eql t x y (.slice ao len c) (.slice none 0 0)).run P w = .ok () w ∧ (binOp .eql t (.slice ao len c) (.slice none 0 0)).run P w = .ok (.bool b) w := by
  cases ao with
  | none =>
    obtain ⟨rfl, rfl⟩ := h0 rfl
    have he : ∀ d, (Op.equalIn (d + 1) t (.slice none 0 0) (.slice none 0 0)).run P w = .ok true w := fun d => by simp [Op.equalIn, run_underlying hd]
    exact ⟨true, by rw [eqGuard_at_slice]; rfl, by simp only [binOp]; simp [Op.equal, Op.maxDepth, he 9999]⟩
  | some b =>
    have he : ∀ d, (Op.equalIn (d + 1) t (.slice (some b) len c) (.slice none 0 0)).run P w = .ok false w := fun d => by simp [Op.equalIn, run_underlying hd]
    exact ⟨false, by rw [eqGuard_at_slice]; rfl, by simp only [binOp]; simp [Op.equal, Op.maxDepth, he 9999]⟩
/-- a region whose last operation holds a slice against nil, of which it is not known whether it is nothing -/
theorem AWp.eqNil (hE : EnvOk E) {id : Nat} {opsA : Array Oper} {l1 : List Oper} {oy : Oper} (hsp : opsA.toList = l1 ++ [oy]) {ds1 : List (Option Bool)} {o1 : Out}
    (ho1 : runOps E opsA.toList n l1 fm (T ++ holes (cntA E l1)) T.length ds1 = o1) (hc1 : Ok o1)
    {x y : Operand} {t : Nat} {ty e yt : TypeId} (hop : oy.op = .binOp .eql ty x y yt) (hg : oy.guard = none) (hdst : oy.dst = some t) (htn : t < n) (hd : E.P.underlying ty = some (.slice e))
    {sz p g off len : Nat} {cap : Option Nat} {o : AObj} (hx : evOf o1.fm x = some (.slice sz p g off len cap)) (hy : evOf o1.fm y = some .nilSlice) (ho : nth o1.tab p = some o) (hgo : g = o.g)
    (rest : ∀ b : Bool, post .normal ((t, .bool b) :: o1.fm) o1.tab) : AWp E n k (.region id opsA false) fm T post := by
  intro rr D ν a w hs hrd
  refine wpIn_region_list ?_
  rw [hsp]
  refine wpListIn_app l1 a w ?_
  obtain ⟨g1, g2, g3⟩ := Holes_holes hs.hr (cntA E l1)
  rw [← show opsA.toList.toArray = opsA by simp]
  refine runOps_sound hE l1 ⟨g1, hs.fm, hs.size, hs.defers⟩ g3 (by rw [ho1]; exact hc1.h) fun ν1 a1 w1 s1 n1 f1 => ?_
  rw [ho1] at s1 f1
  have f1' : Fr (Own ν T) w (Own ν1 o1.tab) w1 := ⟨f1.os, f1.tape, f1.output, f1.size, fun b hb ho => f1.block b hb (fun h => ho (g2 b h)), fun b hb => (f1.own b hb).imp (g2 b) (fun h => h)⟩
  show wpListIn _ _ _ _ _ [oy] a1 w1
  unfold wpListIn
  rw [if_pos (by simp [Region.wanted, hg])]
  refine ⟨fun _ _ => trivial, ?_⟩
  have hsem : oy.semAt (Fc rr).round a1.eval = execOp a1.eval oy := by
    cases rr with
    | none => exact Oper.semAt_none _ _
    | some l => exact Oper.semAt_some l _ _ (fun c h => by rw [hop] at h; cases h)
  have hxe := evOf_rel s1 x _ hx
  have hye := evOf_rel s1 y _ hy
  have hyv : a1.eval y = .slice none 0 0 := hye.nilSlice_inv
  obtain ⟨ao, len', c', hxv, h0⟩ : ∃ ao len' c', a1.eval x = .slice ao len' c' ∧ (ao = none → len' = 0 ∧ c' = 0) := by
    rcases hxe.slice_inv s1.hr ho hgo with ⟨l, b, c, hl, hv, hsl⟩ | ⟨bo, l, rfl, hv, hl, hz'⟩
    · exact ⟨some b, _, c, hv, fun h => by cases h⟩
    · exact ⟨bo, 0, 0, hv, fun _ => ⟨rfl, rfl⟩⟩
  obtain ⟨b, e1, e2⟩ := run_eqNil (P := E.P) (w := w1) hd ao len' c' h0 x y
  have hrun : (oy.semAt (Fc rr).round a1.eval).run E.P w1 = .ok (.value (.bool b)) w1 := by
    rw [hsem]
    simp only [execOp, hop, hxv, hyv, Sem.run_bind, e1, e2, Result.andThen_ok, Sem.run_pure]
  rw [hrun]
  show wpListIn (Fc rr) 0 E.P opsA.toList.toArray (Post E n k post D ν T w) [] _ _
  unfold wpListIn
  have s2 : SRel E D ν1 ((t, .bool b) :: o1.fm) o1.tab n (a1.put oy.dst (.bool b)) w1 := by
    have := s1.put (d := oy.dst) (NuLe.refl ν1) s1.hr (by rw [hdst]; simpa [dstOk] using htn) (.bool b)
    rw [hdst] at this ⊢
    exact this
  exact ⟨.normal, _, _, ν1, rfl, rest b, s2.m, n1.b k, f1'⟩
end
end Go.Abs

set_option linter.unusedVariables false
set_option linter.unusedSimpArgs false
namespace Go.Abs
open Go.RowKit Go.WideShapes Go.ChangeShapes Go.ChangeAt
/-! ## Rows of laws: a struct of four slices of bytes -/
section
variable {H : Type} {enc : TypeId × Value → H} {P : Program}
end
end Go.Abs

set_option linter.unusedVariables false
set_option linter.unusedSimpArgs false
namespace Go.Abs
open Go.RowKit Go.WideShapes Go.ChangeShapes Go.ChangeAt
/-! ## Rows of laws: a slice of structs of two numbers -/
section
variable {H : Type} {enc : TypeId × Value → H} {P : Program}
def cellI (W : World) (a : Addr) (j : Nat) : Int := match W.cell? (a.add j) with | some (.int _ n) => n | _ => 0
end
end Go.Abs

set_option linter.unusedVariables false
set_option linter.unusedSimpArgs false
namespace Go.Abs
end Go.Abs

set_option linter.unusedVariables false
set_option linter.unusedSimpArgs false
namespace Go.Abs
/-! ## Families: what stands in them; contracts over one row -/
def zOf : AVal → List Int | .frows _ _ (z :: _) _ => z | .fam (z :: _) => z | _ => []
def ZOf : AVal → List (List Int) | .frows _ _ (_ :: Z) _ => Z | .fam (_ :: Z) => Z | _ => []
/-! ## The table, told otherwise -/
def Conv (gl : Nat → Option AVal) (ids : List Nat) (T T' : Tab) : Prop := ∀ (ν : Nu) (w : World), HR gl ν T w → (∀ p ∈ ids, (ν p).isSome) → ∃ ν', HR gl ν' T' w ∧ NuLe ν ν' ∧ ∀ b, Own ν' T' b → Own ν T b
theorem NuLe.isSome {ν ν' : Nu} (h : NuLe ν ν') {p : Nat} (hp : (ν p).isSome) : (ν' p).isSome := by
  obtain ⟨l, hl⟩ := Option.isSome_iff_exists.1 hp
  obtain ⟨l', h1, _⟩ := h p l hl
  rw [h1]; rfl
theorem Conv.trans {gl : Nat → Option AVal} {ids : List Nat} {T T1 T2 : Tab} (h : Conv gl ids T T1) (k : Conv gl ids T1 T2) : Conv gl ids T T2 := by
  intro ν w hr hi
  obtain ⟨ν1, h1, h2, h3⟩ := h ν w hr hi
  obtain ⟨ν2, k1, k2, k3⟩ := k ν1 w h1 (fun p hp => h2.isSome (hi p hp))
  exact ⟨ν2, k1, h2.trans k2, fun b hb => h3 b (k3 b hb)⟩
theorem AWp.conv {E : Env} {n k : Nat} {c : Code} {fm : Fm} {ids : List Nat} {T T' : Tab} {post : AExit → Fm → Tab → Prop} (hc : Conv E.gl ids T T') (hi : ∀ p ∈ ids, ∃ t v, look fm t = some v ∧ hasId p v = true) (h : AWp E n k c fm T' post) : AWp E n k c fm T post := by
  intro rr D ν a w hs hrd
  obtain ⟨ν', h1, h2, h3⟩ := hc ν w hs.hr (fun p hp => by obtain ⟨t, v, e1, e2⟩ := hi p hp; exact (hs.fm t v e1).hasId e2)
  refine wpIn_mono (h rr D ν' a w ⟨h1, fun t v hv => (hs.fm t v hv).mono h2, hs.size, hs.defers⟩ hrd) fun e a' w' ⟨ex, f1, T1, ν1, g1, g2, g3, g4, g5⟩ => ⟨ex, f1, T1, ν1, g1, g2, g3, (h2.b k).trans g4, ?_⟩
  exact ⟨g5.os, g5.tape, g5.output, g5.size, fun b hb hO => g5.block b hb (fun h => hO (h3 b h)), fun b hb => (g5.own b hb).imp (h3 b) id⟩
theorem To.conv {E : Env} {n k : Nat} {c : Code} {fm : Fm} {T : Tab} {ex : AExit} {fm1 : Fm} {ids : List Nat} {T1 T2 : Tab} (h : To E n k c fm T ex fm1 T1) (hc : Conv E.gl ids T1 T2) (hi : ∀ p ∈ ids, ∃ t v, look fm1 t = some v ∧ hasId p v = true) : To E n k c fm T ex fm1 T2 := by
  intro rr D ν a w hs hrd
  refine wpIn_mono (h rr D ν a w hs hrd) fun e a' w' ⟨ex', f1, T', ν1, g1, ⟨e1, e2, e3⟩, ⟨ms, s', mk⟩, g4, g5⟩ => ?_
  subst e1 e2 e3
  obtain ⟨ν2, h1, h2, h3⟩ := hc ν1 w' s'.hr (fun p hp => by obtain ⟨t, v, e1, e2⟩ := hi p hp; exact (s'.fm t v e1).hasId e2)
  exact ⟨_, _, T2, ν2, g1, ⟨rfl, rfl, rfl⟩, ⟨ms, ⟨h1, fun t v hv => (s'.fm t v hv).mono h2, s'.size, s'.defers⟩, mk⟩, g4.trans (h2.b k), g5.sub h3⟩
theorem Small.conv {P : Program} {gl : Nat → Option AVal} {f : FuncId} {args : List AVal} {T : Tab} {v : AVal} {ids : List Nat} {T1 T2 : Tab} (h : Small P gl f args T v T1) (hc : Conv gl ids T1 T2) (hi : ∀ p ∈ ids, hasId p v = true) : Small P gl f args T v T2 := by
  intro ν w vs hr hvs
  refine (h ν w vs hr hvs).mono ?_
  rintro e w' ⟨x, ν', rfl, h1, h2, h3, h4⟩
  obtain ⟨ν2, k1, k2, k3⟩ := hc ν' w' h2 (fun p hp => h1.hasId (hi p hp))
  exact ⟨x, ν2, rfl, h1.mono k2, k1, h3.trans (k2.b _), h4.sub k3⟩

section
variable {gl : Nat → Option AVal} {ν : Nu} {T : Tab} {w : World}
/-- an object is read alone from here on -/
theorem HR.disown (h : HR gl ν T w) {p : Nat} {o : AObj} {l : Loc} (ho : T[p]? = some (some o)) (hl : ν p = some l) (hnf : o.data.noFam = true) :
    HR gl ν (T.set p (some { o with own := false })) w ∧ (∀ b, Own ν (T.set p (some { o with own := false })) b → Own ν T b) := by
  have hob := h.obj p o l ho hl
  exact h.retell (o' := { o with own := false }) ho hl rfl (fun e => by cases e) ⟨hob.2.1, .inr (.inl ⟨rfl, hob.2.room, fun i hi => h.read ho hl hi⟩)⟩ (FamOk.no hnf)
/-- the last cell of an object of rows becomes a row of its family -/
theorem HR.absorb1 (h : HR gl ν T w) {x F gx gF q gq off n : Nat} {Z : List (List Int)} {xs : List Int} {owF : Bool} {ex eF eq : TypeId} {lx : Loc}
    (hx : T[x]? = some (some ⟨.frows F gF Z [.slice 1 q gq off n none], gx, true, ex⟩)) (hlx : ν x = some lx) (hF : T[F]? = some (some ⟨.fam Z, gF, owF, eF⟩)) (hq : T[q]? = some (some ⟨.ints .u8 xs, gq, false, eq⟩)) (hn : off + n ≤ xs.length) :
    ∃ lF : Loc, lF.g = gF + 1 ∧ NuLe ν (upd ν F lF) ∧ HR gl (upd ν F lF) ((T.set F (some ⟨.fam (Z ++ [(xs.drop off).take n]), gF + 1, true, eF⟩)).set x (some ⟨.frows F (gF + 1) (Z ++ [(xs.drop off).take n]) [], gx, true, ex⟩)) w ∧
      (∀ b, Own (upd ν F lF) ((T.set F (some ⟨.fam (Z ++ [(xs.drop off).take n]), gF + 1, true, eF⟩)).set x (some ⟨.frows F (gF + 1) (Z ++ [(xs.drop off).take n]) [], gx, true, ex⟩)) b → Own ν T b) ∧
      ∀ (i : Nat) (b : Addr) (n' c : Nat), lF.rw[i]? = some (Value.slice (some b) n' c) → 0 < c → (∃ l0, ν F = some l0 ∧ l0.rw[i]? = some (Value.slice (some b) n' c)) ∨ ∃ lq, ν q = some lq ∧ 0 < lq.room ∧ b.block = lq.a.block := by
  have hxF : x ≠ F := by rintro rfl; rw [hx] at hF; injection hF with hF; injection hF with hF; injection hF with hF; cases hF
  have hFlt : F < T.length := (List.getElem?_eq_some_iff.1 hF).1
  have hxlt : x < T.length := (List.getElem?_eq_some_iff.1 hx).1
  have hox := h.obj x _ lx hx hlx
  have hlen : (AVal.frows F gF Z [.slice 1 q gq off n none]).len = Z.length + 1 := rfl
  have hrd : ∀ i, i < Z.length + 1 → ∃ y, w.cell? (lx.a.add i) = some y ∧ VR ν ((frowsV F gF Z ++ [AVal.slice 1 q gq off n none]).getD i un) y := fun i hi => by
    obtain ⟨y, y1, y2⟩ := h.read hx hlx (i := i) (by rw [hlen]; exact hi)
    exact ⟨y, y1, y2⟩
  have hold : ∀ i, i < Z.length → (frowsV F gF Z ++ [AVal.slice 1 q gq off n none]).getD i un = .frow F gF i (Z.getD i []).length := fun i hi => by
    rw [← frowsV_get F gF Z hi]; simp [List.getD, List.getElem?_append_left (show i < (frowsV F gF Z).length by rw [frowsV_len]; exact hi)]
  have hlast : (frowsV F gF Z ++ [AVal.slice 1 q gq off n none]).getD Z.length un = .slice 1 q gq off n none := by
    simp [List.getD, List.getElem?_append_right (show (frowsV F gF Z).length ≤ Z.length by rw [frowsV_len]; exact Nat.le_refl _), frowsV_len]
  obtain ⟨xv, hxv, hvr⟩ := hrd Z.length (by omega)
  rw [hlast] at hvr
  have hrow : RowOk (Own ν T) w xv ((xs.drop off).take n) := by
    have hl2 : ((xs.drop off).take n).length = n := by simp; omega
    rcases hvr.slice_inv h (nth_iff.2 hq) rfl with ⟨l, b, c, hl, rfl, h1, h2, h3, h4, h5⟩ | ⟨bo, l, rfl, rfl, hl, hz⟩
    · refine ⟨some b, c, by rw [hl2], by rw [hl2]; exact h1, fun hc => ⟨b, rfl, ?_, ?_, fun k hk => ?_⟩⟩
      · rintro ⟨p, o, lp, t1, t2, t3, t4, t5⟩
        refine h.sep p q o _ lp l t1 hq t2 (fun e => ?_) t3 hl t4 (by omega) (by rw [t5, h3, block_add])
        subst e; rw [hq] at t1; injection t1 with t1; injection t1 with t1; subst t1; cases t2
      · rw [h3, block_add]; exact h.blk q l hl (by omega)
      · rw [hl2] at hk
        obtain ⟨y, y1, y2⟩ := h.read hq hl (i := off + k) (by simp [AVal.len]; omega)
        rw [h3, add_add, y1]
        have e : (AVal.ints IntKind.u8 xs).get (off + k) = .int .u8 (((xs.drop off).take n).getD k 0) := by
          simp [AVal.get, List.getD, List.getElem?_take_of_lt hk, List.getElem?_drop]
        simp only at y2
        rw [e] at y2
        cases y2; rfl
    · exact ⟨bo, 0, by simp, by simp, fun hc => absurd hc (by omega)⟩
  have hxq : ∀ (b : Addr) (n' c : Nat), xv = Value.slice (some b) n' c → 0 < c → ∃ lq, ν q = some lq ∧ 0 < lq.room ∧ b.block = lq.a.block := by
    intro b n' c e hc
    rcases hvr.slice_inv h (nth_iff.2 hq) rfl with ⟨l, b', c', hl, e', h1, h2, h3, h4, h5⟩ | ⟨bo, l, _, e', hl, hz⟩
    · rw [e] at e'; injection e' with e1 e2 e3; injection e1 with e1; subst e1; subst e3
      exact ⟨l, hl, by omega, by rw [h3, block_add]⟩
    · rw [e] at e'; injection e' with e1 e2 e3; omega
  obtain ⟨R, hR1, hR2, hR3, hR4⟩ : ∃ R : List Value, R.length = Z.length ∧ (∀ i, i < Z.length → RowOk (Own ν T) w (R.getD i undef) (Z.getD i [])) ∧ (∀ i y, i < Z.length → w.cell? (lx.a.add i) = some y → R[i]? = some y) ∧ ∀ (i : Nat) (y : Value), R[i]? = some y → ∃ l0, ν F = some l0 ∧ l0.rw[i]? = some y := by
    cases hνF : ν F with
    | none =>
      have hZ : Z.length = 0 := by
        rcases Nat.eq_zero_or_pos Z.length with h0 | h0
        · exact h0
        · obtain ⟨y, _, y2⟩ := hrd 0 (by omega)
          rw [hold 0 h0] at y2
          cases y2 with
          | frow bo c hl _ _ => rw [hνF] at hl; cases hl
          | frowOld _ _ hl _ => rw [hνF] at hl; cases hl
      exact ⟨[], by rw [hZ]; rfl, fun i hi => by omega, fun i y hi => by omega, fun i y hi => by simp at hi⟩
    | some lF =>
      obtain ⟨f1, f2⟩ := h.fam F _ lF hF hνF Z rfl
      refine ⟨lF.rw, f1, f2, fun i y hi hy => ?_, fun i y hi => ⟨lF, rfl, hi⟩⟩
      obtain ⟨y', y1, y2⟩ := hrd i (by omega)
      rw [hy] at y1; injection y1 with y1; subst y1
      rw [hold i hi] at y2
      cases y2 with
      | frow bo c hl hg hri => rw [hνF] at hl; injection hl with hl; subst hl; exact hri
      | frowOld _ _ hl hg =>
        rw [hνF] at hl; injection hl with hl; subst hl
        have := (h.obj F _ lF hF hνF).1
        simp only at this; omega
  obtain ⟨lF, hlF⟩ : ∃ lF : Loc, lF = @Loc.mk ⟨0, 0, none⟩ (gF + 1) 0 ⟨R ++ [xv]⟩ := ⟨_, rfl⟩
  have e_g : lF.g = gF + 1 := by rw [hlF]
  have e_room : lF.room = 0 := by rw [hlF]
  have e_rw : lF.rw = R ++ [xv] := by rw [hlF]; rfl
  have hm : NuLe ν (upd ν F lF) := by
    cases hνF : ν F with
    | none => exact NuLe.upd_new _ hνF
    | some l0 =>
      have := (h.obj F _ l0 hF hνF).1
      simp only at this
      exact NuLe.upd_bump hνF (by rw [e_g]; omega)
  have self : upd ν F lF F = some lF := upd_same _ _ _
  have other : ∀ p, p ≠ F → upd ν F lF p = ν p := fun p hp => upd_other ν lF hp
  generalize hoF : (⟨.fam (Z ++ [(xs.drop off).take n]), gF + 1, true, eF⟩ : AObj) = oF'
  generalize hoX : (⟨.frows F (gF + 1) (Z ++ [(xs.drop off).take n]) [], gx, true, ex⟩ : AObj) = oX'
  have get : ∀ (p : Nat) (o : Option AObj), ((T.set F (some oF')).set x (some oX'))[p]? = some o → (p = x ∧ o = some oX') ∨ (p = F ∧ o = some oF') ∨ (p ≠ x ∧ p ≠ F ∧ T[p]? = some o) := by
    intro p o ho
    by_cases e : p = x
    · subst e
      rw [List.getElem?_set_self (by simpa using hxlt)] at ho
      injection ho with ho; exact .inl ⟨rfl, ho.symm⟩
    · rw [List.getElem?_set_ne (Ne.symm e)] at ho
      by_cases e2 : p = F
      · subst e2
        rw [List.getElem?_set_self hFlt] at ho
        injection ho with ho; exact .inr (.inl ⟨rfl, ho.symm⟩)
      · rw [List.getElem?_set_ne (Ne.symm e2)] at ho
        exact .inr (.inr ⟨e, e2, ho⟩)
  have hown : ∀ b, Own (upd ν F lF) ((T.set F (some oF')).set x (some oX')) b → Own ν T b := by
    rintro b ⟨p, o, l, t1, t2, t3, t4, t5⟩
    rcases get p _ t1 with ⟨rfl, e⟩ | ⟨rfl, e⟩ | ⟨e1, e2, e⟩
    · rw [other _ hxF, hlx] at t3; injection t3 with t3; subst t3
      exact ⟨p, _, lx, hx, rfl, hlx, t4, t5⟩
    · rw [self] at t3; injection t3 with t3; subst t3; omega
    · rw [other p e2] at t3
      exact ⟨p, o, l, e, t2, t3, t4, t5⟩
  have ownX : ∀ p (o' : AObj), (p = x ∧ (some o' : Option AObj) = some oX') ∨ (p ≠ x ∧ p ≠ F ∧ T[p]? = some (some o')) → ∃ o0, T[p]? = some (some o0) ∧ (o'.own = true → o0.own = true) := by
    rintro p o' (⟨rfl, e⟩ | ⟨_, _, e⟩)
    · exact ⟨_, hx, fun _ => rfl⟩
    · exact ⟨o', e, id⟩
  refine ⟨lF, e_g, hm, ⟨fun p o l ho hl => ?_, fun p l hl => ?_, fun p hp => ?_, fun p l hl h0 => ?_, fun p p' o o' l l' ho ho' hw hne hl hl' h0 h0' => ?_, fun b d hb => ?_, fun p o l ho hl => ?_⟩, hown, fun i b n' c hi hc => ?_⟩
  rotate_right
  · rw [e_rw] at hi
    rcases Nat.lt_or_ge i R.length with h1 | h1
    · rw [List.getElem?_append_left h1] at hi
      exact .inl (hR4 i _ hi)
    · rw [List.getElem?_append_right h1] at hi
      have h2 := (List.getElem?_eq_some_iff.1 hi).1
      have h3 : i - R.length = 0 := by simp at h2; omega
      rw [h3] at hi
      simp at hi
      exact .inr (hxq b n' c hi hc)
  · rcases get p _ ho with ⟨rfl, e⟩ | ⟨rfl, e⟩ | ⟨e1, e2, e⟩
    · injection e with e; subst e; subst hoX
      rw [other _ hxF, hlx] at hl; injection hl with hl; subst hl
      obtain ⟨g1, _, g3⟩ := hox
      have hl3 : (AVal.frows F (gF + 1) (Z ++ [(xs.drop off).take n]) []).len = Z.length + 1 := by simp [AVal.len]
      refine ⟨g1, .frows _ _ _ _, ?_⟩
      rcases g3 with ⟨_, g3⟩ | ⟨g3, _⟩ | ⟨g3, _⟩
      · obtain ⟨cur, c1, c2, c3⟩ := g3.row
        refine .inl ⟨rfl, ⟨⟨cur, c1, c2, ?_⟩, g3.spot, ?_⟩⟩
        · have hcl : (AVal.frows F (gF + 1) (Z ++ [(xs.drop off).take n]) []).cells.length = Z.length + 1 := by rw [cells_len (by constructor), hl3]
          have hol : (AVal.frows F gF Z [.slice 1 q gq off n none]).cells.length = Z.length + 1 := by rw [cells_len (by constructor), hlen]
          simp only [hl3]
          simp only [hlen] at c3
          refine ⟨by rw [hcl, ← c3.1, hol], fun i hi => ?_⟩
          rw [hcl] at hi
          obtain ⟨y, y1, y2⟩ := hrd i hi
          have hcell : (rowOf cur lx.a.off (Z.length + 1)).getD i undef = y := by
            have hsp := g3.spot
            have := rowOf_get (n := Z.length + 1) (i := i) c2 (by have := g3.room; rw [hlen] at this; exact this) hi
            rw [addr_eta lx.a hsp, add_plain'] at y1
            simp only [World.cell?, c1] at y1
            rw [this] at y1
            simpa using y1
          rw [hcell, cells_get (by constructor) (by rw [hl3]; exact hi)]
          show VR _ (.frow F (gF + 1) i ((Z ++ [(xs.drop off).take n]).getD i []).length) y
          rcases Nat.lt_or_ge i Z.length with hiz | hiz
          · have hRi := hR3 i y hiz y1
            rw [hold i hiz] at y2
            have e : (Z ++ [(xs.drop off).take n]).getD i [] = Z.getD i [] := by simp [List.getD, List.getElem?_append_left hiz]
            rw [e]
            cases y2 with
            | frow bo c hl hg hri => exact .frow bo c self e_g.symm (by rw [e_rw, List.getElem?_append_left (by omega)]; exact hRi)
            | frowOld y hy hl hg =>
              have := (h.obj F _ _ hF hl).1
              simp only at this; omega
          · have hi' : i = Z.length := by omega
            subst hi'
            rw [hxv] at y1; injection y1 with y1; subst y1
            have e : (Z ++ [(xs.drop off).take n]).getD Z.length [] = (xs.drop off).take n := by simp [List.getD]
            rw [e]
            obtain ⟨bo, c, d1, _⟩ := hrow
            rw [d1]
            exact .frow bo c self e_g.symm (by rw [e_rw, List.getElem?_append_right (by omega), hR1]; simp [d1])
        · have := g3.room
          simp only [hlen] at this
          simp only [hl3]; exact this
      · cases g3
      · rw [hlen] at g3; omega
    · injection e with e; subst e; subst hoF
      rw [self] at hl; injection hl with hl; subst hl
      exact ⟨e_g.symm, .fam _, .inr (.inr ⟨rfl, e_room⟩)⟩
    · rw [other p e2] at hl
      obtain ⟨g1, g2⟩ := h.obj p o l e hl
      exact ⟨g1, g2.kept hm fun _ => rfl⟩
  · by_cases e : p = F
    · subst e; simpa using hFlt
    · rw [other p e] at hl; simpa using h.lt p l hl
  · rcases get p _ hp with ⟨rfl, e⟩ | ⟨rfl, e⟩ | ⟨e1, e2, e⟩
    · cases e
    · cases e
    · rw [other p e2]; exact h.hole p e
  · by_cases e : p = F
    · subst e; rw [self] at hl; injection hl with hl; subst hl; omega
    · rw [other p e] at hl; exact h.blk p l hl h0
  · by_cases e : p = F
    · subst e; rw [self] at hl; injection hl with hl; subst hl; omega
    by_cases e' : p' = F
    · subst e'; rw [self] at hl'; injection hl' with hl'; subst hl'; omega
    rw [other p e] at hl; rw [other p' e'] at hl'
    obtain ⟨o0, k1, k2⟩ := ownX p o ((get p _ ho).imp id (fun hh => hh.elim (fun hh => absurd hh.1 e) id))
    obtain ⟨o0', k1', k2'⟩ := ownX p' o' ((get p' _ ho').imp id (fun hh => hh.elim (fun hh => absurd hh.1 e') id))
    exact h.sep p p' o0 o0' l l' k1 k1' (k2 hw) hne hl hl' h0 h0'
  · obtain ⟨k1, k2⟩ := h.glob b d hb
    exact ⟨fun k3 => k1 (hown b k3), k2⟩
  · rcases get p _ ho with ⟨rfl, e⟩ | ⟨rfl, e⟩ | ⟨e1, e2, e⟩
    · injection e with e; subst e; subst hoX; exact FamOk.no rfl
    · injection e with e; subst e
      rw [self] at hl; injection hl with hl; subst hl
      have : FamOk (Own ν T) w o lF := by
        subst hoF
        intro Z' hZ'
        injection hZ' with hZ'; subst hZ'
        refine ⟨by rw [e_rw]; simp [hR1], fun i hi => ?_⟩
        rw [e_rw]
        simp at hi
        rcases Nat.lt_or_ge i Z.length with hiz | hiz
        · have e1 : (R ++ [xv]).getD i undef = R.getD i undef := by simp [List.getD, List.getElem?_append_left (show i < R.length by omega)]
          have e2 : (Z ++ [(xs.drop off).take n]).getD i [] = Z.getD i [] := by simp [List.getD, List.getElem?_append_left hiz]
          rw [e1, e2]; exact hR2 i hiz
        · have hi' : i = Z.length := by omega
          subst hi'
          have e1 : (R ++ [xv]).getD Z.length undef = xv := by simp [List.getD, ← hR1]
          have e2 : (Z ++ [(xs.drop off).take n]).getD Z.length [] = (xs.drop off).take n := by simp [List.getD]
          rw [e1, e2]; exact hrow
      exact this.sub hown
    · rw [other p e2] at hl
      exact (h.fam p o l e hl).sub hown
end
/-- the last cell, a slice of an object of its own, becomes a row -/
theorem Conv.absorb {gl : Nat → Option AVal} {T : Tab} {x F gx gF q gq off n : Nat} {Z : List (List Int)} {xs : List Int} {owF owq : Bool} {ex eF eq : TypeId}
    (hx : T[x]? = some (some ⟨.frows F gF Z [.slice 1 q gq off n none], gx, true, ex⟩)) (hF : T[F]? = some (some ⟨.fam Z, gF, owF, eF⟩)) (hq : T[q]? = some (some ⟨.ints .u8 xs, gq, owq, eq⟩)) (hn : off + n ≤ xs.length)
    {T' : Tab} (e : T' = ((T.set q (some ⟨.ints .u8 xs, gq, false, eq⟩)).set F (some ⟨.fam (Z ++ [(xs.drop off).take n]), gF + 1, true, eF⟩)).set x (some ⟨.frows F (gF + 1) (Z ++ [(xs.drop off).take n]) [], gx, true, ex⟩)) : Conv gl [x] T T' := by
  subst e
  intro ν w h hi
  obtain ⟨lx, hlx⟩ := Option.isSome_iff_exists.1 (hi x (.head _))
  have hxq : x ≠ q := by rintro rfl; rw [hx] at hq; injection hq with hq; injection hq with hq; injection hq with hq; cases hq
  have hFq : F ≠ q := by rintro rfl; rw [hF] at hq; injection hq with hq; injection hq with hq; injection hq with hq; cases hq
  obtain ⟨y, y1, y2⟩ := h.read hx hlx (i := Z.length) (by show Z.length < Z.length + 1; omega)
  have y3 : VR ν (.slice 1 q gq off n none) y := by
    have e : (AVal.frows F gF Z [.slice 1 q gq off n none]).get Z.length = .slice 1 q gq off n none := by
      show (frowsV F gF Z ++ [AVal.slice 1 q gq off n none]).getD Z.length un = _
      simp [List.getD, List.getElem?_append_right (show (frowsV F gF Z).length ≤ Z.length by rw [frowsV_len]; exact Nat.le_refl _), frowsV_len]
    simp only at y2
    rwa [e] at y2
  obtain ⟨lq, hlq⟩ := Option.isSome_iff_exists.1 (y3.hasId (p := q) (by simp [hasId, idsIn]))
  obtain ⟨h1, h2⟩ := h.disown hq hlq rfl
  obtain ⟨lF, k1, k2, k3, k4, _⟩ := h1.absorb1 (x := x) (F := F) (q := q) (by rw [List.getElem?_set_ne (Ne.symm hxq)]; exact hx) hlx (by rw [List.getElem?_set_ne (Ne.symm hFq)]; exact hF) (List.getElem?_set_self (List.getElem?_eq_some_iff.1 hq).1) hn
  exact ⟨_, k3, k2, fun b hb => h2 b (k4 b hb)⟩
/-- a slice of one slice, as a family begins -/
theorem Conv.first {gl : Nat → Option AVal} {T : Tab} {x gx : Nat} {v : AVal} {ex : TypeId} (eF : TypeId)
    (hx : T[x]? = some (some ⟨.agg [v], gx, true, ex⟩)) {T' : Tab} (e : T' = (T ++ [some (⟨.fam [], 0, true, eF⟩ : AObj)]).set x (some ⟨.frows T.length 0 [] [v], gx, true, ex⟩)) : Conv gl [x] T T' := by
  subst e
  intro ν w h hi
  obtain ⟨lx, hlx⟩ := Option.isSome_iff_exists.1 (hi x (.head _))
  have hxlt := (List.getElem?_eq_some_iff.1 hx).1
  have hn : ν T.length = none := by
    cases hν : ν T.length with
    | none => rfl
    | some l => have := h.lt _ l hν; omega
  obtain ⟨l0, hl0⟩ : ∃ l0 : Loc, l0 = ⟨⟨0, 0, none⟩, 0, 0⟩ := ⟨_, rfl⟩
  have hm : NuLe ν (upd ν T.length l0) := NuLe.upd_new (ν := ν) l0 hn
  have same : ∀ p, p ≠ T.length → upd ν T.length l0 p = ν p := fun p hp => upd_other ν l0 hp
  have self : upd ν T.length l0 T.length = some l0 := upd_same ν _ l0
  have getT : ∀ p o, (T ++ [some (⟨.fam [], 0, true, eF⟩ : AObj)])[p]? = some o → (p < T.length ∧ T[p]? = some o) ∨ (p = T.length ∧ o = some ⟨.fam [], 0, true, eF⟩) := by
    intro p o ho
    rcases Nat.lt_or_ge p T.length with hp | hp
    · rw [List.getElem?_append_left hp] at ho; exact .inl ⟨hp, ho⟩
    · rw [List.getElem?_append_right hp] at ho
      have hlt := (List.getElem?_eq_some_iff.1 ho).1
      have hp0 : p = T.length := by simp at hlt; omega
      subst hp0
      simp at ho
      exact .inr ⟨rfl, ho.symm⟩
  have hown : ∀ b, Own (upd ν T.length l0) (T ++ [some (⟨.fam [], 0, true, eF⟩ : AObj)]) b → Own ν T b := by
    rintro b ⟨p, o, l, h1, h2, h3, h4, h5⟩
    rcases getT p _ h1 with ⟨hp, h1⟩ | ⟨hp, h1⟩
    · rw [same p (by omega)] at h3; exact ⟨p, o, l, h1, h2, h3, h4, h5⟩
    · subst hp; rw [self] at h3; injection h3 with h3; subst h3; subst hl0; simp at h4
  have hr1 : HR gl (upd ν T.length l0) (T ++ [some (⟨.fam [], 0, true, eF⟩ : AObj)]) w := by
    refine ⟨fun p o l ho hl => ?_, fun p l hl => ?_, fun p hp => ?_, fun p l hl h0 => ?_, fun p q o o' l l' ho ho' hw hne hl hl' h0 h0' => ?_, fun b d hb => ?_, fun p o l ho hl => ?_⟩
    · rcases getT p _ ho with ⟨hp, h1⟩ | ⟨hp, h1⟩
      · rw [same p (by omega)] at hl
        obtain ⟨g1, g2⟩ := h.obj p o l h1 hl
        exact ⟨g1, g2.kept hm fun _ => rfl⟩
      · subst hp; rw [self] at hl; injection hl with hl; subst hl; subst hl0
        injection h1 with h1; subst h1
        exact ⟨rfl, .fam _, .inr (.inr ⟨rfl, rfl⟩)⟩
    · by_cases e : p = T.length
      · subst e; simp
      · rw [same p e] at hl; have := h.lt p l hl; simp; omega
    · rcases getT p _ hp with ⟨hp', h1⟩ | ⟨hp', h1⟩
      · rw [same p (by omega)]; exact h.hole p h1
      · cases h1
    · by_cases e : p = T.length
      · subst e; rw [self] at hl; injection hl with hl; subst hl; subst hl0; simp at h0
      · rw [same p e] at hl; exact h.blk p l hl h0
    · rcases getT p _ ho with ⟨hp, h1⟩ | ⟨hp, h1⟩
      · rcases getT q _ ho' with ⟨hq, h2⟩ | ⟨hq, h2⟩
        · rw [same p (by omega)] at hl; rw [same q (by omega)] at hl'
          exact h.sep p q o o' l l' h1 h2 hw hne hl hl' h0 h0'
        · subst hq; rw [self] at hl'; injection hl' with hl'; subst hl'; subst hl0; simp at h0'
      · subst hp; rw [self] at hl; injection hl with hl; subst hl; subst hl0; simp at h0
    · obtain ⟨h1, h2⟩ := h.glob b d hb
      exact ⟨fun h3 => h1 (hown b h3), h2⟩
    · rcases getT p _ ho with ⟨hp, h1⟩ | ⟨hp, h1⟩
      · rw [same p (by omega)] at hl
        exact (h.fam p o l h1 hl).sub hown
      · subst hp; rw [self] at hl; injection hl with hl; subst hl; subst hl0
        injection h1 with h1; subst h1
        intro Z hZ
        injection hZ with hZ; subst hZ
        exact ⟨rfl, fun i hi => by simp at hi⟩
  have hob := h.obj x _ lx hx hlx
  have hx1 : (T ++ [some (⟨.fam [], 0, true, eF⟩ : AObj)])[x]? = some (some ⟨.agg [v], gx, true, ex⟩) := by rw [List.getElem?_append_left hxlt]; exact hx
  have hlx1 : upd ν T.length l0 x = some lx := by rw [same x (by omega)]; exact hlx
  have hor : ObjRel (upd ν T.length l0) ⟨.frows T.length 0 [] [v], gx, true, ex⟩ lx w := by
    obtain ⟨_, h2, h3⟩ := hr1.obj x _ lx hx1 hlx1
    refine ⟨.frows _ _ _ _, ?_⟩
    rcases h3 with ⟨h3, h4⟩ | ⟨h3, _⟩ | ⟨h3, _⟩
    · obtain ⟨cur, c1, c2, c3⟩ := h4.row
      exact .inl ⟨rfl, ⟨⟨cur, c1, c2, c3⟩, h4.spot, h4.room⟩⟩
    · cases h3
    · simp [AVal.len] at h3
  obtain ⟨k1, k2⟩ := hr1.retell hx1 hlx1 (o' := ⟨.frows T.length 0 [] [v], gx, true, ex⟩) rfl id hor (FamOk.no rfl)
  exact ⟨_, k1, hm, fun b hb => hown b (k2 b hb)⟩
/-- the outcome, with only some objects, moved together -/
theorem To.gc {E : Env} {n k : Nat} {c : Code} {fm : Fm} {T : Tab} {ex : AExit} {fm1 : Fm} {T1 : Tab} (h : To E n k c fm T ex fm1 T1) (keep slots : List Nat) {f : Fm} (hb : okG k keep T1 = true) (hp : pickG keep fm1 slots = some f) {T2 : Tab} (e : gcT keep T1 = T2) : To E n k c fm T ex f T2 := by
  subst e
  intro rr D ν a w hs hrd
  refine wpIn_mono (h rr D ν a w hs hrd) fun e a' w' ⟨ex', fm', T', ν', e1, ⟨e2, e3, e4⟩, ⟨ms, s', mk⟩, n', f'⟩ => ?_
  subst e2 e3 e4
  exact ⟨_, f, Abs.gcT keep T', nuG keep ν', e1, ⟨rfl, rfl, rfl⟩, ⟨ms, s'.gc hb hp, mk⟩, n'.gc hb, f'.sub fun b hb => hb.gc⟩
end Go.Abs

set_option linter.unusedVariables false
set_option linter.unusedSimpArgs false
namespace Go.Abs
open Go.RowKit Go.WideShapes Go.ChangeShapes Go.ChangeAt
/-! ## Rows of laws: a slice of slices of bytes -/
section
variable {H : Type} {enc : TypeId × Value → H} {P : Program}
def lenD : DataW H → Nat | .slice es _ => es.length | _ => 0
/-- what stands in a cell, as bytes -/
def bytesAt (W : World) (v : Value) : List Int := match v with
  | .slice (some a) n _ => (List.range n).map (cellI W a)
  | _ => []
theorem row_cell {e b : TypeId} (he : P.underlying e = some (.slice b)) (hb : P.underlying b = some (.int .u8)) (cb : P.cellsOf b = 1) {W : World} {n : Nat} {cs : List Value} {y : DataW H × List MemPlace} (h : DataW.trod enc P W 0 (fun _ => true) true n e cs = some y) :
    ∃ v, cs = [v] ∧ RowOk (fun _ => False) W v (bytesAt W v) ∧ lenD y.1 = (bytesAt W v).length ∧ ∀ c ∈ bytesAt W v, 0 ≤ c ∧ c < 256 := by
  rcases open_ints he hb cb h with ⟨hcs, hx⟩ | ⟨a, len', cap', zs, hcs, _, hl, hm, hz, hx, hcell, hwz⟩
  · subst hx
    exact ⟨_, hcs, ⟨none, 0, rfl, Nat.le_refl _, fun h => by omega⟩, rfl, fun c hc => by cases hc⟩
  · subst hx
    simp only [if_true] at hz
    have hbl : bytesAt W (.slice (some a) len' cap') = zs.take len' := by
      unfold bytesAt
      apply List.ext_getElem
      · simp; omega
      · intro i h1 h2
        simp at h1 h2
        have := hcell i (by omega)
        simp only [List.getElem_map, List.getElem_range, List.getElem_take]
        unfold cellI
        rw [this]
        simp [List.getD, List.getElem?_eq_getElem (show i < zs.length by omega)]
    refine ⟨_, hcs, ?_, ?_, ?_⟩
    · rw [hbl]
      have hlt : (zs.take len').length = len' := by simp; omega
      refine ⟨some a, cap', by rw [hlt], by rw [hlt]; exact hl, fun hc => ⟨a, rfl, id, ?_, fun k hk => ?_⟩⟩
      · have h1 := hcell 0 (by omega)
        unfold World.cell? at h1
        rcases Nat.lt_or_ge a.block W.heap.size with h | h
        · exact h
        · have hb : (a.add 0).block = a.block := block_add a 0
          rw [hb, Array.getElem?_eq_none h] at h1
          cases h1
      · rw [hlt] at hk
        rw [hcell k (by omega)]
        simp [List.getD, List.getElem?_take_of_lt hk]
    · rw [hbl]
      show (lits (H := H) .u8 (zs.take len')).length = _
      simp [lits]
    · rw [hbl]
      intro c hc
      have := hwz c (List.mem_of_mem_take hc)
      simp [Lit.wf, IntKind.min, IntKind.max, IntKind.signed, IntKind.bits] at this
      omega
/-- a slice of slices of bytes that came in -/
theorem arg_fam {t e b : TypeId} (ht : P.underlying t = some (.slice e)) (he : P.underlying e = some (.slice b)) (hb : P.underlying b = some (.int .u8)) (ce : P.cellsOf e = 1) (cb : P.cellsOf b = 1) (hby : P.bytesOf e = 24)
    {W : World} {base : Nat} {v : Value} {d : DataW H} {ps : List MemPlace} (hval : Value.okWide P W .any base t v) (hT : DataW.Trod enc P W 0 (fun _ => true) true t v d ps) (hsz : ∀ elems spare, d = .slice elems spare → (elems.length + spare.length) * P.bytesOf e ≤ reachBytes) :
    ∃ (Z : List (List Int)) (k : Nat) (l lF : Loc), Z.length * 24 ≤ 140737488351232 ∧ (∀ z ∈ Z, ∀ c ∈ z, 0 ≤ c ∧ c < 256) ∧ l.g = 0 ∧ lF.g = 0 ∧ lF.room = 0 ∧ Z.length ≤ l.room ∧ (0 < l.room → l.a.block < W.heap.size) ∧ lF.rw.length = Z.length ∧
      (∀ i, i < Z.length → RowOk (fun _ => False) W (lF.rw.getD i undef) (Z.getD i [])) ∧ (∀ i, i < Z.length → W.cell? (l.a.add i) = some (lF.rw.getD i undef)) ∧ (∀ (ν : Nu) (p : Nat), ν p = some l → VR ν (.slice 1 p 0 0 Z.length (some k)) v) ∧
      ((d = .nil ∧ Z = []) ∨ ∃ elems spare, d = .slice elems spare ∧ elems.map lenD = Z.map List.length) := by
  obtain ⟨a1, len, cap, rfl⟩ := okWide_slice ht hval
  obtain ⟨fuel, hf⟩ := hT
  rcases DataW.trod_slice ht hf with ⟨hcs, hx⟩ | ⟨a, len', cap', elems, rest, n, _, hcs, hx, _, hl, hm, hlen, hel, hsp, _⟩
  · simp [Value.cells] at hcs
    obtain ⟨rfl, rfl, rfl⟩ := hcs
    simp only [Prod.mk.injEq] at hx
    exact ⟨[], 0, ⟨⟨0, 0, none⟩, 0, 0⟩, ⟨⟨0, 0, none⟩, 0, 0⟩, by simp, fun z hz => (by cases hz), rfl, rfl, rfl, Nat.le_refl _, fun h => absurd h (by simp), rfl, fun i hi => absurd hi (by simp), fun i hi => absurd hi (by simp), fun ν p hp => .sliceZ none hp rfl (.inl rfl), .inl ⟨hx.1, rfl⟩⟩
  · simp [Value.cells] at hcs
    obtain ⟨rfl, rfl, rfl⟩ := hcs
    simp only [Prod.mk.injEq] at hx
    obtain ⟨rfl, rfl⟩ := hx
    have hs := hsz _ _ rfl
    obtain ⟨hr, hre⟩ := hsp rfl
    rw [hby, List.length_map, List.length_map, hlen, hr] at hs
    have hs2 : cap * 24 ≤ 140737488351232 := by
      have : len + (cap - len) = cap := by omega
      rw [this] at hs
      unfold reachBytes at hs
      omega
    have hany : ∀ i, i < cap → ∃ v y, W.cell? (a.add i) = some v ∧ RowOk (fun _ => False) W v (bytesAt W v) ∧ (elems[i]? = some y ∨ len ≤ i) ∧ lenD y.1 = (bytesAt W v).length ∧ ∀ c ∈ bytesAt W v, 0 ≤ c ∧ c < 256 := by
      intro i hi
      have key : ∃ y, (W.cells? 0 (a.add (i * P.cellsOf e)) (P.cellsOf e)).bind (DataW.trod enc P W 0 (fun _ => true) true n e) = some y ∧ (elems[i]? = some y ∨ len ≤ i) := by
        by_cases h : i < len
        · rw [hel i h]
          exact ⟨_, List.getElem?_eq_getElem (by omega), .inl (List.getElem?_eq_getElem (by omega))⟩
        · have := hre (i - len) (by omega)
          rw [show len + (i - len) = i by omega] at this
          rw [this]
          exact ⟨_, List.getElem?_eq_getElem (by omega), .inr (by omega)⟩
      obtain ⟨y, hy, hy2⟩ := key
      rw [ce, Nat.mul_one, Option.bind_eq_some_iff] at hy
      obtain ⟨cs, hcs, hy⟩ := hy
      obtain ⟨v, rfl, h1, h2, h3⟩ := row_cell he hb cb hy
      exact ⟨v, y, cell_of_cells?_one hcs, h1, hy2, h2, h3⟩
    let vAt' : Nat → Value := fun i => (W.cell? (a.add i)).getD undef
    have hcellv : ∀ i, i < cap → W.cell? (a.add i) = some (vAt' i) := fun i hi => by
      obtain ⟨v, y, h1, _⟩ := hany i hi
      simp only [vAt']
      rw [h1]; rfl
    have hZl : ((List.range len).map fun i => bytesAt W (vAt' i)).length = len := by simp
    have hZget : ∀ i, i < len → ((List.range len).map fun i => bytesAt W (vAt' i)).getD i [] = bytesAt W (vAt' i) := fun i hi => by simp [List.getD, hi]
    have hRget : ∀ i, i < len → ((List.range len).map vAt').getD i undef = vAt' i := fun i hi => by simp [List.getD, hi]
    refine ⟨(List.range len).map fun i => bytesAt W (vAt' i), cap, ⟨a, 0, cap⟩, @Loc.mk ⟨0, 0, none⟩ 0 0 ⟨(List.range len).map vAt'⟩, by rw [hZl]; omega, ?_, rfl, rfl, rfl, by rw [hZl]; exact hl, fun h0 => ?_, (show ((List.range len).map vAt').length = _ by rw [hZl, List.length_map, List.length_range]), ?_, ?_, fun ν p hp => ?_, .inr ⟨_, _, rfl, ?_⟩⟩
    · intro z hz c hc
      rw [List.mem_map] at hz
      obtain ⟨i, hi, rfl⟩ := hz
      have hi : i < len := by simpa using hi
      obtain ⟨v, y, h1, _, _, _, h5⟩ := hany i (by omega)
      have : v = vAt' i := by rw [hcellv i (by omega)] at h1; injection h1 with h1; exact h1.symm
      subst this
      exact h5 c hc
    · have h1 := hcellv 0 h0
      unfold World.cell? at h1
      rcases Nat.lt_or_ge a.block W.heap.size with h | h
      · exact h
      · have hb : (a.add 0).block = a.block := block_add a 0
        rw [hb, Array.getElem?_eq_none h] at h1
        cases h1
    · intro i hi
      rw [hZl] at hi
      show RowOk _ W (((List.range len).map vAt').getD i undef) _
      rw [hRget i hi, hZget i hi]
      obtain ⟨v, y, h1, h2, _⟩ := hany i (by omega)
      have : v = vAt' i := by rw [hcellv i (by omega)] at h1; injection h1 with h1; exact h1.symm
      subst this
      exact h2
    · intro i hi
      rw [hZl] at hi
      show W.cell? (a.add i) = some (((List.range len).map vAt').getD i undef)
      rw [hRget i hi]
      exact hcellv i (by omega)
    · rw [hZl]
      refine .slice hp rfl ⟨hl, fun k hk => by injection hk, ?_, by simp, fun h => (by cases h)⟩
      simp [Addr.add]
    · apply List.ext_getElem
      · simp [hlen]
      · intro i h1 h2
        have hi : i < len := by simpa [hlen] using h1
        obtain ⟨v, y, e1, _, e3, e4, _⟩ := hany i (by omega)
        have : v = vAt' i := by rw [hcellv i (by omega)] at e1; injection e1 with e1; exact e1.symm
        subst this
        rcases e3 with e3 | e3
        · have e5 : elems[i] = y := by rw [List.getElem?_eq_getElem (by omega)] at e3; injection e3
          simp [e5, e4]
        · omega
/-- a slice of bytes that came in, and how its reading goes on -/
theorem arg_bytesD {t e : TypeId} (ht : P.underlying t = some (.slice e)) (he : P.underlying e = some (.int .u8)) (hc : P.cellsOf e = 1) (hby : P.bytesOf e = 1) {W : World} {base : Nat} {v : Value} {d : DataW H} {ps : List MemPlace}
    (hval : Value.okWide P W .any base t v) (hT : DataW.Trod enc P W 0 (fun _ => true) true t v d ps) (hsz : ∀ elems spare, d = .slice elems spare → (elems.length + spare.length) * P.bytesOf e ≤ reachBytes) :
    ∃ (zs : List Int) (n : Nat) (l : Loc), n ≤ zs.length ∧ (∀ z ∈ zs, 0 ≤ z ∧ z < 256) ∧ zs.length ≤ 140737488351232 ∧ l.g = 0 ∧ l.room = zs.length ∧ (0 < l.room → l.a.block < W.heap.size) ∧
      (∀ i, i < zs.length → W.cell? (l.a.add i) = some (.int .u8 (zs.getD i 0))) ∧ (∀ (ν : Nu) (p : Nat), ν p = some l → VR ν (.slice 1 p 0 0 n (some zs.length)) v) ∧ ((d = .nil ∧ zs = []) ∨ ∃ es sp, d = .slice es sp ∧ es.length + sp.length = zs.length) := by
  obtain ⟨a1, len, cap, rfl⟩ := okWide_slice ht hval
  obtain ⟨fuel, hf⟩ := hT
  rcases open_ints ht he hc hf with ⟨hcs, hx⟩ | ⟨a, len', cap', zs, hcs, _, hl, hm, hz, hx, hcell, hwz⟩
  · simp [Value.cells] at hcs
    obtain ⟨rfl, rfl, rfl⟩ := hcs
    simp only [Prod.mk.injEq] at hx
    exact ⟨[], 0, ⟨⟨0, 0, none⟩, 0, 0⟩, Nat.le_refl _, fun z hz => (by cases hz), by simp, rfl, rfl, fun h => (by cases h), fun i hi => (by simp at hi), fun ν p hp => .sliceZ none hp rfl (.inl rfl), .inl ⟨hx.1, rfl⟩⟩
  · simp [Value.cells] at hcs
    obtain ⟨rfl, rfl, rfl⟩ := hcs
    simp only [Prod.mk.injEq] at hx
    obtain ⟨rfl, rfl⟩ := hx
    simp only [if_true] at hz
    have hs := hsz _ _ rfl
    rw [hby] at hs
    have hlen : (lits (H := H) .u8 (zs.take len)).length + (lits (H := H) .u8 (zs.drop len)).length = zs.length := by simp [lits]; omega
    rw [hlen] at hs
    refine ⟨zs, len, ⟨a, 0, zs.length⟩, by omega, fun z hz => ?_, by unfold reachBytes at hs; omega, rfl, rfl, fun h0 => ?_, hcell, fun ν p hp => ?_, .inr ⟨_, _, rfl, hlen⟩⟩
    · have := hwz z hz
      simp [Lit.wf, IntKind.min, IntKind.max, IntKind.signed, IntKind.bits] at this
      omega
    · have h1 := hcell 0 h0
      unfold World.cell? at h1
      rcases Nat.lt_or_ge a.block W.heap.size with h | h
      · exact h
      · have hb : (a.add 0).block = a.block := block_add a 0
        rw [hb, Array.getElem?_eq_none h] at h1
        cases h1
    · refine .slice hp rfl ⟨hl, fun k hk => by injection hk with hk; omega, ?_, by simp; omega, fun h => (by cases h)⟩
      simp [Addr.add]

theorem fam_obj {W : World} {z : List Int} {Z : List (List Int)} {l lF : Loc} {ls : List Loc} {q : Nat} (hq : ls[q]? = some lF) (hg : lF.g = 0) (hlen : lF.rw.length = (z :: Z).length) (hrow : ∀ i, i < (z :: Z).length → RowOk (fun _ => False) W (lF.rw.getD i undef) ((z :: Z).getD i []))
    (hcell : ∀ i, i < (z :: Z).length → W.cell? (l.a.add i) = some (lF.rw.getD i undef)) : ∀ i, i < (AVal.frows q 0 (z :: Z) []).len → ∃ x, W.cell? (l.a.add i) = some x ∧ VR (nuL ls) ((AVal.frows q 0 (z :: Z) []).get i) x := by
  intro i hi
  have hi : i < (z :: Z).length := hi
  refine ⟨_, hcell i hi, ?_⟩
  obtain ⟨bo, c, h1, _⟩ := hrow i hi
  have h2 : lF.rw[i]? = some (lF.rw.getD i undef) := by simp [List.getD, List.getElem?_eq_getElem (show i < lF.rw.length by omega)]
  rw [h1] at h2 ⊢
  exact .frow bo c hq hg.symm h2
theorem fam_ok {W : World} {Z : List (List Int)} {lF : Loc} {g : Nat} {ow : Bool} {et : TypeId} (hlen : lF.rw.length = Z.length) (hrow : ∀ i, i < Z.length → RowOk (fun _ => False) W (lF.rw.getD i undef) (Z.getD i [])) : FamOk (fun _ => False) W ⟨.fam Z, g, ow, et⟩ lF := by
  intro Y hY
  injection hY with hY
  subst hY
  exact ⟨hlen, hrow⟩
end
end Go.Abs

set_option linter.unusedVariables false
set_option linter.unusedSimpArgs false
namespace Go.Abs
/-! ## Families that a function makes: its rows lie in new blocks -/
def FreshF (B : Nat) (ν : Nu) (T : Tab) : Prop := ∀ (p : Nat) (o : AObj) (l : Loc) (Z : List (List Int)), T[p]? = some (some o) → ν p = some l → o.data = .fam Z → ∀ (i : Nat) (b : Addr) (n c : Nat), l.rw[i]? = some (.slice (some b) n c) → 0 < c → B ≤ b.block
structure RF (B : Nat) (ν : Nu) (T : Tab) (w : World) : Prop where
  size : B ≤ w.heap.size
  own : ∀ b, Own ν T b → B ≤ b
  fresh : FreshF B ν T
  here : ∀ (p : Nat) (o : AObj) (z : List Int) (Z : List (List Int)), T[p]? = some (some o) → o.data = .fam (z :: Z) → (ν p).isSome
def PostF (B : Nat) (E : Env) (n k : Nat) (post : AExit → Fm → Tab → Prop) (D : List Deferred) (ν : Nu) (T : Tab) (w : World) (e : Exit) (a' : Act) (w' : World) : Prop :=
  ∃ ex fm' T' ν', e = AExit.to ex ∧ post ex fm' T' ∧ SRelM E D w ν' fm' T' n a' w' ∧ NuLeB k ν ν' ∧ Fr (Own ν T) w (Own ν' T') w' ∧ RF B ν' T' w'
def AWpF (E : Env) (n k : Nat) (c : Code) (fm : Fm) (T : Tab) (post : AExit → Fm → Tab → Prop) : Prop :=
  ∀ (B : Nat) (rr : Option Nat) D ν a w, SRel E D ν fm T n a w → RdOk rr w → RF B ν T w → c.wpIn (Fc rr) 0 E.P (PostF B E n k post D ν T w) a w
def ToF (E : Env) (n k : Nat) (c : Code) (fm : Fm) (T : Tab) (ex : AExit) (fm' : Fm) (T' : Tab) : Prop := AWpF E n k c fm T fun e f t => e = ex ∧ f = fm' ∧ t = T'
section
variable {E : Env} {n k : Nat} {fm : Fm} {T : Tab} {post : AExit → Fm → Tab → Prop}
theorem AWpF.mono {c : Code} {post' : AExit → Fm → Tab → Prop} (h : AWpF E n k c fm T post) (hp : ∀ ex fm T, post ex fm T → post' ex fm T) : AWpF E n k c fm T post' :=
  fun B rr D ν a w hs hrd hR => wpIn_mono (h B rr D ν a w hs hrd hR) fun e a' w' ⟨ex, fm', T', ν', h1, h2, h3⟩ => ⟨ex, fm', T', ν', h1, hp _ _ _ h2, h3⟩
theorem PostF.trans {B : Nat} {D ms : List Deferred} {ν ν1 : Nu} {w w1 : World} {T1 : Tab} {fm1 : Fm} {a1 : Act} {e : Exit} {a' : Act} {w' : World} (h : PostF B E n k post (ms ++ D) ν1 T1 w1 e a' w') (s1 : SRel E (ms ++ D) ν1 fm1 T1 n a1 w1) (m1 : MarksOk ms w w1) (hm : NuLeB k ν ν1) (hf : Fr (Own ν T) w (Own ν1 T1) w1) : PostF B E n k post D ν T w e a' w' := by
  obtain ⟨ex, fm', T', ν', h1, h2, ⟨ms2, h3, m2⟩, h4, h5, h6⟩ := h
  exact ⟨ex, fm', T', ν', h1, h2, ⟨ms2 ++ ms, by rw [List.append_assoc]; exact h3, m1.trans m2 hf.size s1.hr h5⟩, hm.trans h4, hf.trans h5, h6⟩
theorem AWpF.ret (h : post .ret fm T) : AWpF E n k .ret fm T post := fun B rr D ν a w hs hrd hR => wpIn_ret ⟨.ret, fm, T, ν, rfl, h, hs.m, NuLeB.refl _ _, Fr.refl _ _, hR⟩
theorem AWpF.seq {x y : Code} (h : AWpF E n k x fm T fun ex fm' T' => match ex with | .normal => AWpF E n k y fm' T' post | ex => post ex fm' T') : AWpF E n k (.seq x y) fm T post := by
  intro B rr D ν a w hs hrd hR
  refine wpIn_seq (wpIn_mono (h B rr D ν a w hs hrd hR) fun e a' w' ⟨ex, fm', T', ν', h1, h2, h3, h4, h5, h6⟩ => ?_)
  subst h1
  cases ex with
  | normal =>
    obtain ⟨ms, h3, hm⟩ := h3
    exact wpIn_mono (h2 B rr _ ν' a' w' h3 (hrd.fr hs.hr h5) h6) fun e a2 w2 hp => hp.trans h3 hm h4 h5
  | exit id => exact ⟨.exit id, fm', T', ν', rfl, h2, h3, h4, h5, h6⟩
  | goto l => exact ⟨.goto l, fm', T', ν', rfl, h2, h3, h4, h5, h6⟩
  | ret => exact ⟨.ret, fm', T', ν', rfl, h2, h3, h4, h5, h6⟩
theorem AWpF.block {id : Nat} {c : Code} (h : AWpF E n k c fm T fun ex fm' T' => match ex with | .exit id' => if id' = id then post .normal fm' T' else post (.exit id') fm' T' | ex => post ex fm' T') : AWpF E n k (.block id c) fm T post := by
  intro B rr D ν a w hs hrd hR
  refine wpIn_block (wpIn_mono (h B rr D ν a w hs hrd hR) fun e a' w' ⟨ex, fm', T', ν', h1, h2, h3, h4, h5, h6⟩ => ?_)
  subst h1
  cases ex with
  | normal => exact ⟨.normal, fm', T', ν', rfl, h2, h3, h4, h5, h6⟩
  | exit id' =>
    simp only [AExit.to, Exit.inBlock]
    simp only at h2
    split
    · rename_i e
      rw [if_pos e] at h2
      exact ⟨.normal, fm', T', ν', rfl, h2, h3, h4, h5, h6⟩
    · rename_i e
      rw [if_neg e] at h2
      exact ⟨.exit id', fm', T', ν', rfl, h2, h3, h4, h5, h6⟩
  | goto l => exact ⟨.goto l, fm', T', ν', rfl, h2, h3, h4, h5, h6⟩
  | ret => exact ⟨.ret, fm', T', ν', rfl, h2, h3, h4, h5, h6⟩
theorem AWpF.loop {c : Code} (I : Fm → Tab → Nat → Prop) (m0 : Nat) (h0 : I fm T m0)
    (round : ∀ fm T m, I fm T m → AWpF E n k c fm T fun ex fm' T' => match ex with | .normal => ∃ m', m' < m ∧ I fm' T' m' | ex => post ex fm' T') : AWpF E n k (.loop c) fm T post := by
  intro B rr D ν a w hs hrd hR b kk cs hro hbb hrm
  have key : ∀ (m : Nat) (fm1 : Fm) (T1 : Tab) (ν1 : Nu) (a1 : Act) (w1 : World) (ms : List Deferred), I fm1 T1 m → SRel E (ms ++ D) ν1 fm1 T1 n a1 w1 → MarksOk ms w w1 → NuLeB k ν ν1 → Fr (Own ν T) w (Own ν1 T1) w1 → RF B ν1 T1 w1 →
      ∃ e a' w', PostF B E n k post D ν T w e a' w' ∧ ArrivesIn (Machine.fenced E.P (Fc rr)) E.P (lone (b.atR a1 (.code c :: .inLoop c :: kk)) cs w1) b kk cs e a' w' := by
    intro m
    induction m using Nat.strongRecOn with
    | _ m ih =>
      intro fm1 T1 ν1 a1 w1 ms hI hs1 mk hm hf hR1
      obtain ⟨e, a2, w2, hP, harr⟩ := round fm1 T1 m hI B rr _ ν1 a1 w1 hs1 (hrd.fr hs.hr hf) hR1 b (.inLoop c :: kk) cs hro hbb hrm
      obtain ⟨ex, fm2, T2, ν2, h1, h2, ⟨ms2, h3, mk2⟩, h4, h5, h6⟩ := hP.trans hs1 mk hm hf
      subst h1
      cases ex with
      | normal =>
        obtain ⟨m', hlt, hI'⟩ := h2
        obtain ⟨e3, a3, w3, hp3, harr3⟩ := ih m' hlt fm2 T2 ν2 a2 w2 ms2 hI' h3 mk2 h4 h5 h6
        exact ⟨e3, a3, w3, hp3, .of_steps (StepsIn.trans harr (.one (fenced_calm hbb hrm rfl) stepR_inLoop)) harr3⟩
      | exit id => exact ⟨_, a2, w2, ⟨.exit id, fm2, T2, ν2, rfl, h2, ⟨ms2, h3, mk2⟩, h4, h5, h6⟩, .pass (x := .inLoop c) rfl (fun _ _ => .inl (by simp [AExit.to])) harr⟩
      | goto l => exact ⟨_, a2, w2, ⟨.goto l, fm2, T2, ν2, rfl, h2, ⟨ms2, h3, mk2⟩, h4, h5, h6⟩, .pass (x := .inLoop c) rfl (fun _ _ => .inl (by simp [AExit.to])) harr⟩
      | ret => exact ⟨_, a2, w2, ⟨.ret, fm2, T2, ν2, rfl, h2, ⟨ms2, h3, mk2⟩, h4, h5, h6⟩, .pass (x := .inLoop c) rfl (fun _ _ => .inl (by simp [AExit.to])) harr⟩
  obtain ⟨e, a', w', hp, harr⟩ := key m0 fm T ν a w [] h0 hs (MarksOk.nil _ _) (NuLeB.refl _ _) (Fr.refl _ _) hR
  exact ⟨e, a', w', hp, .of_steps (.one (fenced_calm hbb hrm rfl) stepR_loop) harr⟩
theorem AWpF.base {kb : Nat} {c : Code} (hk : k ≤ kb) (h : AWpF E n kb c fm T post) : AWpF E n k c fm T post :=
  fun B rr D ν a w hs hrd hR => wpIn_mono (h B rr D ν a w hs hrd hR) fun e a' w' ⟨ex, fm', T', ν', h1, h2, h3, h4, h5⟩ => ⟨ex, fm', T', ν', h1, h2, h3, fun p hp => h4 p (Nat.lt_of_lt_of_le hp hk), h5⟩
theorem ToF.rounds {id : Nat} {c : Code} (F : Nat → Fm) (T : Nat → Tab) (N : Nat) {fm' : Fm} {T' : Tab}
    (round : ∀ i, i < N → ToF E n k c (F i) (T i) .normal (F (i + 1)) (T (i + 1))) (last : ToF E n k c (F N) (T N) (.exit id) fm' T') : ToF E n k (.block id (.loop c)) (F 0) (T 0) .normal fm' T' := by
  refine AWpF.block ?_
  refine AWpF.loop (fun fm T' m => ∃ i, i ≤ N ∧ m = N - i ∧ fm = F i ∧ T' = T i) N ⟨0, Nat.zero_le _, rfl, rfl, rfl⟩ ?_
  rintro fm T1 m ⟨i, hi, rfl, rfl, rfl⟩
  rcases Nat.lt_or_ge i N with hlt | hge
  · refine (round i hlt).mono fun ex fm1 T1 ⟨e1, e2, e3⟩ => ?_
    subst e1 e2 e3
    exact ⟨N - (i + 1), by omega, i + 1, hlt, rfl, rfl, rfl⟩
  · have : i = N := by omega
    subst this
    refine last.mono fun ex fm1 T1 ⟨e1, e2, e3⟩ => ?_
    subst e1 e2 e3
    simp
end
/-- families stay in their places -/
def famK : Nat → Tab → Tab → Prop
  | _, _, [] => True
  | k, x :: T, y :: T' => (∀ o', y = some o' → o'.data.noFam = true ∨ (0 < k ∧ ∃ o z Z, x = some o ∧ o.data = .fam (z :: Z) ∧ o.g = o'.g)) ∧ famK (k - 1) T T'
  | k, [], y :: T' => (∀ o', y = some o' → o'.data.noFam = true) ∧ famK k [] T'
theorem famK_get : ∀ {k : Nat} {T T' : Tab}, famK k T T' → ∀ (p : Nat) (o' : AObj), T'[p]? = some (some o') → o'.data.noFam = true ∨ (p < k ∧ ∃ o z Z, T[p]? = some (some o) ∧ o.data = .fam (z :: Z) ∧ o.g = o'.g)
  | _, _, [], _, p, o', h => by simp at h
  | k, x :: T, y :: T', hf, 0, o', h => by
    simp at h; subst h
    rcases hf.1 o' rfl with h1 | ⟨h1, o, z, Z, rfl, h2, h3⟩
    · exact .inl h1
    · exact .inr ⟨h1, o, z, Z, by simp, h2, h3⟩
  | k, x :: T, y :: T', hf, p + 1, o', h => by
    rcases famK_get hf.2 p o' (by simpa using h) with h1 | ⟨h1, o, z, Z, h2, h3⟩
    · exact .inl h1
    · exact .inr ⟨by omega, o, z, Z, by simpa using h2, h3⟩
  | k, [], y :: T', hf, 0, o', h => by simp at h; subst h; exact .inl (hf.1 o' rfl)
  | k, [], y :: T', hf, p + 1, o', h => by
    rcases famK_get hf.2 p o' (by simpa using h) with h1 | ⟨h1, o, z, Z, h2, h3⟩
    · exact .inl h1
    · simp at h2
theorem RF.step {gl : Nat → Option AVal} {B k : Nat} {ν ν' : Nu} {T T' : Tab} {w w' : World} (h : RF B ν T w) (hr : HR gl ν T w) (hr' : HR gl ν' T' w') (hm : NuLeB k ν ν') (hf : Fr (Own ν T) w (Own ν' T') w') (hk : famK k T T') : RF B ν' T' w' := by
  refine ⟨Nat.le_trans h.size hf.size, fun b hb => ?_, fun p o' l' Z hT hl hZ i b n c hi hc => ?_, fun p o' z Z hT hZ => ?_⟩
  · rcases hf.own b hb with h1 | h1
    · exact h.own b h1
    · exact Nat.le_trans h.size h1
  · rcases famK_get hk p o' hT with h1 | ⟨h1, o, z0, Z0, h2, hZ0, h4⟩
    · rw [hZ] at h1; cases h1
    · obtain ⟨l, hν⟩ := Option.isSome_iff_exists.1 (h.here p o z0 Z0 h2 hZ0)
      obtain ⟨l1, g1, g2⟩ := hm p h1 l hν
      rw [hl] at g1; injection g1 with g1; subst g1
      have e1 := (hr.obj p o l h2 hν).1
      have e2 := (hr'.obj p o' l' hT hl).1
      rcases g2 with g2 | ⟨_, _, _, g2⟩
      · omega
      · rw [← g2] at hi
        exact h.fresh p o l (z0 :: Z0) h2 hν hZ0 i b n c hi hc
  · rcases famK_get hk p o' hT with h1 | ⟨h1, o, z0, Z0, h2, hZ0, h4⟩
    · rw [hZ] at h1; cases h1
    · obtain ⟨l, hν⟩ := Option.isSome_iff_exists.1 (h.here p o z0 Z0 h2 hZ0)
      obtain ⟨l1, g1, g2⟩ := hm p h1 l hν
      rw [g1]; rfl
theorem ToF.of {E : Env} {n k : Nat} {c : Code} {fm : Fm} {T : Tab} {ex : AExit} {fm' : Fm} {T' : Tab} (h : To E n k c fm T ex fm' T') (hk : famK k T T') : ToF E n k c fm T ex fm' T' := by
  intro B rr D ν a w hs hrd hR
  refine wpIn_mono (h rr D ν a w hs hrd) fun e a' w' ⟨ex', f1, T1, ν1, g1, ⟨e1, e2, e3⟩, ⟨ms, s', mk⟩, g4, g5⟩ => ?_
  subst e1 e2 e3
  exact ⟨_, _, T1, ν1, g1, ⟨rfl, rfl, rfl⟩, ⟨ms, s', mk⟩, g4, g5, hR.step hs.hr s'.hr g4 g5 hk⟩
theorem ToF.base {E : Env} {n k kb : Nat} {c : Code} {fm : Fm} {T : Tab} {ex : AExit} {fm' : Fm} {T' : Tab} (hk : k ≤ kb) (h : ToF E n kb c fm T ex fm' T') : ToF E n k c fm T ex fm' T' := AWpF.base hk h
/-! the table, told otherwise -/
def ConvF (gl : Nat → Option AVal) (ids : List Nat) (T T' : Tab) : Prop := ∀ (B : Nat) (ν : Nu) (w : World), HR gl ν T w → (∀ p ∈ ids, (ν p).isSome) → RF B ν T w → ∃ ν', HR gl ν' T' w ∧ NuLe ν ν' ∧ (∀ b, Own ν' T' b → Own ν T b) ∧ RF B ν' T' w
theorem ConvF.trans {gl : Nat → Option AVal} {ids : List Nat} {T T1 T2 : Tab} (h : ConvF gl ids T T1) (k : ConvF gl ids T1 T2) : ConvF gl ids T T2 := by
  intro B ν w hr hi hR
  obtain ⟨ν1, h1, h2, h3, h4⟩ := h B ν w hr hi hR
  obtain ⟨ν2, k1, k2, k3, k4⟩ := k B ν1 w h1 (fun p hp => h2.isSome (hi p hp)) h4
  exact ⟨ν2, k1, h2.trans k2, fun b hb => h3 b (k3 b hb), k4⟩
theorem ToF.conv {E : Env} {n k : Nat} {c : Code} {fm : Fm} {T : Tab} {ex : AExit} {fm1 : Fm} {ids : List Nat} {T1 T2 : Tab} (h : ToF E n k c fm T ex fm1 T1) (hc : ConvF E.gl ids T1 T2) (hi : ∀ p ∈ ids, ∃ t v, look fm1 t = some v ∧ hasId p v = true) : ToF E n k c fm T ex fm1 T2 := by
  intro B rr D ν a w hs hrd hR
  refine wpIn_mono (h B rr D ν a w hs hrd hR) fun e a' w' ⟨ex', f1, T', ν1, g1, ⟨e1, e2, e3⟩, ⟨ms, s', mk⟩, g4, g5, g6⟩ => ?_
  subst e1 e2 e3
  obtain ⟨ν2, h1, h2, h3, h4⟩ := hc B ν1 w' s'.hr (fun p hp => by obtain ⟨t, v, e1, e2⟩ := hi p hp; exact (s'.fm t v e1).hasId e2) g6
  exact ⟨_, _, T2, ν2, g1, ⟨rfl, rfl, rfl⟩, ⟨ms, ⟨h1, fun t v hv => (s'.fm t v hv).mono h2, s'.size, s'.defers⟩, mk⟩, g4.trans (h2.b k), g5.sub h3, h4⟩
theorem RF.gc {B k : Nat} {ν : Nu} {T : Tab} {w : World} {keep : List Nat} (h : RF B ν T w) (hb : okG k keep T = true) : RF B (nuG keep ν) (gcT keep T) w := by
  have unfam : ∀ {o : AObj} {Z : List (List Int)}, (renO (sigG keep) o).data = .fam Z → o.data = .fam Z := by
    intro o Z hZ
    simp only [renO] at hZ
    cases hd : o.data <;> rw [hd] at hZ <;> simp only [Abs.ren] at hZ <;> cases hZ
    rfl
  refine ⟨h.size, fun b hb => h.own b hb.gc, fun j o' l Z hT hl hZ i b n c hi hc => ?_, fun j o' z Z hT hZ => ?_⟩
  · obtain ⟨p, o, e1, e2, rfl⟩ := gcT_some hT
    obtain ⟨p', e3, e4⟩ := nuG_some hl
    rw [e1] at e3; injection e3 with e3; subst e3
    exact h.fresh p o l Z e2 e4 (unfam hZ) i b n c hi hc
  · obtain ⟨p, o, e1, e2, rfl⟩ := gcT_some hT
    have := h.here p o z Z e2 (unfam hZ)
    unfold nuG; rw [e1]; exact this
theorem ToF.gc {E : Env} {n k : Nat} {c : Code} {fm : Fm} {T : Tab} {ex : AExit} {fm1 : Fm} {T1 : Tab} (h : ToF E n k c fm T ex fm1 T1) (keep slots : List Nat) {f : Fm} (hb : okG k keep T1 = true) (hp : pickG keep fm1 slots = some f) {T2 : Tab} (e : gcT keep T1 = T2) : ToF E n k c fm T ex f T2 := by
  subst e
  intro B rr D ν a w hs hrd hR
  refine wpIn_mono (h B rr D ν a w hs hrd hR) fun e a' w' ⟨ex', fm', T', ν', e1, ⟨e2, e3, e4⟩, ⟨ms, s', mk⟩, n', f', r'⟩ => ?_
  subst e2 e3 e4
  exact ⟨_, f, Abs.gcT keep T', nuG keep ν', e1, ⟨rfl, rfl, rfl⟩, ⟨ms, s'.gc hb hp, mk⟩, n'.gc hb, f'.sub (fun b hb => hb.gc), r'.gc hb⟩
/-- a table told otherwise, whose families are as they were -/
theorem ConvF.of {gl : Nat → Option AVal} {ids : List Nat} {T T' : Tab} (h : Conv gl ids T T') (hf : ∀ (p : Nat) (o' : AObj), T'[p]? = some (some o') → o'.data.noFam = true ∨ o'.data = .fam [] ∨ ∃ o z Z, T[p]? = some (some o) ∧ o.data = .fam (z :: Z) ∧ o.g = o'.g) : ConvF gl ids T T' := by
  intro B ν w hr hi hR
  obtain ⟨ν', h1, h2, h3⟩ := h ν w hr hi
  refine ⟨ν', h1, h2, h3, hR.size, fun b hb => hR.own b (h3 b hb), fun p o' l' Z hT hl hZ i b n c hii hc => ?_, fun p o' z Z hT hZ => ?_⟩
  · rcases hf p o' hT with g | g | ⟨o, z0, Z0, g2, hZ0, g4⟩
    · rw [hZ] at g; cases g
    · obtain ⟨f1, _⟩ := h1.fam p o' l' hT hl [] g
      have : l'.rw = [] := List.eq_nil_of_length_eq_zero (by simpa using f1)
      rw [this] at hii; simp at hii
    · obtain ⟨l, hν⟩ := Option.isSome_iff_exists.1 (hR.here p o z0 Z0 g2 hZ0)
      obtain ⟨l1, k1, k2⟩ := h2 p l hν
      rw [hl] at k1; injection k1 with k1; subst k1
      have e1 := (hr.obj p o l g2 hν).1
      have e2 := (h1.obj p o' l' hT hl).1
      rcases k2 with k2 | ⟨_, _, _, k2⟩
      · omega
      · rw [← k2] at hii
        exact hR.fresh p o l (z0 :: Z0) g2 hν hZ0 i b n c hii hc
  · rcases hf p o' hT with g | g | ⟨o, z0, Z0, g2, hZ0, g4⟩
    · rw [hZ] at g; cases g
    · rw [hZ] at g; cases g
    · exact h2.isSome (hR.here p o z0 Z0 g2 hZ0)
/-- the last cell becomes a row of a family whose rows are new -/
theorem ConvF.absorb {gl : Nat → Option AVal} {T : Tab} {x F gx gF q gq off n : Nat} {Z : List (List Int)} {xs : List Int} {owF : Bool} {ex eF eq : TypeId}
    (hx : T[x]? = some (some ⟨.frows F gF Z [.slice 1 q gq off n none], gx, true, ex⟩)) (hF : T[F]? = some (some ⟨.fam Z, gF, owF, eF⟩)) (hq : T[q]? = some (some ⟨.ints .u8 xs, gq, true, eq⟩)) (hn : off + n ≤ xs.length)
    (hone : ∀ (p : Nat) (o : AObj), T[p]? = some (some o) → p ≠ F → o.data.noFam = true)
    {T' : Tab} (e : T' = ((T.set q (some ⟨.ints .u8 xs, gq, false, eq⟩)).set F (some ⟨.fam (Z ++ [(xs.drop off).take n]), gF + 1, true, eF⟩)).set x (some ⟨.frows F (gF + 1) (Z ++ [(xs.drop off).take n]) [], gx, true, ex⟩)) : ConvF gl [x] T T' := by
  subst e
  intro B ν w h hi hR
  obtain ⟨lx, hlx⟩ := Option.isSome_iff_exists.1 (hi x (.head _))
  have hxq : x ≠ q := by rintro rfl; rw [hx] at hq; injection hq with hq; injection hq with hq; injection hq with hq; cases hq
  have hFq : F ≠ q := by rintro rfl; rw [hF] at hq; injection hq with hq; injection hq with hq; injection hq with hq; cases hq
  have hxF : x ≠ F := by rintro rfl; rw [hx] at hF; injection hF with hF; injection hF with hF; injection hF with hF; cases hF
  have hFlt : F < T.length := (List.getElem?_eq_some_iff.1 hF).1
  obtain ⟨y, y1, y2⟩ := h.read hx hlx (i := Z.length) (by show Z.length < Z.length + 1; omega)
  have y3 : VR ν (.slice 1 q gq off n none) y := by
    have e : (AVal.frows F gF Z [.slice 1 q gq off n none]).get Z.length = .slice 1 q gq off n none := by
      show (frowsV F gF Z ++ [AVal.slice 1 q gq off n none]).getD Z.length un = _
      simp [List.getD, List.getElem?_append_right (show (frowsV F gF Z).length ≤ Z.length by rw [frowsV_len]; exact Nat.le_refl _), frowsV_len]
    simp only at y2
    rwa [e] at y2
  obtain ⟨lq, hlq⟩ := Option.isSome_iff_exists.1 (y3.hasId (p := q) (by simp [hasId, idsIn]))
  obtain ⟨h1, h2⟩ := h.disown hq hlq rfl
  obtain ⟨lF, k1, k2, k3, k4, k5⟩ := h1.absorb1 (x := x) (F := F) (q := q) (by rw [List.getElem?_set_ne (Ne.symm hxq)]; exact hx) hlx (by rw [List.getElem?_set_ne (Ne.symm hFq)]; exact hF) (List.getElem?_set_self (List.getElem?_eq_some_iff.1 hq).1) hn
  have at_F : ∀ (p : Nat) (o : AObj), (((T.set q (some ⟨.ints .u8 xs, gq, false, eq⟩)).set F (some ⟨.fam (Z ++ [(xs.drop off).take n]), gF + 1, true, eF⟩)).set x (some ⟨.frows F (gF + 1) (Z ++ [(xs.drop off).take n]) [], gx, true, ex⟩))[p]? = some (some o) → o.data.noFam = false → p = F := by
    intro p o ho hd
    by_cases e1 : p = x
    · subst e1
      rw [List.getElem?_set_self (by simpa using (List.getElem?_eq_some_iff.1 hx).1)] at ho
      injection ho with ho; injection ho with ho; subst ho; cases hd
    rw [List.getElem?_set_ne (Ne.symm e1)] at ho
    by_cases e2 : p = F
    · exact e2
    rw [List.getElem?_set_ne (Ne.symm e2)] at ho
    by_cases e3 : p = q
    · subst e3
      rw [List.getElem?_set_self (List.getElem?_eq_some_iff.1 hq).1] at ho
      injection ho with ho; injection ho with ho; subst ho; cases hd
    rw [List.getElem?_set_ne (Ne.symm e3)] at ho
    rw [hone p o ho e2] at hd; cases hd
  refine ⟨_, k3, k2, fun b hb => h2 b (k4 b hb), hR.size, fun b hb => hR.own b (h2 b (k4 b hb)), fun p o l Z' hT hl hZ' i b n' c hii hc => ?_, fun p o z Z' hT hZ' => ?_⟩
  · have := at_F p o hT (by rw [hZ']; rfl)
    subst this
    rw [upd_same] at hl; injection hl with hl; subst hl
    rcases k5 i b n' c hii hc with ⟨l0, m1, m2⟩ | ⟨lq', m1, m2, m3⟩
    · exact hR.fresh p _ l0 Z hF m1 rfl i b n' c m2 hc
    · rw [m3]
      exact hR.own _ ⟨q, _, lq', hq, rfl, m1, m2, rfl⟩
  · have := at_F p o hT (by rw [hZ']; rfl)
    subst this
    rw [upd_same]; rfl
/-! ## Contracts of functions that make families -/
def SmallF (P : Program) (gl : Nat → Option AVal) (f : FuncId) (args : List AVal) (T0 : Tab) (v : AVal) (T1 : Tab) : Prop :=
  ∀ (ν : Nu) (w : World) (vs : Array Value), HR gl ν T0 w → VRs ν args vs.toList →
    Calls P f vs w fun e w' => ∃ x ν', e = .returned x ∧ VR ν' v x ∧ HR gl ν' T1 w' ∧ NuLeB T0.length ν ν' ∧ Fr (Own ν T0) w (Own ν' T1) w' ∧ FreshF w.heap.size ν' T1
theorem smallF_of_awpF {E : Env} (hE : EnvOk E) {f : FuncId} {fn : Func} {c : Code} (hf : E.P.funcs[f]? = some fn) (hb : fn.body = some c) {args : List AVal} {T0 : Tab} {v : AVal} {T1 : Tab} (hle : Nat.ble args.length fn.ntmps = true)
    (hown : ∀ (p : Nat) (o : AObj), T0[p]? = some (some o) → o.own = false ∧ o.data.noFam = true)
    (h : AWpF E fn.ntmps T0.length c (argF args 0) T0 fun ex fm T => (ex = .normal ∨ ex = .ret) ∧ T = T1 ∧ ∃ cs us, aRes E fm T fn.results.toList = some (cs, us) ∧ allP cs ∧ retV us = v) : SmallF E.P E.gl f args T0 v T1 := by
  intro ν w vs hr hv
  refine callsIn_wide.1 (callsIn_of_wp_marks (F := Fence.wide) (n := 0) hf hb trivial ?_)
  have hs : SRel E [] ν (argF args 0) T0 fn.ntmps { tmps := vs ++ Array.replicate (fn.ntmps - vs.size) undef, defers := [] } w := by
    refine ⟨hr, fun t v hl => ?_, by simp; omega, rfl⟩
    obtain ⟨h1, h2, h3⟩ := argF_look hv hl
    simp only [Nat.sub_zero] at h2 h3
    have : (vs ++ Array.replicate (fn.ntmps - vs.size) undef).getD t undef = vs.toList.getD t undef := by
      have h2' : t < vs.size := by simpa using h2
      simp [Array.getElem?_append_left h2', List.getD]
    rw [this]; exact h3
  have hR : RF w.heap.size ν T0 w := ⟨Nat.le_refl _, fun b ⟨p, o, l, h1, h2, _⟩ => (by rw [(hown p o h1).1] at h2; cases h2), fun p o l Z h1 _ hZ => (by have := (hown p o h1).2; rw [hZ] at this; cases this), fun p o z Z h1 hZ => (by have := (hown p o h1).2; rw [hZ] at this; cases this)⟩
  refine wpIn_mono (h w.heap.size none [] ν _ w hs (fun l h => by cases h) hR) fun e a' w' hP => ?_
  obtain ⟨ex, fm', T', ν', e1, ⟨hex, hT, cs2, us, h2, h3, hu⟩, ⟨ms, s', mk⟩, n', f', r'⟩ := hP
  subst e1 hT hu
  have post : LeavesInM Fence.wide 0 E.P fn a'.tmps (fun e w' => ∃ x ν', e = .returned x ∧ VR ν' (retV us) x ∧ HR E.gl ν' T' w' ∧ NuLeB T0.length ν ν' ∧ Fr (Own ν T0) w (Own ν' T') w' ∧ FreshF w.heap.size ν' T') a'.defers .returning w' := by
    have hd : a'.defers = ms := by rw [s'.defers, List.append_nil]
    rw [hd]
    refine leaves_marks ms w' mk.1 mk.2 (Sh.refl w.heap.size w') fun w2 hsh => ?_
    have s2 : SRel E (ms ++ []) ν' fm' T' fn.ntmps a' w2 := ⟨s'.hr.sh hsh, s'.fm, s'.size, s'.defers⟩
    obtain ⟨xs, g1, g2⟩ := aRes_sound hE s2 h2 h3
    have hres : (results fn a'.tmps).run E.P w2 = .ok (if h : xs.toArray.size = 1 then xs.toArray[0] else .tuple xs.toArray) w2 := by
      have : (fn.results.mapM (resF a'.tmps)).run E.P w2 = .ok xs.toArray w2 := by
        rw [Array.mapM_eq_mapM_toList]
        simp [g1]
      unfold results
      rw [Sem.run_bind]
      refine (congrArg (fun r => Result.andThen r _) ((congrArg (fun g => Sem.run E.P (Array.mapM g fn.results) w2) (funext fun x => ?_)).trans this)).trans rfl
      cases x <;> rfl
    exact ⟨_, hres, _, ν', rfl, retV_VR g2, s2.hr, n', f'.sh rfl hsh, r'.fresh⟩
  rcases hex with rfl | rfl
  · exact post
  · exact post

/-- how what came of the small table lies in the caller's, afterwards; families may be new -/
structure EmbRF (k : Nat) (T0 T1 : Tab) (T T' : Tab) (fp r1 : Nat → Nat) (own0 : Nat → Prop) (live : Nat → Bool) : Prop where
  len : T.length ≤ T'.length
  keep : ∀ p, p < T.length → (∀ i, i < k → own0 i → p ≠ fp i) → T'[p]? = T[p]?
  own : ∀ i, i < k → own0 i → ∃ o1, T1[i]? = some (some o1) ∧ o1.own = true ∧ T'[fp i]? = some (some (renO r1 o1)) ∧ idsIn live o1.data = true ∧ o1.data.noFam = true
  other : ∀ i, i < k → ¬ own0 i → ∃ o0 o1, T0[i]? = some (some o0) ∧ T1[i]? = some (some o1) ∧ o1.g = o0.g
  new : ∀ p, T.length ≤ p → p < T'.length → ∃ i o1, k ≤ i ∧ live i = true ∧ r1 i = p ∧ T1[i]? = some (some o1) ∧ o1.own = true ∧ T'[p]? = some (some (renO r1 o1)) ∧ idsIn live o1.data = true
  old : ∀ i, i < k → live i = true ∧ r1 i = fp i
  top : ∀ i, k ≤ i → live i = true → T.length ≤ r1 i ∧ r1 i < T'.length
  inj : ∀ i j, k ≤ i → k ≤ j → live i = true → live j = true → r1 i = r1 j → i = j

section
variable {P : Program} {gl : Nat → Option AVal} {k : Nat} {T0 T1 T T' : Tab} {fp r1 : Nat → Nat} {own0 : Nat → Prop} {live : Nat → Bool}

theorem embedF {f : FuncId} {args : List AVal} {v : AVal} (hS : SmallF P gl f args T0 v T1) (E1 : Emb k T0 T fp own0) (E2 : EmbRF k T0 T1 T T' fp r1 own0 live)
    (hargs : ∀ a ∈ args, idsIn (fun j => Nat.blt j k) a = true) (hv : idsIn live v = true)
    {ν : Nu} {w : World} {vs : Array Value} (hr : HR gl ν T w) (ha : VRs ν (args.map (ren fp)) vs.toList) (hsome : ∀ i, i < k → (ν (fp i)).isSome) :
    Calls P f vs w fun e w' => ∃ x, e = .returned x ∧ OpPost gl ν T w T.length ⟨[], ren r1 v, T'⟩ x w' := by
  -- the small table's places
  let ν0 : Nu := fun i => if i < k then ν (fp i) else none
  have ν0in : ∀ i, i < k → ν0 i = ν (fp i) := fun i hi => by simp [ν0, hi]
  have ν0out : ∀ i, k ≤ i → ν0 i = none := fun i hi => by simp [ν0]; omega
  have back : ∀ i l, Nat.blt i k = true → ν (fp i) = some l → ν0 i = some l := fun i l hi hl => by
    rw [ν0in i (by simpa using hi)]; exact hl
  have obj0 : ∀ i o, T0[i]? = some (some o) → i < k := fun i o ho => by
    have := (List.getElem?_eq_some_iff.1 ho).1; rw [E1.len] at this; exact this
  have own_sub : ∀ b, Own ν0 T0 b → ∃ i o l, i < k ∧ own0 i ∧ T0[i]? = some (some o) ∧ ν (fp i) = some l ∧ 0 < l.room ∧ l.a.block = b := by
    rintro b ⟨i, o, l, h1, h2, h3, h4, h5⟩
    have hi := obj0 i o h1
    obtain ⟨o2, o', e1, _, _, _, _, _, e7⟩ := E1.obj i hi
    rw [h1] at e1; injection e1 with e1; injection e1 with e1; subst e1
    rw [ν0in i hi] at h3
    exact ⟨i, o, l, hi, e7.1 h2, h1, h3, h4, h5⟩
  have own_big : ∀ b, Own ν0 T0 b → Own ν T b := by
    intro b hb
    obtain ⟨i, o, l, hi, ho0, h1, h2, h3, h4⟩ := own_sub b hb
    obtain ⟨o2, o', e1, e2, _, _, _, e6, e7⟩ := E1.obj i hi
    exact ⟨fp i, o', l, e2, (e6 (e7.2 ho0)).1, h2, h3, h4⟩
  have hr0 : HR gl ν0 T0 w := by
    refine ⟨fun i o l ho hl => ?_, fun i l hl => ?_, fun i hi => ?_, fun i l hl h0 => ?_, fun i j o o' l l' ho ho' hw hne hl hl' h0 h0' => ?_, fun b d hb => ?_, fun i o l ho hl => ?_⟩
    · have hi := obj0 i o ho
      obtain ⟨o2, o', e1, e2, e3, e4, e5, e6, e7⟩ := E1.obj i hi
      rw [ho] at e1; injection e1 with e1; injection e1 with e1; subst e1
      rw [ν0in i hi] at hl
      obtain ⟨g1, hd, g2⟩ := hr.obj (fp i) o' l e2 hl
      have hdd : IsData o.data := isData_of_ren (by rw [← e4]; exact hd)
      have un : ∀ j, j < o.data.len → ∀ x, VR ν (o'.data.get j) x → VR ν0 (o.data.get j) x := fun j hj x hx => by
        rw [e4, ren_get hdd hj] at hx
        exact unren back _ x (idsIn_get hdd e5 hj) hx
      have hlen : o'.data.len = o.data.len := by rw [e4, ren_len hdd]
      refine ⟨e3.symm.trans g1, hdd, ?_⟩
      by_cases hown : o.own = true
      · obtain ⟨w1, w2⟩ := e6 hown
        rcases g2 with ⟨_, g2⟩ | ⟨g2, _⟩ | ⟨g2, g3⟩
        · obtain ⟨cur, c1, c2, c3⟩ := g2.row
          refine .inl ⟨hown, ⟨⟨cur, by rw [← w2]; exact c1, c2, ?_⟩, g2.spot, by rw [← hlen]; exact g2.room⟩⟩
          rw [cells_VRs (isData_of_ren (r := fp) (by rw [← e4]; exact hd))]
          rw [cells_VRs hd, hlen] at c3
          exact ⟨c3.1, fun j hj => un j hj _ (c3.2 j hj)⟩
        · rw [w1] at g2; cases g2
        · exact .inr (.inr ⟨by rw [← hlen]; exact g2, g3⟩)
      · have hown : o.own = false := by simpa using hown
        refine .inr (.inl ⟨hown, by rw [← hlen]; exact (ObjRel.room ⟨hd, g2⟩), fun j hj => ?_⟩)
        obtain ⟨x, c1, c2⟩ := hr.read e2 hl (i := j) (by rw [hlen]; exact hj)
        exact ⟨x, c1, un j hj x c2⟩
    · rcases Nat.lt_or_ge i k with h | h
      · rw [E1.len]; exact h
      · rw [ν0out i h] at hl; cases hl
    · rcases Nat.lt_or_ge i k with h | h
      · obtain ⟨o, o', e1, _⟩ := E1.obj i h
        rw [hi] at e1; cases e1
      · exact ν0out i h
    · rcases Nat.lt_or_ge i k with h | h
      · rw [ν0in i h] at hl; exact hr.blk _ l hl h0
      · rw [ν0out i h] at hl; cases hl
    · have hi := obj0 i o ho
      have hj := obj0 j o' ho'
      obtain ⟨o2, p, e1, e2, _, _, _, e6, e7⟩ := E1.obj i hi
      obtain ⟨o2', p', e1', e2', _⟩ := E1.obj j hj
      rw [ho] at e1; injection e1 with e1; injection e1 with e1; subst e1
      rw [ν0in i hi] at hl; rw [ν0in j hj] at hl'
      exact hr.sep (fp i) (fp j) p p' l l' e2 e2' (e6 hw).1 (E1.inj i j hi hj hne (e7.1 hw)) hl hl' h0 h0'
    · obtain ⟨h1, h2⟩ := hr.glob b d hb
      exact ⟨fun h => h1 (own_big b h), h2⟩
    · have hi := obj0 i o ho
      obtain ⟨o2, o', e1, e2, e3, e4, e5, e6, e7⟩ := E1.obj i hi
      rw [ho] at e1; injection e1 with e1; injection e1 with e1; subst e1
      rw [ν0in i hi] at hl
      have hf := (hr.fam (fp i) o' l e2 hl).sub own_big
      intro Z hZ
      exact hf Z (by rw [e4, hZ]; rfl)
  have ha0 : VRs ν0 args vs.toList := by
    refine ⟨by simpa using ha.1, fun i hi => ?_⟩
    have := ha.2 i (by simpa using hi)
    have hin : idsIn (fun j => Nat.blt j k) (args.getD i un) = true := by
      refine hargs _ ?_
      simp [List.getD, hi]
    refine unren back _ _ hin ?_
    simpa [List.getD, hi] using this
  refine (hS ν0 w vs hr0 ha0).mono fun e w' ⟨x, ν1, he, hx, hr1, hm1, hf1, hfr⟩ => ⟨x, he, ?_⟩
  -- the caller's places, afterwards
  let hit : Nat → Nat → Prop := fun p i => (i < k ∧ own0 i ∧ fp i = p) ∨ (k ≤ i ∧ live i = true ∧ r1 i = p ∧ T.length ≤ p)
  have hitU : ∀ p i j, p < T.length ∨ True → hit p i → hit p j → i = j := by
    intro p i j _ hi hj
    have flt : ∀ i, i < k → own0 i → fp i < T.length := fun i hi ho => by
      obtain ⟨o, o', _, e2, _⟩ := E1.obj i hi
      exact (List.getElem?_eq_some_iff.1 e2).1
    rcases hi with ⟨a1, a2, a3⟩ | ⟨a1, a2, a3, a4⟩ <;> rcases hj with ⟨b1, b2, b3⟩ | ⟨b1, b2, b3, b4⟩
    · by_cases e : i = j
      · exact e
      · exact absurd (a3.trans b3.symm) (E1.inj i j a1 b1 e a2)
    · have := flt i a1 a2; omega
    · have := flt j b1 b2; omega
    · exact E2.inj i j a1 b1 a2 b2 (a3.trans b3.symm)
  let ν' : Nu := fun p => open Classical in if h : ∃ i, hit p i then ν1 h.choose else if p < T.length then ν p else none
  have νhit : ∀ p i, hit p i → ν' p = ν1 i := fun p i h => by
    have hex : ∃ i, hit p i := ⟨i, h⟩
    simp only [ν', dif_pos hex]
    rw [hitU p _ i (.inr trivial) hex.choose_spec h]
  have νold : ∀ p, (∀ i, ¬ hit p i) → p < T.length → ν' p = ν p := fun p h hp => by
    have hex : ¬ ∃ i, hit p i := fun ⟨i, hi⟩ => h i hi
    simp only [ν', dif_neg hex, if_pos hp]
  have νtop : ∀ p, (∀ i, ¬ hit p i) → T.length ≤ p → ν' p = none := fun p h hp => by
    have hex : ¬ ∃ i, hit p i := fun ⟨i, hi⟩ => h i hi
    simp only [ν', dif_neg hex, if_neg (Nat.not_lt.2 hp)]
  have same : ∀ i, i < k → ¬ own0 i → ∀ l, ν1 i = some l → ν (fp i) = some l := by
    intro i hi ho l hl
    obtain ⟨l0, hl0⟩ := Option.isSome_iff_exists.1 (hsome i hi)
    obtain ⟨l1, hl1, hc⟩ := hm1 i (by rw [E1.len]; exact hi) l0 (by rw [ν0in i hi]; exact hl0)
    rw [hl] at hl1; injection hl1 with hl1; subst hl1
    obtain ⟨o0, o1, e1, e2, e3⟩ := E2.other i hi ho
    have g1 := (hr1.obj i o1 l e2 hl).1
    have g0 := (hr0.obj i o0 l0 e1 (by rw [ν0in i hi]; exact hl0)).1
    rcases hc with hc | ⟨c1, c2, c3, c4⟩
    · omega
    · rw [hl0]
      rcases l with @⟨a, g, r, q⟩
      rcases l0 with @⟨a0, g0', r0, q0⟩
      obtain ⟨q⟩ := q
      obtain ⟨q0⟩ := q0
      simp only [Loc.rw] at c1 c2 c3 c4
      subst c1; subst c2; subst c3; subst c4
      rfl
  have key : ∀ i l, live i = true → ν1 i = some l → ν' (r1 i) = some l := by
    intro i l hl h1
    rcases Nat.lt_or_ge i k with hi | hi
    · rw [(E2.old i hi).2]
      by_cases ho : own0 i
      · rw [νhit (fp i) i (.inl ⟨hi, ho, rfl⟩)]; exact h1
      · obtain ⟨o, o', e1, e2, _⟩ := E1.obj i hi
        have hlt := (List.getElem?_eq_some_iff.1 e2).1
        have nohit : ∀ j, ¬ hit (fp i) j := by
          rintro j (⟨a1, a2, a3⟩ | ⟨a1, a2, a3, a4⟩)
          · by_cases e : j = i
            · subst e; exact ho a2
            · exact E1.inj j i a1 hi e a2 a3
          · omega
        rw [νold (fp i) nohit hlt]
        exact same i hi ho l h1
    · rw [νhit (r1 i) i (.inr ⟨hi, hl, rfl, (E2.top i hi hl).1⟩)]; exact h1
  have hm : NuLe ν ν' := by
    intro p l hl
    have hp := hr.lt p l hl
    by_cases hex : ∃ i, hit p i
    · obtain ⟨i, hi⟩ := hex
      rcases hi with ⟨a1, a2, a3⟩ | ⟨a1, a2, a3, a4⟩
      · obtain ⟨l1, h1, h2⟩ := hm1 i (by rw [E1.len]; exact a1) l (by rw [ν0in i a1, a3]; exact hl)
        exact ⟨l1, by rw [νhit p i (.inl ⟨a1, a2, a3⟩)]; exact h1, h2⟩
      · omega
    · exact ⟨l, by rw [νold p (fun i hi => hex ⟨i, hi⟩) hp]; exact hl, .inr ⟨rfl, rfl, rfl, rfl⟩⟩
  -- what stands at a place, afterwards
  have cases3 : ∀ p o l, T'[p]? = some (some o) → ν' p = some l →
      (∃ i o1, T1[i]? = some (some o1) ∧ o = renO r1 o1 ∧ ν1 i = some l ∧ o1.own = true ∧ idsIn live o1.data = true ∧ hit p i) ∨
      (T[p]? = some (some o) ∧ ν p = some l ∧ p < T.length ∧ (∀ i, ¬ hit p i)) := by
    intro p o l ho hl
    have hlt : p < T'.length := (List.getElem?_eq_some_iff.1 ho).1
    rcases Nat.lt_or_ge p T.length with hp | hp
    · by_cases hex : ∃ i, hit p i
      · obtain ⟨i, hi⟩ := hex
        have hi' := hi
        rcases hi with ⟨a1, a2, a3⟩ | ⟨a1, a2, a3, a4⟩
        · obtain ⟨o1, e1, e2, e3, e4, e5⟩ := E2.own i a1 a2
          rw [a3, ho] at e3; injection e3 with e3; injection e3 with e3
          rw [νhit p i hi'] at hl
          exact .inl ⟨i, o1, e1, e3, hl, e2, e4, hi'⟩
        · omega
      · have nohit : ∀ i, ¬ hit p i := fun i hi => hex ⟨i, hi⟩
        rw [νold p nohit hp] at hl
        rw [E2.keep p hp (fun i h1 h2 h3 => nohit i (.inl ⟨h1, h2, h3.symm⟩))] at ho
        exact .inr ⟨ho, hl, hp, nohit⟩
    · obtain ⟨i, o1, a1, a2, a3, e1, e2, e3, e4⟩ := E2.new p hp hlt
      rw [ho] at e3; injection e3 with e3; injection e3 with e3
      have hi : hit p i := .inr ⟨a1, a2, a3, hp⟩
      rw [νhit p i hi] at hl
      exact .inl ⟨i, o1, e1, e3, hl, e2, e4, hi⟩
  -- an old object's block is not one of the small table's own, before
  have apart0 : ∀ p o l, T[p]? = some (some o) → ν p = some l → (∀ i, ¬ hit p i) → 0 < l.room → ¬ Own ν0 T0 l.a.block := by
    intro p o l ho hl hno h0 hO
    obtain ⟨i, oi, li, hi, hoi, h1, h2, h3, h4⟩ := own_sub _ hO
    obtain ⟨o2, o', e1, e2, _, _, _, e6, e7⟩ := E1.obj i hi
    exact hr.sep (fp i) p o' o li l e2 ho (e6 (e7.2 hoi)).1 (fun e => hno i (.inl ⟨hi, hoi, e⟩)) h2 hl h3 h0 h4
  have ownS : ∀ i o1 l, T1[i]? = some (some o1) → o1.own = true → ν1 i = some l → 0 < l.room → Own ν1 T1 l.a.block := fun i o1 l h1 h2 h3 h4 => ⟨i, o1, l, h1, h2, h3, h4, rfl⟩
  have apart1 : ∀ p o l, T[p]? = some (some o) → ν p = some l → (∀ i, ¬ hit p i) → 0 < l.room → ∀ i o1 l1, T1[i]? = some (some o1) → o1.own = true → ν1 i = some l1 → 0 < l1.room → l1.a.block ≠ l.a.block := by
    intro p o l ho hl hno h0 i o1 l1 h1 h2 h3 h4 he
    rcases hf1.own _ (ownS i o1 l1 h1 h2 h3 h4) with h5 | h5
    · rw [he] at h5
      exact apart0 p o l ho hl hno h0 h5
    · rw [he] at h5
      have := hr.blk p l hl h0
      omega
  have ownBig' : ∀ b, Own ν' T' b → Own ν1 T1 b ∨ Own ν T b := by
    rintro b ⟨p, o, l, h1, h2, h3, h4, h5⟩
    rcases cases3 p o l h1 h3 with ⟨i, o1, a1, a2, a3, a4, a5, a6⟩ | ⟨a1, a2, a3, a4⟩
    · exact .inl ⟨i, o1, l, a1, a4, a3, h4, h5⟩
    · exact .inr ⟨p, o, l, a1, h2, a2, h4, h5⟩
  have hr' : HR gl ν' T' w' := by
    refine ⟨fun p o l ho hl => ?_, fun p l hl => ?_, fun p hp => ?_, fun p l hl h0 => ?_, fun p q o o' l l' ho ho' hw hne hl hl' h0 h0' => ?_, fun b d hb => ?_, fun p o l ho hl => ?_⟩
    · rcases cases3 p o l ho hl with ⟨i, o1, a1, a2, a3, a4, a5, a6⟩ | ⟨a1, a2, a3, a4⟩
      · obtain ⟨g1, g2⟩ := hr1.obj i o1 l a1 a3
        subst a2
        exact ⟨g1, g2.ren key a5⟩
      · obtain ⟨g1, g2⟩ := hr.obj p o l a1 a2
        refine ⟨g1, g2.kept hm fun h0 => ?_⟩
        exact hf1.block _ (hr.blk p l a2 h0) (apart0 p o l a1 a2 a4 h0)
    · rcases Nat.lt_or_ge p T.length with hp | hp
      · exact Nat.lt_of_lt_of_le hp E2.len
      · by_cases hex : ∃ i, hit p i
        · obtain ⟨i, hi⟩ := hex
          rcases hi with ⟨a1, a2, a3⟩ | ⟨a1, a2, a3, a4⟩
          · obtain ⟨o, o', _, e2, _⟩ := E1.obj i a1
            have := (List.getElem?_eq_some_iff.1 e2).1; omega
          · rw [← a3]; exact (E2.top i a1 a2).2
        · rw [νtop p (fun i hi => hex ⟨i, hi⟩) hp] at hl; cases hl
    · have hlt : p < T'.length := (List.getElem?_eq_some_iff.1 hp).1
      rcases Nat.lt_or_ge p T.length with hpp | hpp
      · by_cases hex : ∃ i, hit p i
        · obtain ⟨i, hi⟩ := hex
          rcases hi with ⟨a1, a2, a3⟩ | ⟨a1, a2, a3, a4⟩
          · obtain ⟨o1, e1, e2, e3, e4, e5⟩ := E2.own i a1 a2
            rw [a3, hp] at e3; cases e3
          · omega
        · have nohit : ∀ i, ¬ hit p i := fun i hi => hex ⟨i, hi⟩
          rw [νold p nohit hpp]
          rw [E2.keep p hpp (fun i h1 h2 h3 => nohit i (.inl ⟨h1, h2, h3.symm⟩))] at hp
          exact hr.hole p hp
      · obtain ⟨i, o1, a1, a2, a3, e1, e2, e3, e4⟩ := E2.new p hpp hlt
        rw [hp] at e3; cases e3
    · by_cases hex : ∃ i, hit p i
      · obtain ⟨i, hi⟩ := hex
        rw [νhit p i hi] at hl
        exact hr1.blk i l hl h0
      · have nohit : ∀ i, ¬ hit p i := fun i hi => hex ⟨i, hi⟩
        rcases Nat.lt_or_ge p T.length with hp | hp
        · rw [νold p nohit hp] at hl
          exact Nat.lt_of_lt_of_le (hr.blk p l hl h0) hf1.size
        · rw [νtop p nohit hp] at hl; cases hl
    · rcases cases3 p o l ho hl with ⟨i, o1, a1, a2, a3, a4, a5, a6⟩ | ⟨a1, a2, a3, a4⟩ <;> rcases cases3 q o' l' ho' hl' with ⟨j, o2, b1, b2, b3, b4, b5, b6⟩ | ⟨b1, b2, b3, b4⟩
      · refine hr1.sep i j o1 o2 l l' a1 b1 a4 (fun e => ?_) a3 b3 h0 h0'
        subst e
        apply hne
        rcases a6 with ⟨c1, c2, c3⟩ | ⟨c1, c2, c3, c4⟩ <;> rcases b6 with ⟨d1, d2, d3⟩ | ⟨d1, d2, d3, d4⟩ <;> omega
      · exact apart1 q o' l' b1 b2 b4 h0' i o1 l a1 a4 a3 h0
      · exact fun e => apart1 p o l a1 a2 a4 h0 j o2 l' b1 b4 b3 h0' e.symm
      · exact hr.sep p q o o' l l' a1 b1 hw hne a2 b2 h0 h0'
    · obtain ⟨h1, h2⟩ := hr1.glob b d hb
      refine ⟨fun h => ?_, h2⟩
      rcases ownBig' b h with h3 | h3
      · exact h1 h3
      · exact (hr.glob b d hb).1 h3
    · rcases cases3 p o l ho hl with ⟨i, o1, a1, a2, a3, a4, a5, a6⟩ | ⟨a1, a2, a3, a4⟩
      · subst a2
        refine FamOk.ren (r := r1) ?_
        have hfa := hr1.fam i o1 l a1 a3
        intro Z hZ
        obtain ⟨f1, f2⟩ := hfa Z hZ
        refine ⟨f1, fun ii hii => ?_⟩
        obtain ⟨bo, c, g1, g0, g2⟩ := f2 ii hii
        refine ⟨bo, c, g1, g0, fun hc => ?_⟩
        obtain ⟨b, rfl, g3, g4, g5⟩ := g2 hc
        refine ⟨b, rfl, fun hO => ?_, g4, g5⟩
        rcases ownBig' _ hO with q1 | ⟨pp, oo, ll, q1, q2, q3, q4, q5⟩
        · exact g3 q1
        · have hlt := hr.blk pp ll q3 q4
          have hrw : l.rw[ii]? = some (l.rw.getD ii undef) := by simp [List.getD, List.getElem?_eq_getElem (show ii < l.rw.length by omega)]
          rw [g1] at hrw
          have := hfr i o1 l Z a1 a3 hZ ii b _ c hrw hc
          omega
      · exact (hr.fam p o l a1 a2).keep hf1.size (fun b hb hO h => by
          rcases ownBig' b h with h1 | h1
          · rcases hf1.own b h1 with h2 | h2
            · exact hO (own_big b h2)
            · omega
          · exact hO h1) (fun b hb hO => hf1.block b hb (fun h => hO (own_big b h)))
  refine ⟨ν', hm, fun q hq hne hn => ?_, hx.ren key hv, hr', ?_⟩
  · by_cases hex : ∃ i, hit q i
    · obtain ⟨i, hi⟩ := hex
      rcases hi with ⟨a1, a2, a3⟩ | ⟨a1, a2, a3, a4⟩
      · have := hsome i a1
        rw [a3, hn] at this; cases this
      · omega
    · rw [νold q (fun i hi => hex ⟨i, hi⟩) hq]; exact hn
  · refine ⟨hf1.os, hf1.tape, hf1.output, hf1.size, fun b hb hO => hf1.block b hb (fun h => hO (own_big b h)), fun b hb => ?_⟩
    rcases ownBig' b hb with h3 | h3
    · exact (hf1.own b h3).imp (own_big b) (fun h => h)
    · exact .inl h3
end
def newsRF (k : Nat) (live : Nat → Bool) (r1 : Nat → Nat) (T1 : Tab) : List Nat → Option Tab
  | [] => some []
  | q :: r => match nth T1 q, newsRF k live r1 T1 r with
    | some ⟨d, g, ow, et⟩, some N => match ow, idsIn live d, Nat.ble k q with
      | true, true, true => some (some ⟨ren r1 d, g, true, et⟩ :: N)
      | _, _, _ => none
    | _, _ => none
theorem newsRF_ok {k : Nat} {live : Nat → Bool} {r1 : Nat → Nat} {T1 : Tab} : ∀ {l : List Nat} {N : Tab}, newsRF k live r1 T1 l = some N → N.length = l.length ∧ ∀ j, j < l.length → ∃ o, k ≤ l.getD j 0 ∧ T1[l.getD j 0]? = some (some o) ∧ o.own = true ∧ idsIn live o.data = true ∧ N[j]? = some (some (renO r1 o))
  | [], N, h => by simp [newsRF] at h; subst h; exact ⟨rfl, fun j hj => by simp at hj⟩
  | q :: r, N, h => by
    simp only [newsRF] at h
    split at h
    · rename_i d g ow et N' ho hN
      split at h
      · rename_i e1 e2
        injection h with h; subst h
        obtain ⟨l1, l2⟩ := newsRF_ok hN
        refine ⟨by simp [l1], fun j hj => ?_⟩
        cases j with
        | zero => exact ⟨_, Nat.le_of_ble_eq_true e2, by simpa using nth_some ho, rfl, e1, by simp [renO]⟩
        | succ j => simpa using l2 j (by simpa using hj)
      · cases h
    · cases h

def callGoNF (news : List Nat) (cs : List Con) (v : AVal) (T1 : Tab) (fps : List Nat) (args : List AVal) (T T0 : Tab) : Res :=
  match newsRF fps.length (liveR fps.length news) (backId fps news T.length) T1 news, backR (liveR fps.length news) (backId fps news T.length) T0 T1 fps 0 T with
  | some N, some (cs2, T2) =>
    match nodupN fps && nodupN news && idsInL (fun p => memN p fps) args && backed args T [] fps && idsIn (liveR fps.length news) v with
    | true => ⟨cs2 ++ cs, ren (backId fps news T.length) v, T2 ++ N⟩
    | false => fail
  | _, _ => fail
def callGoRF (sm : Res) (fps : List Nat) (args : List AVal) (T T0 : Tab) : Res :=
  match sm with
  | ⟨cs, v, T1⟩ => callGoNF (newsGo fps.length T1 1000 (idsV [] v ++ ownIds T0 T1) []) cs v T1 fps args T T0
def callFF (sm : Summary) (wr : List Bool) (fps : List Nat) (args : List AVal) (T : Tab) : Res :=
  match smallR T wr fps fps 0 with
  | some T0 => callGoRF (sm (rens (idxN fps) args) T0) fps args T T0
  | none => fail
/-- a call: the callee on a small table of what the arguments reach -/
def callRF (sm : Summary) (wr : List Bool) : Summary := fun args T => callFF sm wr (reachGo T 1000 (idsVs [] args) []) args T

theorem callGoNF_ok {P : Program} {gl : Nat → Option AVal} {f : FuncId} {args : List AVal} {T T0 T1 : Tab} {wr : List Bool} {fps news : List Nat} {ν : Nu} {w : World} {vs : Array Value} {cs : List Con} {v : AVal}
    (hT0 : smallR T wr fps fps 0 = some T0) (hS : allP cs → SmallF P gl f (rens (idxN fps) args) T0 v T1) (hc : allP (callGoNF news cs v T1 fps args T T0).cs) (hr : HR gl ν T w) (hvs : VRs ν args vs.toList) :
    Calls P f vs w fun e w' => ∃ x, e = .returned x ∧ OpPost gl ν T w T.length ⟨[], (callGoNF news cs v T1 fps args T T0).val, (callGoNF news cs v T1 fps args T T0).tab⟩ x w' := by
  unfold callGoNF at hc ⊢
  have nofail : ¬ allP fail.cs := by simp [fail, allP, Con.h]
  cases hN : newsRF fps.length (liveR fps.length news) (backId fps news T.length) T1 news with
  | none => simp only [hN] at hc; exact absurd hc nofail
  | some N =>
    cases hB : backR (liveR fps.length news) (backId fps news T.length) T0 T1 fps 0 T with
    | none => simp only [hN, hB] at hc; exact absurd hc nofail
    | some q =>
      obtain ⟨cs2, T2⟩ := q
      simp only [hN, hB] at hc ⊢
      split at hc
      rotate_left
      · exact absurd hc nofail
      rename_i hck
      simp only [hck]
      simp only [Bool.and_eq_true] at hck
      obtain ⟨⟨⟨⟨k1, k2⟩, k3⟩, k4⟩, k5⟩ := hck
      rw [allP_append] at hc
      have hsm := hS hc.2
      have nd1 := nodupN_ok k1
      have nd2 := nodupN_ok k2
      obtain ⟨s1, s2⟩ := smallR_ok hT0
      obtain ⟨n1, n2⟩ := newsRF_ok hN
      simp only [Nat.zero_add] at s2
      have hin : ∀ p ∈ fps, p < T.length := fun p hp => by
        obtain ⟨h1, h2⟩ := idxN_get hp
        obtain ⟨o, h3, _⟩ := s2 _ h1
        rw [h2] at h3
        exact (List.getElem?_eq_some_iff.1 h3).1
      obtain ⟨b1, b2, b3, b4⟩ := backR_ok hB hc.1 nd1 hin
      simp only [Nat.zero_add] at b2 b3 b4
      have hold : ∀ i, i < fps.length → backId fps news T.length i = fps.getD i 0 := fun i hi => by
        have : Nat.blt i fps.length = true := by simpa using hi
        simp only [backId, this, nthN_eq]
      have hnew : ∀ i, fps.length ≤ i → backId fps news T.length i = T.length + idxN news i := fun i hi => by
        have : Nat.blt i fps.length = false := by
          cases hb : Nat.blt i fps.length with
          | false => rfl
          | true => have : i < fps.length := by simpa using hb
                    omega
        simp [backId, this]
      have args_back : (rens (idxN fps) args).map (ren fun i => fps.getD i 0) = args := by
        rw [← rens_map]
        exact rens_rens (live := fun p => memN p fps) (fun p hp => (idxN_get (memN_ok.1 hp)).2) args k3
      have hlive : ∀ i, fps.length ≤ i → liveR fps.length news i = true → i ∈ news := fun i hi h => by
        simp only [liveR, Bool.or_eq_true] at h
        rcases h with h | h
        · have : i < fps.length := by simpa using h
          omega
        · exact memN_ok.1 h
      have := embedF (k := fps.length) (T' := T2 ++ N) (fp := fun i => fps.getD i 0) (r1 := backId fps news T.length) (own0 := ownAt T0) (live := liveR fps.length news) hsm
        ⟨s1, fun i hi => ?_, fun i j hi hj hne _ he => hne (nodup_getD nd1 hi hj he)⟩
        ⟨by simp [b1], fun p hp hno => ?_, fun i hi hw => ?_, fun i hi hw => b4 i hi hw, fun p h1 h2 => ?_, fun i hi => ⟨by simp [liveR, hi], hold i hi⟩, fun i hi h => ?_, fun i j hi hj h h' he => ?_⟩
        ?_ k5 hr (by rw [args_back]; exact hvs) ?_
      · exact this
      · obtain ⟨o, e1, e2, e3⟩ := s2 i hi
        refine ⟨_, o, e3, e1, rfl, ?_, ?_, fun h => ?_, ?_⟩
        · exact (ren_ren (live := fun p => memN p fps) (fun p hp => (idxN_get (memN_ok.1 hp)).2) _ e2).symm
        · exact idsIn_ren (live := fun p => memN p fps) (fun p hp => by simpa using (idxN_get (memN_ok.1 hp)).1) _ e2
        · simp only [Bool.and_eq_true] at h; exact ⟨h.2, rfl⟩
        · exact ⟨fun h => ⟨_, e3, h⟩, fun ⟨o', h1, h2⟩ => by rw [e3] at h1; injection h1 with h1; injection h1 with h1; subst h1; exact h2⟩
      · rw [List.getElem?_append_left (by omega)]
        exact b2 p fun j hj hw => hno j hj hw
      · obtain ⟨o1, e1, e2, e3, e4, e5⟩ := b3 i hi hw
        refine ⟨o1, e1, e2, ?_, e3, e5⟩
        have hlt := (List.getElem?_eq_some_iff.1 e4).1
        rw [List.getElem?_append_left hlt, e4]
      · have hj : p - T.length < news.length := by simp [b1, n1] at h2; omega
        obtain ⟨o, hge, e1, e2, e3, e4⟩ := n2 _ hj
        have hmem : news.getD (p - T.length) 0 ∈ news := by rw [getD_el hj]; exact List.getElem_mem _
        have hidx := idxN_get hmem
        have hpos : idxN news (news.getD (p - T.length) 0) = p - T.length := nodup_getD nd2 hidx.1 hj hidx.2
        refine ⟨_, o, hge, by simp only [liveR]; rw [memN_ok.2 hmem, Bool.or_true], by rw [hnew _ hge, hpos]; omega, e1, e2, ?_, e3⟩
        rw [List.getElem?_append_right (by omega), b1, e4]
      · rw [hnew i hi]
        have := (idxN_get (hlive i hi h)).1
        simp [b1, n1]; omega
      · rw [hnew i hi, hnew j hj] at he
        have e1 := (idxN_get (hlive i hi h)).2
        have e2 := (idxN_get (hlive j hj h')).2
        rw [← e1, ← e2]
        congr 1; omega
      · exact fun a ha => idsInL_mem (idsInL_ren (live := fun p => memN p fps) (fun p hp => by simpa using (idxN_get (memN_ok.1 hp)).1) args k3) a ha
      · intro i hi
        exact backed_ok hr hvs k4 (fun q hq => by cases hq) _ (by rw [getD_el hi]; exact List.getElem_mem _)

/-- what has to be shown of a specification -/
def SmOkF (P : Program) (gl : Nat → Option AVal) (f : FuncId) (sm : Summary) : Prop := ∀ args T0, allP (sm args T0).cs → SmallF P gl f args T0 (sm args T0).val (sm args T0).tab
theorem callRF_ok {P : Program} {gl : Nat → Option AVal} {f : FuncId} {sm : Summary} (h : SmOkF P gl f sm) (wr : List Bool) : SumOk P gl f (callRF sm wr) := by
  refine sumOk_of fun args T hc ν w vs hr hv => ?_
  unfold callRF at hc ⊢
  generalize reachGo T 1000 (idsVs [] args) [] = fps at hc ⊢
  unfold callFF at hc ⊢
  cases hT0 : smallR T wr fps fps 0 with
  | none => rw [hT0] at hc; exact absurd hc (by simp [fail, allP, Con.h])
  | some T0 =>
    rw [hT0] at hc
    simp only at hc ⊢
    unfold callGoRF at hc ⊢
    have h1 := h (rens (idxN fps) args) T0
    generalize sm (rens (idxN fps) args) T0 = r at h1 hc ⊢
    obtain ⟨cs, v, T1⟩ := r
    exact callGoNF_ok hT0 h1 hc hr hv
end Go.Abs
