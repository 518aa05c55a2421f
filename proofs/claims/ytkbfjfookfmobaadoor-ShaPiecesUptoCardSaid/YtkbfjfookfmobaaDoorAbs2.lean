/- An abstract machine over small tables of objects, and its soundness over the given model: no condition. -/
import Derived.Test.YtkbfjfookfmobaaDoorAbs1
import Derived.Below
import Derived.ChangeSame
import Derived.SizedLaws
import Derived.WideKeyArgs
import Derived.OpenShut
import Derived.ChangeSlices
import Derived.WalkKit
import Derived.ProofKit
import Derived.Deep.DeepHandedRow
import Derived.Lib.LaidTab
import Derived.Lib.SmallJoins
import Derived.RangeFuncNested
import Derived.Lib.MakeNoZero
import Derived.Laws.Externs
set_option linter.unusedVariables false
set_option linter.unusedSimpArgs false
namespace Go.Abs

/-! ## Calls on the objects that the arguments reach -/
theorem nth_iff : ∀ {T : Tab} {p : Nat} {o : AObj}, nth T p = some o ↔ T[p]? = some (some o)
  | [], p, o => by simp [nth]
  | x :: r, 0, o => by simp [nth]
  | x :: r, p + 1, o => by simpa [nth] using nth_iff (T := r) (p := p) (o := o)

def reachGo (T : Tab) : Nat → List Nat → List Nat → List Nat
  | 0, _, acc => acc
  | _ + 1, [], acc => acc
  | f + 1, p :: r, acc => match memN p acc with
    | true => reachGo T f r acc
    | false => match nth T p with
      | some o => reachGo T f (r ++ idsV [] o.data) (acc ++ [p])
      | none => acc ++ [p]

def anyObj (T : Tab) (p : Nat) : List Nat → Bool
  | [] => false
  | q :: r => (match nth T q with | some o => hasId p o.data | none => false) || anyObj T p r
def backed (args : List AVal) (T : Tab) : List Nat → List Nat → Bool
  | _, [] => true
  | e, p :: r => (allHas.anyHas p args || anyObj T p e) && backed args T (p :: e) r

theorem hasId_get {p : Nat} {d : AVal} (hd : IsData d) (h : hasId p d = true) : ∃ i, i < d.len ∧ hasId p (d.get i) = true := by
  cases hd with
  | ints k xs => simp [hasId, idsIn] at h
  | agg vs =>
    refine Classical.byContradiction fun hn => ?_
    have : idsInL (fun q => !Nat.beq q p) vs = true := idsInL_of fun i hi => by
      have h1 : ¬ hasId p (vs.getD i un) = true := fun h2 => hn ⟨i, hi, h2⟩
      simpa [hasId] using h1
    simp [hasId, idsIn, this] at h
  | fam Z => simp [hasId, idsIn] at h
  | frows q g Z vs =>
    refine Classical.byContradiction fun hn => ?_
    have hcell : ∀ i, i < (AVal.frows q g Z vs).len → idsIn (fun q => !Nat.beq q p) ((frowsV q g Z ++ vs).getD i un) = true := fun i hi => by
      have h1 : ¬ hasId p ((AVal.frows q g Z vs).get i) = true := fun h2 => hn ⟨i, hi, h2⟩
      rw [← cells_get (by constructor) hi] at h1
      simpa [hasId, AVal.cells] using h1
    have hv : idsInL (fun q => !Nat.beq q p) vs = true := idsInL_of fun i hi => by
      have := hcell (Z.length + i) (by rw [frows_len]; omega)
      have e : (frowsV q g Z ++ vs).getD (Z.length + i) un = vs.getD i un := by simp [List.getD, List.getElem?_append_right (show (frowsV q g Z).length ≤ Z.length + i by rw [frowsV_len]; omega), frowsV_len]
      rwa [e] at this
    cases Z with
    | nil => simp [hasId, idsIn, hv] at h
    | cons z Z =>
      have := hcell 0 (by rw [frows_len]; simp; omega)
      have e : (frowsV q g (z :: Z) ++ vs).getD 0 un = .frow q g 0 ((z :: Z).getD 0 []).length := by
        rw [← frowsV_get q g (z :: Z) (by simp)]; simp [List.getD, List.getElem?_append_left (show 0 < (frowsV q g (z :: Z)).length by rw [frowsV_len]; simp)]
      rw [e] at this
      simp only [idsIn] at this
      simp [hasId, idsIn, hv, this] at h
theorem anyObj_ok {T : Tab} {p : Nat} : ∀ {l : List Nat}, anyObj T p l = true → ∃ q ∈ l, ∃ o, T[q]? = some (some o) ∧ hasId p o.data = true
  | q :: r, h => by
    simp only [anyObj, Bool.or_eq_true] at h
    rcases h with h | h
    · split at h
      · rename_i o ho; exact ⟨q, .head _, o, nth_iff.1 ho, h⟩
      · cases h
    · obtain ⟨q', h1, h2⟩ := anyObj_ok h; exact ⟨q', .tail _ h1, h2⟩
theorem backed_ok {gl : Nat → Option AVal} {ν : Nu} {T : Tab} {w : World} {args : List AVal} {vs : List Value} (hr : HR gl ν T w) (hvs : VRs ν args vs) :
    ∀ {l e : List Nat}, backed args T e l = true → (∀ q ∈ e, (ν q).isSome) → ∀ q ∈ l, (ν q).isSome
  | [], e, h, he, q, hq => by cases hq
  | p :: r, e, h, he, q, hq => by
    simp only [backed, Bool.and_eq_true, Bool.or_eq_true] at h
    have hp : (ν p).isSome := by
      rcases h.1 with h1 | h1
      · obtain ⟨a, ha, hp⟩ := anyHas_ok h1
        obtain ⟨j, hj⟩ := List.mem_iff_getElem?.1 ha
        have hlt := (List.getElem?_eq_some_iff.1 hj).1
        have := hvs.2 j hlt
        rw [show args.getD j un = a by simp [List.getD, hj]] at this
        exact this.hasId hp
      · obtain ⟨q', h2, o, ho, hd⟩ := anyObj_ok h1
        obtain ⟨l, hl⟩ := Option.isSome_iff_exists.1 (he q' h2)
        have hdd := (hr.obj q' o l ho hl).2.1
        obtain ⟨i, hi, hid⟩ := hasId_get hdd hd
        obtain ⟨x, _, hx⟩ := hr.read ho hl hi
        exact hx.hasId hid
    rcases List.mem_cons.1 hq with rfl | hq
    · exact hp
    · refine backed_ok hr hvs h.2 (fun q' hq' => ?_) q hq
      rcases List.mem_cons.1 hq' with rfl | hq'
      · exact hp
      · exact he q' hq'

/-- the small table: all that is reached; what may be written stays its own -/
def smallR (T : Tab) (wr : List Bool) (fps : List Nat) : List Nat → Nat → Option Tab
  | [], _ => some []
  | p :: r, i => match nth T p, smallR T wr fps r (i + 1) with
    | some ⟨d, g, ow, et⟩, some T0 => match idsIn (fun q => memN q fps) d with
      | true => some (some ⟨ren (idxN fps) d, g, nthB wr i && ow, et⟩ :: T0)
      | false => none
    | _, _ => none
theorem smallR_ok {T : Tab} {wr : List Bool} {fps : List Nat} : ∀ {l : List Nat} {i : Nat} {T0 : Tab}, smallR T wr fps l i = some T0 → T0.length = l.length ∧ ∀ j, j < l.length → ∃ o : AObj, T[l.getD j 0]? = some (some o) ∧ idsIn (fun q => memN q fps) o.data = true ∧
    T0[j]? = some (some ⟨ren (idxN fps) o.data, o.g, nthB wr (i + j) && o.own, o.et⟩)
  | [], i, T0, h => by simp [smallR] at h; subst h; exact ⟨rfl, fun j hj => by simp at hj⟩
  | p :: r, i, T0, h => by
    simp only [smallR] at h
    split at h
    · rename_i d g ow et T1 ho hT1
      obtain ⟨l1, l2⟩ := smallR_ok hT1
      split at h
      · rename_i e1
        injection h with h; subst h
        refine ⟨by simp [l1], fun j hj => ?_⟩
        cases j with
        | zero => exact ⟨_, by simpa using nth_some ho, e1, by simp⟩
        | succ j => simpa [Nat.add_assoc, Nat.add_comm 1 j] using l2 j (by simpa using hj)
      · cases h
    · cases h

/-- what is written back -/
def backR (live : Nat → Bool) (r1 : Nat → Nat) (T0 T1 : Tab) : List Nat → Nat → Tab → Option (List Con × Tab)
  | [], _, T => some ([], T)
  | p :: r, i, T => match nth T0 i, nth T1 i with
    | some o0, some ⟨d, g, ow, et⟩ => match o0.own with
      | true => match ow, idsIn live d && d.noFam with
        | true, true => backR live r1 T0 T1 r (i + 1) (T.set p (some ⟨ren r1 d, g, true, et⟩))
        | _, _ => none
      | false => match backR live r1 T0 T1 r (i + 1) T with
        | some (cs, T') => some (.eqN g o0.g :: cs, T')
        | none => none
    | _, _ => none
def ownAt (T0 : Tab) (i : Nat) : Prop := ∃ o : AObj, T0[i]? = some (some o) ∧ o.own = true
theorem backR_ok {live : Nat → Bool} {r1 : Nat → Nat} {T0 T1 : Tab} : ∀ {l : List Nat} {i : Nat} {T : Tab} {cs : List Con} {T' : Tab}, backR live r1 T0 T1 l i T = some (cs, T') → allP cs → l.Nodup → (∀ p ∈ l, p < T.length) →
    T'.length = T.length ∧ (∀ p, (∀ j, j < l.length → ownAt T0 (i + j) → p ≠ l.getD j 0) → T'[p]? = T[p]?) ∧
    (∀ j, j < l.length → ownAt T0 (i + j) → ∃ o1, T1[i + j]? = some (some o1) ∧ o1.own = true ∧ idsIn live o1.data = true ∧ T'[l.getD j 0]? = some (some (renO r1 o1)) ∧ o1.data.noFam = true) ∧
    (∀ j, j < l.length → ¬ ownAt T0 (i + j) → ∃ o0 o1, T0[i + j]? = some (some o0) ∧ T1[i + j]? = some (some o1) ∧ o1.g = o0.g)
  | [], i, T, cs, T', h, hc, hn, hl => by
    simp [backR] at h; obtain ⟨_, rfl⟩ := h
    exact ⟨rfl, fun p _ => rfl, fun j hj => by simp at hj, fun j hj => by simp at hj⟩
  | p :: r, i, T, cs, T', h, hc, hn, hl => by
    simp only [backR] at h
    obtain ⟨hn1, hn2⟩ := List.nodup_cons.1 hn
    split at h
    · rename_i o0 d g ow et h0 h1
      have h0 := nth_iff.1 h0
      have h1 := nth_iff.1 h1
      split at h
      · rename_i hw
        have hown : ownAt T0 i := ⟨o0, h0, hw⟩
        split at h
        · have e2 : (idsIn live d && d.noFam) = true := by assumption
          simp only [Bool.and_eq_true] at e2
          obtain ⟨e2, e3⟩ := e2
          obtain ⟨a1, a2, a3, a4⟩ := backR_ok h hc hn2 (fun q hq => by simpa using hl q (.tail _ hq))
          refine ⟨by simpa using a1, fun q hq => ?_, fun j hj hwj => ?_, fun j hj hwj => ?_⟩
          · rw [a2 q (fun j hj hwj => by
              have := hq (j + 1) (by simpa using hj) (by rwa [show i + (j + 1) = i + 1 + j by omega])
              simpa using this)]
            have := hq 0 (by simp) (by simpa using hown)
            rw [List.getElem?_set_ne]
            simp at this; exact fun e => this e.symm
          · cases j with
            | zero =>
              refine ⟨⟨d, g, true, et⟩, by simpa using h1, rfl, e2, ?_, e3⟩
              simp only [List.getD_cons_zero]
              rw [a2 p (fun j hj _ => fun e => hn1 (by rw [e, getD_el hj]; exact List.getElem_mem _))]
              rw [List.getElem?_set_self (hl p (.head _))]
              rfl
            | succ j => simpa [Nat.add_assoc, Nat.add_comm 1 j] using a3 j (by simpa using hj) (by rwa [show i + 1 + j = i + (j + 1) by omega])
          · cases j with
            | zero => exact absurd hown (by simpa using hwj)
            | succ j => simpa [Nat.add_assoc, Nat.add_comm 1 j] using a4 j (by simpa using hj) (by rwa [show i + 1 + j = i + (j + 1) by omega])
        · cases h
      · rename_i hw
        have hown : ¬ ownAt T0 i := by
          rintro ⟨o, e1, e2⟩
          rw [h0] at e1; injection e1 with e1; injection e1 with e1; subst e1
          rw [hw] at e2; cases e2
        split at h
        · rename_i cs' T2 hb
          injection h with h; injection h with e1 e2; subst e1 e2
          obtain ⟨a1, a2, a3, a4⟩ := backR_ok hb hc.2 hn2 (fun q hq => hl q (.tail _ hq))
          refine ⟨a1, fun q hq => a2 q (fun j hj hwj => ?_), fun j hj hwj => ?_, fun j hj hwj => ?_⟩
          · have := hq (j + 1) (by simpa using hj) (by rwa [show i + (j + 1) = i + 1 + j by omega])
            simpa using this
          · cases j with
            | zero => exact absurd (by simpa using hwj) hown
            | succ j => simpa [Nat.add_assoc, Nat.add_comm 1 j] using a3 j (by simpa using hj) (by rwa [show i + 1 + j = i + (j + 1) by omega])
          · cases j with
            | zero => exact ⟨o0, ⟨d, g, ow, et⟩, by simpa using h0, by simpa using h1, hc.1⟩
            | succ j => simpa [Nat.add_assoc, Nat.add_comm 1 j] using a4 j (by simpa using hj) (by rwa [show i + 1 + j = i + (j + 1) by omega])
        · cases h
    · cases h

/-- the new objects that are reached -/
def newsGo (k : Nat) (T1 : Tab) : Nat → List Nat → List Nat → List Nat
  | 0, _, acc => acc
  | _ + 1, [], acc => acc
  | f + 1, p :: r, acc => match Nat.blt p k || memN p acc with
    | true => newsGo k T1 f r acc
    | false => match nth T1 p with
      | some o => newsGo k T1 f (r ++ idsV [] o.data) (acc ++ [p])
      | none => acc ++ [p]
def ownIds : Tab → Tab → List Nat
  | some o0 :: T0, some o1 :: T1 => match o0.own with
    | true => idsV [] o1.data ++ ownIds T0 T1
    | false => ownIds T0 T1
  | _ :: T0, _ :: T1 => ownIds T0 T1
  | _, _ => []
def newsR (k : Nat) (live : Nat → Bool) (r1 : Nat → Nat) (T1 : Tab) : List Nat → Option Tab
  | [] => some []
  | q :: r => match nth T1 q, newsR k live r1 T1 r with
    | some ⟨d, g, ow, et⟩, some N => match ow, idsIn live d && d.noFam, Nat.ble k q with
      | true, true, true => some (some ⟨ren r1 d, g, true, et⟩ :: N)
      | _, _, _ => none
    | _, _ => none
theorem newsR_ok {k : Nat} {live : Nat → Bool} {r1 : Nat → Nat} {T1 : Tab} : ∀ {l : List Nat} {N : Tab}, newsR k live r1 T1 l = some N → N.length = l.length ∧ ∀ j, j < l.length → ∃ o, k ≤ l.getD j 0 ∧ T1[l.getD j 0]? = some (some o) ∧ o.own = true ∧ idsIn live o.data = true ∧ N[j]? = some (some (renO r1 o)) ∧ o.data.noFam = true
  | [], N, h => by simp [newsR] at h; subst h; exact ⟨rfl, fun j hj => by simp at hj⟩
  | q :: r, N, h => by
    simp only [newsR] at h
    split at h
    · rename_i d g ow et N' ho hN
      split at h
      · rename_i e1 e2
        simp only [Bool.and_eq_true] at e1
        obtain ⟨e1, e3⟩ := e1
        injection h with h; subst h
        obtain ⟨l1, l2⟩ := newsR_ok hN
        refine ⟨by simp [l1], fun j hj => ?_⟩
        cases j with
        | zero => exact ⟨_, Nat.le_of_ble_eq_true e2, by simpa using nth_some ho, rfl, e1, by simp [renO], e3⟩
        | succ j => simpa using l2 j (by simpa using hj)
      · cases h
    · cases h

def liveR (k : Nat) (news : List Nat) (i : Nat) : Bool := Nat.blt i k || memN i news
def callGoN (news : List Nat) (cs : List Con) (v : AVal) (T1 : Tab) (fps : List Nat) (args : List AVal) (T T0 : Tab) : Res :=
  match newsR fps.length (liveR fps.length news) (backId fps news T.length) T1 news, backR (liveR fps.length news) (backId fps news T.length) T0 T1 fps 0 T with
  | some N, some (cs2, T2) =>
    match nodupN fps && nodupN news && idsInL (fun p => memN p fps) args && backed args T [] fps && idsIn (liveR fps.length news) v with
    | true => ⟨cs2 ++ cs, ren (backId fps news T.length) v, T2 ++ N⟩
    | false => fail
  | _, _ => fail
def callGoR (sm : Res) (fps : List Nat) (args : List AVal) (T T0 : Tab) : Res :=
  match sm with
  | ⟨cs, v, T1⟩ => callGoN (newsGo fps.length T1 1000 (idsV [] v ++ ownIds T0 T1) []) cs v T1 fps args T T0
def callF (sm : Summary) (wr : List Bool) (fps : List Nat) (args : List AVal) (T : Tab) : Res :=
  match smallR T wr fps fps 0 with
  | some T0 => callGoR (sm (rens (idxN fps) args) T0) fps args T T0
  | none => fail
/-- a call: the callee on a small table of what the arguments reach -/
def callR (sm : Summary) (wr : List Bool) : Summary := fun args T => callF sm wr (reachGo T 1000 (idsVs [] args) []) args T

theorem callGoN_ok {P : Program} {gl : Nat → Option AVal} {f : FuncId} {args : List AVal} {T T0 T1 : Tab} {wr : List Bool} {fps news : List Nat} {ν : Nu} {w : World} {vs : Array Value} {cs : List Con} {v : AVal}
    (hT0 : smallR T wr fps fps 0 = some T0) (hS : allP cs → Small P gl f (rens (idxN fps) args) T0 v T1) (hc : allP (callGoN news cs v T1 fps args T T0).cs) (hr : HR gl ν T w) (hvs : VRs ν args vs.toList) :
    Calls P f vs w fun e w' => ∃ x, e = .returned x ∧ OpPost gl ν T w T.length ⟨[], (callGoN news cs v T1 fps args T T0).val, (callGoN news cs v T1 fps args T T0).tab⟩ x w' := by
  unfold callGoN at hc ⊢
  have nofail : ¬ allP fail.cs := by simp [fail, allP, Con.h]
  cases hN : newsR fps.length (liveR fps.length news) (backId fps news T.length) T1 news with
  | none => simp only [hN] at hc; exact absurd hc nofail
  | some N =>
    cases hB : backR (liveR fps.length news) (backId fps news T.length) T0 T1 fps 0 T with
    | none => simp only [hN, hB] at hc; exact absurd hc nofail
    | some q =>
      obtain ⟨cs2, T2⟩ := q
      simp only [hN, hB] at hc ⊢
      split at hc
      rotate_left
      · exact absurd hc nofail
      rename_i hck
      simp only [hck]
      simp only [Bool.and_eq_true] at hck
      obtain ⟨⟨⟨⟨k1, k2⟩, k3⟩, k4⟩, k5⟩ := hck
      rw [allP_append] at hc
      have hsm := hS hc.2
      have nd1 := nodupN_ok k1
      have nd2 := nodupN_ok k2
      obtain ⟨s1, s2⟩ := smallR_ok hT0
      obtain ⟨n1, n2⟩ := newsR_ok hN
      simp only [Nat.zero_add] at s2
      have hin : ∀ p ∈ fps, p < T.length := fun p hp => by
        obtain ⟨h1, h2⟩ := idxN_get hp
        obtain ⟨o, h3, _⟩ := s2 _ h1
        rw [h2] at h3
        exact (List.getElem?_eq_some_iff.1 h3).1
      obtain ⟨b1, b2, b3, b4⟩ := backR_ok hB hc.1 nd1 hin
      simp only [Nat.zero_add] at b2 b3 b4
      have hold : ∀ i, i < fps.length → backId fps news T.length i = fps.getD i 0 := fun i hi => by
        have : Nat.blt i fps.length = true := by simpa using hi
        simp only [backId, this, nthN_eq]
      have hnew : ∀ i, fps.length ≤ i → backId fps news T.length i = T.length + idxN news i := fun i hi => by
        have : Nat.blt i fps.length = false := by
          cases hb : Nat.blt i fps.length with
          | false => rfl
          | true => have : i < fps.length := by simpa using hb
                    omega
        simp [backId, this]
      have args_back : (rens (idxN fps) args).map (ren fun i => fps.getD i 0) = args := by
        rw [← rens_map]
        exact rens_rens (live := fun p => memN p fps) (fun p hp => (idxN_get (memN_ok.1 hp)).2) args k3
      have hlive : ∀ i, fps.length ≤ i → liveR fps.length news i = true → i ∈ news := fun i hi h => by
        simp only [liveR, Bool.or_eq_true] at h
        rcases h with h | h
        · have : i < fps.length := by simpa using h
          omega
        · exact memN_ok.1 h
      have := embed (k := fps.length) (T' := T2 ++ N) (fp := fun i => fps.getD i 0) (r1 := backId fps news T.length) (own0 := ownAt T0) (live := liveR fps.length news) hsm
        ⟨s1, fun i hi => ?_, fun i j hi hj hne _ he => hne (nodup_getD nd1 hi hj he)⟩
        ⟨by simp [b1], fun p hp hno => ?_, fun i hi hw => ?_, fun i hi hw => b4 i hi hw, fun p h1 h2 => ?_, fun i hi => ⟨by simp [liveR, hi], hold i hi⟩, fun i hi h => ?_, fun i j hi hj h h' he => ?_⟩
        ?_ k5 hr (by rw [args_back]; exact hvs) ?_
      · exact this
      · obtain ⟨o, e1, e2, e3⟩ := s2 i hi
        refine ⟨_, o, e3, e1, rfl, ?_, ?_, fun h => ?_, ?_⟩
        · exact (ren_ren (live := fun p => memN p fps) (fun p hp => (idxN_get (memN_ok.1 hp)).2) _ e2).symm
        · exact idsIn_ren (live := fun p => memN p fps) (fun p hp => by simpa using (idxN_get (memN_ok.1 hp)).1) _ e2
        · simp only [Bool.and_eq_true] at h; exact ⟨h.2, rfl⟩
        · exact ⟨fun h => ⟨_, e3, h⟩, fun ⟨o', h1, h2⟩ => by rw [e3] at h1; injection h1 with h1; injection h1 with h1; subst h1; exact h2⟩
      · rw [List.getElem?_append_left (by omega)]
        exact b2 p fun j hj hw => hno j hj hw
      · obtain ⟨o1, e1, e2, e3, e4, e5⟩ := b3 i hi hw
        refine ⟨o1, e1, e2, ?_, e3, e5⟩
        have hlt := (List.getElem?_eq_some_iff.1 e4).1
        rw [List.getElem?_append_left hlt, e4]
      · have hj : p - T.length < news.length := by simp [b1, n1] at h2; omega
        obtain ⟨o, hge, e1, e2, e3, e4, e5⟩ := n2 _ hj
        have hmem : news.getD (p - T.length) 0 ∈ news := by rw [getD_el hj]; exact List.getElem_mem _
        have hidx := idxN_get hmem
        have hpos : idxN news (news.getD (p - T.length) 0) = p - T.length := nodup_getD nd2 hidx.1 hj hidx.2
        refine ⟨_, o, hge, by simp only [liveR]; rw [memN_ok.2 hmem, Bool.or_true], by rw [hnew _ hge, hpos]; omega, e1, e2, ?_, e3, e5⟩
        rw [List.getElem?_append_right (by omega), b1, e4]
      · rw [hnew i hi]
        have := (idxN_get (hlive i hi h)).1
        simp [b1, n1]; omega
      · rw [hnew i hi, hnew j hj] at he
        have e1 := (idxN_get (hlive i hi h)).2
        have e2 := (idxN_get (hlive j hj h')).2
        rw [← e1, ← e2]
        congr 1; omega
      · exact fun a ha => idsInL_mem (idsInL_ren (live := fun p => memN p fps) (fun p hp => by simpa using (idxN_get (memN_ok.1 hp)).1) args k3) a ha
      · intro i hi
        exact backed_ok hr hvs k4 (fun q hq => by cases hq) _ (by rw [getD_el hi]; exact List.getElem_mem _)

/-- what has to be shown of a specification -/
def SmOk (P : Program) (gl : Nat → Option AVal) (f : FuncId) (sm : Summary) : Prop := ∀ args T0, allP (sm args T0).cs → Small P gl f args T0 (sm args T0).val (sm args T0).tab
theorem callR_ok {P : Program} {gl : Nat → Option AVal} {f : FuncId} {sm : Summary} (h : SmOk P gl f sm) (wr : List Bool) : SumOk P gl f (callR sm wr) := by
  refine sumOk_of fun args T hc ν w vs hr hv => ?_
  unfold callR at hc ⊢
  generalize reachGo T 1000 (idsVs [] args) [] = fps at hc ⊢
  unfold callF at hc ⊢
  cases hT0 : smallR T wr fps fps 0 with
  | none => rw [hT0] at hc; exact absurd hc (by simp [fail, allP, Con.h])
  | some T0 =>
    rw [hT0] at hc
    simp only at hc ⊢
    unfold callGoR at hc ⊢
    have h1 := h (rens (idxN fps) args) T0
    generalize sm (rens (idxN fps) args) T0 = r at h1 hc ⊢
    obtain ⟨cs, v, T1⟩ := r
    exact callGoN_ok hT0 h1 hc hr hv
/-- a body's run, as such -/
def smRun (m : Mode) (E : Env) (fn : Func) (orc : OrcL) (fuel : Nat) (ds : List (Option Bool)) : Summary := fun args T0 => settled m (runF E fn orc fuel args T0 ds)
theorem smRun_ok {m : Mode} {E : Env} (hE : EnvOk E) (hm : E.P.follows .mixedOrders = true) {f : FuncId} {fn : Func} (hf : E.P.funcs[f]? = some fn) (hb : fn.body.isSome = true) (orc : OrcL) (hO : FnOrc E fn orc) (fuel : Nat) (ds : List (Option Bool)) : SmOk E.P E.gl f (smRun m E fn orc fuel ds) := by
  intro args T0 hc
  unfold smRun at hc ⊢
  obtain ⟨h1, h2, h3⟩ := settled_ok hc
  rw [h2, h3]
  exact runF_small hE hm hf hb orc hO fuel ds h1
/-- a function's summary: its body, run at the call -/
def sumI (m : Mode) (E : Env) (fn : Func) (orc : OrcL) (fuel : Nat) (ds : List (Option Bool)) (wr : List Bool) : Summary := callR (smRun m E fn orc fuel ds) wr
theorem sumI_ok {m : Mode} {E : Env} (hE : EnvOk E) (hm : E.P.follows .mixedOrders = true) {f : FuncId} {fn : Func} (hf : E.P.funcs[f]? = some fn) (hb : fn.body.isSome = true) (orc : OrcL) (hO : FnOrc E fn orc) (fuel : Nat) (ds : List (Option Bool)) (wr : List Bool) :
    SumOk E.P E.gl f (sumI m E fn orc fuel ds wr) := callR_ok (smRun_ok hE hm hf hb orc hO fuel ds) wr
end Go.Abs

set_option linter.unusedVariables false
set_option linter.unusedSimpArgs false
namespace Go.Abs

/-! ## Words for proofs: nothing here unfolds by itself -/
structure Ok (o : Out) : Prop where h : allP o.cs
structure OkR (r : Res) : Prop where h : allP r.cs
def To (E : Env) (n k : Nat) (c : Code) (fm : Fm) (T : Tab) (ex : AExit) (fm' : Fm) (T' : Tab) : Prop := AWp E n k c fm T fun e f t => e = ex ∧ f = fm' ∧ t = T'

theorem Ok.of {o : Out} {cs : List Con} (e : o.cs = cs) (h : allP cs) : Ok o := ⟨e ▸ h⟩
theorem OkR.of {o : Res} {cs : List Con} (e : o.cs = cs) (h : allP cs) : OkR o := ⟨e ▸ h⟩
theorem To.is {E : Env} {n k : Nat} {c : Code} {fm : Fm} {T : Tab} {o : Out} (h : To E n k c fm T o.ex o.fm o.tab) : AWp E n k c fm T (Is o) := h
theorem To.of {E : Env} (hE : EnvOk E) (hm : E.P.follows .mixedOrders = true) {n k m : Nat} {orc : Orc} (hk : k ≤ orc.kb) {c : Code} (hO : OrcOk E n orc c) {f : Nat} {fm : Fm} {T : Tab} {ds : List (Option Bool)} {slots : List Nat} {o : Out}
    (ho : trim k m slots (run E n orc f c fm T ds) = o) (h : Ok o) {ex : AExit} {fm' : Fm} {T' : Tab} (e1 : o.ex = ex) (e2 : o.fm = fm') (e3 : o.tab = T') : To E n k c fm T ex fm' T' := by
  subst e1 e2 e3
  exact run_trim' hE hm m orc hk hO f ds slots ho h.h
theorem To.base {E : Env} {n k kb : Nat} {c : Code} {fm : Fm} {T : Tab} {ex : AExit} {fm' : Fm} {T' : Tab} (hk : k ≤ kb) (h : To E n kb c fm T ex fm' T') : To E n k c fm T ex fm' T' := AWp.base hk h

/-- a counted loop in its block, and out of it -/
theorem To.rounds {E : Env} {n k : Nat} {id : Nat} {c : Code} (F : Nat → Fm) (T : Nat → Tab) (N : Nat) {fm' : Fm} {T' : Tab}
    (round : ∀ i, i < N → To E n k c (F i) (T i) .normal (F (i + 1)) (T (i + 1))) (last : To E n k c (F N) (T N) (.exit id) fm' T') : To E n k (.block id (.loop c)) (F 0) (T 0) .normal fm' T' := by
  refine AWp.block ?_
  refine AWp.loop (fun fm T' m => ∃ i, i ≤ N ∧ m = N - i ∧ fm = F i ∧ T' = T i) N ⟨0, Nat.zero_le _, rfl, rfl, rfl⟩ ?_
  rintro fm T1 m ⟨i, hi, rfl, rfl, rfl⟩
  rcases Nat.lt_or_ge i N with hlt | hge
  · refine (round i hlt).mono fun ex fm1 T1 ⟨e1, e2, e3⟩ => ?_
    subst e1 e2 e3
    exact ⟨N - (i + 1), by omega, i + 1, hlt, rfl, rfl, rfl⟩
  · have : i = N := by omega
    subst this
    refine last.mono fun ex fm1 T1 ⟨e1, e2, e3⟩ => ?_
    subst e1 e2 e3
    simp
/-- the values of some slots -/
def pickV (m : Nat) (fm : Fm) : List Nat → Option (List AVal)
  | [] => some []
  | t :: r => match look fm t, pickV m fm r with
    | some v, some vs => match idsIn (fun i => Nat.blt i m) v with
      | true => some (v :: vs)
      | false => none
    | _, _ => none
def zipF : List Nat → List AVal → Fm
  | t :: r, v :: vs => (t, v) :: zipF r vs
  | _, _ => []
theorem pickV_ok {m : Nat} {fm : Fm} : ∀ {l : List Nat} {vs : List AVal}, pickV m fm l = some vs → pickF m fm l = some (zipF l vs)
  | [], vs, h => by simp [pickV] at h; subst h; rfl
  | t :: r, vs, h => by
    simp only [pickV] at h
    split at h
    · rename_i v us h1 h2
      split at h
      · rename_i h3
        injection h with h; subst h
        simp only [pickF, h1, pickV_ok h2, h3, zipF]
      · cases h
    · cases h
/-- what is told of a block, by the values of some slots and the first m objects -/
def blkS (m : Nat) (slots : List Nat) (g : List AVal → Tab → Out) : Nat → Fm → Tab → List (Option Bool) → Out := fun kb fm T ds =>
  match Nat.ble kb m && (Nat.ble m T.length && tabIn m (takeT m T)), pickV m fm slots with
  | true, some vs => match g vs (takeT m T) with
    | ⟨cs, ex, fm', T', _⟩ => ⟨cs, ex, fm', T', ds⟩
  | _, _ => failO
theorem blkS_ok {E : Env} {fn : Func} {id : Nat} {c : Code} {m : Nat} {slots : List Nat} {g : List AVal → Tab → Out}
    (hg : ∀ vs T, Ok (g vs T) → To E fn.ntmps m (.block id c) (zipF slots vs) T (g vs T).ex (g vs T).fm (g vs T).tab) : BlkOk E fn id c (blkS m slots g) := by
  intro kb fm T ds hc
  unfold blkS at hc ⊢
  cases hb : Nat.ble kb m && (Nat.ble m T.length && tabIn m (takeT m T)) with
  | false => rw [hb] at hc; exact absurd hc failO_no
  | true =>
    cases hp : pickV m fm slots with
    | none => rw [hb, hp] at hc; exact absurd hc failO_no
    | some vs =>
      rw [hb, hp] at hc
      simp only at hc ⊢
      have h1 := hg vs (takeT m T)
      generalize g vs (takeT m T) = o at h1 hc ⊢
      obtain ⟨cs, ex, fm', T', ds'⟩ := o
      simp only [Bool.and_eq_true] at hb
      refine AWp.base (Nat.le_of_ble_eq_true hb.1) ?_
      exact AWp.enter (k := m) (m := m) (pickV_ok hp) (by simp only [Bool.and_eq_true]; exact ⟨⟨Nat.ble_eq_true_of_le (Nat.le_refl m), hb.2.1⟩, hb.2.2⟩) (h1 ⟨hc⟩)

/-- nothing is a slice of an empty object -/
theorem AWp.nilTo {E : Env} {n k : Nat} {c : Code} {fm : Fm} (fm' : Fm) {T : Tab} {post : AExit → Fm → Tab → Prop} (kk : IntKind) (et : TypeId)
    (hf : ∀ t v, look fm' t = some v → look fm t = some v ∨ (look fm t = some .nilSlice ∧ ∃ sz, v = .slice sz T.length 0 0 0 none))
    (h : AWp E n k c fm' (T ++ [some ⟨.ints kk [], 0, true, et⟩]) post) : AWp E n k c fm T post := by
  intro rr D ν a w hs hrd
  have hn : ν T.length = none := by
    cases hν : ν T.length with
    | none => rfl
    | some l => have := hs.hr.lt _ l hν; omega
  obtain ⟨l0, hl0⟩ : ∃ l0 : Loc, l0 = ⟨⟨0, 0, none⟩, 0, 0⟩ := ⟨_, rfl⟩
  have hm : NuLe ν (upd ν T.length l0) := NuLe.upd_new (ν := ν) l0 hn
  have same : ∀ p, p ≠ T.length → upd ν T.length l0 p = ν p := fun p hp => upd_other ν l0 hp
  have self : upd ν T.length l0 T.length = some l0 := upd_same ν _ l0
  have getT : ∀ p o, (T ++ [some (⟨.ints kk [], 0, true, et⟩ : AObj)])[p]? = some o → (p < T.length ∧ T[p]? = some o) ∨ (p = T.length ∧ o = some ⟨.ints kk [], 0, true, et⟩) := by
    intro p o ho
    rcases Nat.lt_or_ge p T.length with hp | hp
    · rw [List.getElem?_append_left hp] at ho; exact .inl ⟨hp, ho⟩
    · rw [List.getElem?_append_right hp] at ho
      have hlt := (List.getElem?_eq_some_iff.1 ho).1
      have hp0 : p = T.length := by simp at hlt; omega
      subst hp0
      simp at ho
      exact .inr ⟨rfl, ho.symm⟩
  have hown : ∀ b, Own (upd ν T.length l0) (T ++ [some ⟨.ints kk [], 0, true, et⟩]) b → Own ν T b := by
    rintro b ⟨p, o, l, h1, h2, h3, h4, h5⟩
    rcases getT p _ h1 with ⟨hp, h1⟩ | ⟨hp, h1⟩
    · rw [same p (by omega)] at h3; exact ⟨p, o, l, h1, h2, h3, h4, h5⟩
    · subst hp; rw [self] at h3; injection h3 with h3; subst h3; subst hl0; simp at h4
  have hr' : HR E.gl (upd ν T.length l0) (T ++ [some ⟨.ints kk [], 0, true, et⟩]) w := by
    refine ⟨fun p o l ho hl => ?_, fun p l hl => ?_, fun p hp => ?_, fun p l hl h0 => ?_, fun p q o o' l l' ho ho' hw hne hl hl' h0 h0' => ?_, fun b d hb => ?_, fun p o l ho hl => ?_⟩
    · rcases getT p _ ho with ⟨hp, h1⟩ | ⟨hp, h1⟩
      · rw [same p (by omega)] at hl
        obtain ⟨g1, g2⟩ := hs.hr.obj p o l h1 hl
        exact ⟨g1, g2.kept hm fun _ => rfl⟩
      · subst hp; rw [self] at hl; injection hl with hl; subst hl; subst hl0
        injection h1 with h1; subst h1
        exact ⟨rfl, .ints _ _, .inr (.inr ⟨rfl, rfl⟩)⟩
    · by_cases e : p = T.length
      · subst e; simp
      · rw [same p e] at hl; have := hs.hr.lt p l hl; simp; omega
    · rcases getT p _ hp with ⟨hp', h1⟩ | ⟨hp', h1⟩
      · rw [same p (by omega)]; exact hs.hr.hole p h1
      · cases h1
    · by_cases e : p = T.length
      · subst e; rw [self] at hl; injection hl with hl; subst hl; subst hl0; simp at h0
      · rw [same p e] at hl; exact hs.hr.blk p l hl h0
    · rcases getT p _ ho with ⟨hp, h1⟩ | ⟨hp, h1⟩
      · rcases getT q _ ho' with ⟨hq, h2⟩ | ⟨hq, h2⟩
        · rw [same p (by omega)] at hl; rw [same q (by omega)] at hl'
          exact hs.hr.sep p q o o' l l' h1 h2 hw hne hl hl' h0 h0'
        · subst hq; rw [self] at hl'; injection hl' with hl'; subst hl'; subst hl0; simp at h0'
      · subst hp; rw [self] at hl; injection hl with hl; subst hl; subst hl0; simp at h0
    · obtain ⟨h1, h2⟩ := hs.hr.glob b d hb
      exact ⟨fun h3 => h1 (hown b h3), h2⟩
    · rcases getT p _ ho with ⟨hp, h1⟩ | ⟨hp, h1⟩
      · rw [same p (by omega)] at hl
        exact (hs.hr.fam p o l h1 hl).sub hown
      · injection h1 with h1; subst h1
        exact FamOk.no rfl
  have hs' : SRel E D (upd ν T.length l0) fm' (T ++ [some ⟨.ints kk [], 0, true, et⟩]) n a w := by
    refine ⟨hr', fun t v hv => ?_, hs.size, hs.defers⟩
    rcases hf t v hv with h1 | ⟨h1, sz, rfl⟩
    · exact (hs.fm t v h1).mono hm
    · have := hs.fm t _ h1
      generalize a.tmps.getD t undef = x at this ⊢
      cases this
      exact .sliceZ none self (by rw [hl0]) (.inr ⟨rfl, by rw [hl0]; exact Nat.le_refl _⟩)
  refine wpIn_mono (h rr D _ a w hs' hrd) fun e a' w' ⟨ex, f1, T1, ν1, h1, h2, h3, h4, h5⟩ => ⟨ex, f1, T1, ν1, h1, h2, h3, fun p hp l hl => ?_, ?_⟩
  · have := hs.hr.lt p l hl
    exact h4 p hp l (by rw [same p (by omega)]; exact hl)
  · exact ⟨h5.os, h5.tape, h5.output, h5.size, fun b hb hO => h5.block b hb (fun h => hO (hown b h)), fun b hb => (h5.own b hb).imp (hown b) id⟩

open Go.RowKit in
/-! ## Demands: those that are flagged are computed, the same ones compared, the rest shown -/
def chkF : List Bool → List Con → Bool
  | _, [] => true
  | true :: fl, c :: cs => match c.chk modeB with
    | some true => chkF fl cs
    | _ => false
  | _ :: fl, _ :: cs => chkF fl cs
  | [], _ :: _ => false
def restF : List Bool → List Con → List Con
  | true :: fl, _ :: cs => restF fl cs
  | false :: fl, c :: cs => match c with
    | .tab _ _ => restF fl cs
    | .val _ _ => restF fl cs
    | c => c :: restF fl cs
  | _, _ => []
theorem demands : ∀ {fl : List Bool} {cs : List Con}, chkF fl cs = true → lefts cs = rights cs → allP (restF fl cs) → allP cs
  | _, [], _, _, _ => trivial
  | [], _ :: _, h, _, _ => by simp [chkF] at h
  | true :: fl, c :: cs, h1, h2, h3 => by
    simp only [chkF] at h1
    split at h1
    · rename_i hk
      have hc := Con.chk_ok hk
      refine ⟨hc, demands h1 ?_ h3⟩
      cases c <;> simp only [lefts, rights] at h2 ⊢ <;> first | exact h2 | (injection h2)
    · cases h1
  | false :: fl, c :: cs, h1, h2, h3 => by
    simp only [chkF] at h1
    cases c with
    | tab a b =>
      simp only [lefts, rights] at h2
      injection h2 with h4 h5
      exact ⟨h4, demands h1 h5 h3⟩
    | val a b =>
      simp only [lefts, rights] at h2
      injection h2 with h4 h5
      injection h4 with h4 _
      injection h4 with h4
      injection h4 with h4
      exact ⟨h4, demands h1 h5 h3⟩
    | _ => exact ⟨h3.1, demands h1 h2 h3.2⟩
theorem Ok.dem {o : Out} {fl : List Bool} {l : List Con} (h1 : chkF fl o.cs = true) (h2 : lefts o.cs = rights o.cs) (h3 : restF fl o.cs = l) (h : allP l) : Ok o := ⟨demands h1 h2 (h3 ▸ h)⟩
theorem OkR.dem {o : Res} {fl : List Bool} {l : List Con} (h1 : chkF fl o.cs = true) (h2 : lefts o.cs = rights o.cs) (h3 : restF fl o.cs = l) (h : allP l) : OkR o := ⟨demands h1 h2 (h3 ▸ h)⟩

/-- a body's run, as a contract -/
theorem small_of {E : Env} (hE : EnvOk E) (hm : E.P.follows .mixedOrders = true) {f : FuncId} {fn : Func} (hf : E.P.funcs[f]? = some fn) (hb : fn.body.isSome = true) {orc : OrcL} (hO : FnOrc E fn orc) {fuel : Nat} {args : List AVal} {T : Tab} {ds : List (Option Bool)} {R : Res}
    (hR : runF E fn orc fuel args T ds = R) (h : OkR R) {v : AVal} {T1 : Tab} (hv : R.val = v) (ht : R.tab = T1) : Small E.P E.gl f args T v T1 := by
  subst hv ht hR
  exact runF_small hE hm hf hb orc hO fuel ds h.h
theorem nofail : ¬ allP fail.cs := by simp [fail, allP, Con.h]
theorem nofailO : ¬ Ok failO := fun h => failO_no h.h

end Go.Abs
namespace Go.Abs
/-- of a table only the first objects are kept: what came in -/
theorem small_drop {P : Program} {gl : Nat → Option AVal} {f : FuncId} {args : List AVal} {T0 T1 : Tab} {v : AVal} (h : Small P gl f args T0 v T1) (hl : T0.length ≤ T1.length := by (first | exact Nat.zero_le _ | simp)) (hi : tabIn T0.length (takeT T0.length T1) = true := by rfl) (hv : noIds v = true := by rfl) :
    Small P gl f args T0 v (takeT T0.length T1) := by
  intro ν w vs hr hvs
  refine (h ν w vs hr hvs).mono ?_
  rintro e w' ⟨x, ν', rfl, h1, h2, h3, h4⟩
  have hs : SRel ⟨P, fun _ => none, fun _ => none, gl⟩ [] ν' [] T1 0 { tmps := #[], defers := [] } w' := ⟨h2, fun t u hu => by simp [look] at hu, Nat.zero_le _, rfl⟩
  obtain ⟨ν2, s2, e5, e6⟩ := hs.cut (m := T0.length) (f := []) hl (fun t u hu => by simp [look] at hu) hi
  refine ⟨x, ν2, rfl, ?_, s2.hr, fun p hp l hl => ?_, h4.sub e6⟩
  · have := h1.ren (ν' := ν2) (r := id) (live := fun _ => false) (fun i l hb => by cases hb) hv
    rwa [ren_no v hv] at this
  · obtain ⟨l', g1, g2⟩ := h3 p hp l hl
    exact ⟨l', by rw [e5 p hp]; exact g1, g2⟩
end Go.Abs

set_option linter.unusedVariables false
namespace Go.Abs
open Go.RowKit Go.WideShapes Go.ChangeShapes
section
variable {H : Type} {enc : TypeId × Value → H} {P : Program}
theorem post_of_below {f : Func} {s : ChangeSpec} {apart fresh handsOn again : Bool} {W W' : World} {args : Array Value} {v : Value} {ds gs : List (DataW H)} {before pa pv : List MemPlace}
    (hW : DataW.Whole enc P f.params.toList s.vars apart W args.toList ds gs before)
    (hres : ∀ (b : Nat) (sp : Nat → Bool) (hd : Bool), DataW.TrodAll enc P W' b sp hd f.resultTypes.toList (v.resultList f.resultTypes.size) (s.fn H (ds ++ gs)).results [])
    (hargs : ∀ sp : Nat → Bool, (∀ p ∈ before, sp p.block = true) → DataW.TrodAll enc P W' 0 sp true f.params.toList args.toList (s.fn H (ds ++ gs)).args pa)
    (hvars : ∀ sp : Nat → Bool, (∀ p ∈ before, sp p.block = true) → DataW.TrodVars enc P W' sp s.vars (s.fn H (ds ++ gs)).vars pv)
    (hps : before = pa ++ pv) (hb : Below W.heap.size W W')
    (hok : ∀ (j : Nat) (t : TypeId) (r : Value), f.resultTypes[j]? = some t → (v.resultList f.resultTypes.size)[j]? = some r → Value.okWide P W' .any 0 t r) :
    s.post enc P f apart fresh handsOn again W args v W' := by
  have hlt : ∀ p ∈ before, p.block < W.heap.size := fun p hp => hW.lt p hp
  have hold : ∀ p ∈ before, (fun b => decide (b < W.heap.size)) p.block = true := fun p hp => by simpa using hlt p hp
  refine ⟨ds, gs, before, [], pa, pv, hW, hres _ _ _, hargs _ hold, hvars _ hold, World.keptBut_mono (fun p hp => ⟨hp, ?_⟩) (hb.frame (· ∈ before)), fun _ => ?_⟩
  · rw [hps, List.mem_append] at hp
    exact Or.inr hp
  · obtain ⟨_, _, _, _, _, hz, hn⟩ := hW
    refine ⟨hok, _, _, ([] ++ pa) ++ pv, ⟨[] ++ pa, pv, trodAll_append (hargs _ (fun _ _ => rfl)) (hres _ _ _), hvars _ (fun _ _ => rfl), rfl, ?_, ?_⟩, ?_⟩
    · intro b off hp
      have hin : MemPlace.cell b off ∈ before := by rw [hps]; simpa using hp
      rw [hb.frozen (hlt _ hin)]
      exact hz b off hin
    · intro ha
      have := hn ha
      rw [hps] at this
      simpa using this
    · intro p hp _
      rw [hps]
      simpa using hp
end
end Go.Abs

set_option linter.unusedVariables false
set_option linter.unusedSimpArgs false
namespace Go.Abs
open Go.RowKit Go.WideShapes Go.ChangeShapes Go.ChangeAt

/-! ## Rows of laws -/
section
variable {H : Type} {enc : TypeId × Value → H} {P : Program}

theorem trodAll_stays (hl : laidOutB P = true) {W W' : World} {sp' : Nat → Bool} : ∀ {ts : List TypeId} {vs : List Value} {ds : List (DataW H)} {ps : List MemPlace}, (∀ t ∈ ts, P.readableRec t = true ∧ t < P.types.size) →
    DataW.TrodAll enc P W 0 (fun _ => true) true ts vs ds ps → (∀ p ∈ ps, W.sameAt W' p) → (∀ p ∈ ps, sp' p.block = true) → DataW.TrodAll enc P W' 0 sp' true ts vs ds ps
  | [], vs, ds, ps, _, h, _, _ => by
    obtain ⟨rfl, rfl, rfl⟩ := trodAll_nil h
    exact h
  | t :: ts, vs, ds, ps, ht, h, h1, h2 => by
    obtain ⟨v, vs', d, ds', p, q, rfl, rfl, rfl, g1, g2⟩ := trodAll_cons h
    exact trodAll_cons_mk (WideElems.Trod_stays hl (ht t (.head _)).1 (ht t (.head _)).2 g1 (fun p hp => h1 p (List.mem_append_left _ hp)) (fun p hp => h2 p (List.mem_append_left _ hp)))
      (trodAll_stays hl (fun t ht' => ht t (.tail _ ht')) g2 (fun p hp => h1 p (List.mem_append_right _ hp)) (fun p hp => h2 p (List.mem_append_right _ hp)))

theorem sameAt_below {W W' : World} (h : Below W.heap.size W W') {p : MemPlace} (hp : p.block < W.heap.size) : W.sameAt W' p := by
  have hb := h.block p.block hp
  cases p with
  | cell b off => exact World.cell?_of_block hb
  | map b => exact hb

/-- a law's ending: true, and all that came in reads as before -/
theorem law_post {f : Func} {s : ChangeSpec} {tb : TypeId} (hl : laidOutB P = true) (hts : ∀ t ∈ f.params.toList, P.readableRec t = true ∧ t < P.types.size) (hvars : s.vars = [])
    {W W' : World} {args : Array Value} {ds gs : List (DataW H)} {before : List MemPlace} (hW : DataW.Whole enc P f.params.toList s.vars false W args.toList ds gs before)
    (hspec : s.fn H (ds ++ gs) = { results := [.lit (.bool true)], args := ds }) (hr : f.resultTypes = #[tb]) (hb : P.underlying tb = some .bool) (hbel : Below W.heap.size W W') :
    s.post enc P f false true false false W args (.bool true) W' := by
  have hW' := hW
  obtain ⟨p, q, hA, hV, rfl, hfz, hnd⟩ := hW
  rw [hvars] at hV
  obtain ⟨rfl, rfl⟩ := trodVars_none hV
  have hlt : ∀ x ∈ p, x.block < W.heap.size := fun x hx => hW'.lt x (by simpa using hx)
  refine post_of_below (pa := p) (pv := []) hW' (fun _ _ _ => ?_) (fun sp hsp => ?_) (fun sp _ => ?_) (by simp) hbel ?_
  · rw [hspec, hr]
    exact trodAll_cons_mk (shut_bool hb _) trodAll_mk0
  · rw [hspec]
    exact trodAll_stays hl hts hA (fun x hx => sameAt_below hbel (hlt x hx)) (fun x hx => hsp x (by simpa using hx))
  · rw [hspec, hvars]
    exact rfl
  · exact ok_one hr rfl (okWide_bool_mk hb _)

def nuL (ls : List Loc) : Nu := fun p => ls[p]?
/-- what came in is a table of objects that are not written -/
theorem HR.args {T : Tab} {ls : List Loc} {W : World} (hlen : T.length = ls.length)
    (h : ∀ (p : Nat) (o : Option AObj), T[p]? = some o → ∃ (d : AVal) (et : TypeId) (l : Loc), o = some ⟨d, 0, false, et⟩ ∧ ls[p]? = some l ∧ l.g = 0 ∧ IsData d ∧ d.len ≤ l.room ∧ (0 < l.room → l.a.block < W.heap.size) ∧ (∀ i, i < d.len → (∃ x, W.cell? (l.a.add i) = some x ∧ VR (nuL ls) (d.get i) x)) ∧ FamOk (fun _ => False) W ⟨d, 0, false, et⟩ l) :
    HR (fun _ => none) (nuL ls) T W := by
  refine ⟨fun p o l ho hl => ?_, fun p l hl => ?_, fun p hp => ?_, fun p l hl h0 => ?_, fun p q o o' l l' ho ho' hw hne hl hl' h0 h0' => ?_, fun b d hb => (by cases hb), fun p o l ho hl => ?_⟩
  · obtain ⟨d, et, l1, e1, e2, e3, e4, e5, e6, e7⟩ := h p _ ho
    injection e1 with e1; subst e1
    simp only [nuL] at hl
    rw [e2] at hl; injection hl with hl; subst hl
    exact ⟨e3.symm, e4, .inr (.inl ⟨rfl, e5, e7.1⟩)⟩
  · simp only [nuL] at hl
    rw [hlen]; exact (List.getElem?_eq_some_iff.1 hl).1
  · obtain ⟨d, et, l1, e1, _⟩ := h p _ hp
    cases e1
  · simp only [nuL] at hl
    have hlt := (List.getElem?_eq_some_iff.1 hl).1
    obtain ⟨o, ho⟩ : ∃ o, T[p]? = some o := ⟨T[p]'(by omega), List.getElem?_eq_getElem (by omega)⟩
    obtain ⟨d, et, l1, e1, e2, e3, e4, e5, e6, e7⟩ := h p o ho
    rw [e2] at hl; injection hl with hl; subst hl
    exact e6 h0
  · obtain ⟨d, et, l1, e1, _⟩ := h p _ ho
    injection e1 with e1; subst e1
    cases hw
  · obtain ⟨d, et, l1, e1, e2, e3, e4, e5, e6, e7, e8⟩ := h p _ ho
    injection e1 with e1; subst e1
    simp only [nuL] at hl
    rw [e2] at hl; injection hl with hl; subst hl
    refine e8.sub ?_
    rintro b ⟨q, oq, lq, k1, k2, _⟩
    obtain ⟨d', et', l', f1, _⟩ := h q _ k1
    injection f1 with f1; subst f1
    cases k2

end
end Go.Abs

set_option linter.unusedVariables false
set_option linter.unusedSimpArgs false
namespace Go.Abs

/-- an empty object beside the others -/
theorem HR.pushEmpty {gl : Nat → Option AVal} {ν : Nu} {T : Tab} {w : World} (hr : HR gl ν T w) (kk : IntKind) (et : TypeId) :
    ∃ l0 : Loc, l0.g = 0 ∧ l0.room = 0 ∧ HR gl (upd ν T.length l0) (T ++ [some ⟨.ints kk [], 0, true, et⟩]) w ∧ NuLe ν (upd ν T.length l0) ∧ (∀ b, Own (upd ν T.length l0) (T ++ [some ⟨.ints kk [], 0, true, et⟩]) b → Own ν T b) := by
  have hn : ν T.length = none := by
    cases hν : ν T.length with
    | none => rfl
    | some l => have := hr.lt _ l hν; omega
  obtain ⟨l0, hl0⟩ : ∃ l0 : Loc, l0 = ⟨⟨0, 0, none⟩, 0, 0⟩ := ⟨_, rfl⟩
  have hm : NuLe ν (upd ν T.length l0) := NuLe.upd_new (ν := ν) l0 hn
  have same : ∀ p, p ≠ T.length → upd ν T.length l0 p = ν p := fun p hp => upd_other ν l0 hp
  have self : upd ν T.length l0 T.length = some l0 := upd_same ν _ l0
  have getT : ∀ p o, (T ++ [some (⟨.ints kk [], 0, true, et⟩ : AObj)])[p]? = some o → (p < T.length ∧ T[p]? = some o) ∨ (p = T.length ∧ o = some ⟨.ints kk [], 0, true, et⟩) := by
    intro p o ho
    rcases Nat.lt_or_ge p T.length with hp | hp
    · rw [List.getElem?_append_left hp] at ho; exact .inl ⟨hp, ho⟩
    · rw [List.getElem?_append_right hp] at ho
      have hlt := (List.getElem?_eq_some_iff.1 ho).1
      have hp0 : p = T.length := by simp at hlt; omega
      subst hp0
      simp at ho
      exact .inr ⟨rfl, ho.symm⟩
  have hown : ∀ b, Own (upd ν T.length l0) (T ++ [some ⟨.ints kk [], 0, true, et⟩]) b → Own ν T b := by
    rintro b ⟨p, o, l, h1, h2, h3, h4, h5⟩
    rcases getT p _ h1 with ⟨hp, h1⟩ | ⟨hp, h1⟩
    · rw [same p (by omega)] at h3; exact ⟨p, o, l, h1, h2, h3, h4, h5⟩
    · subst hp; rw [self] at h3; injection h3 with h3; subst h3; subst hl0; simp at h4
  refine ⟨l0, by rw [hl0], by rw [hl0], ⟨fun p o l ho hl => ?_, fun p l hl => ?_, fun p hp => ?_, fun p l hl h0 => ?_, fun p q o o' l l' ho ho' hw hne hl hl' h0 h0' => ?_, fun b d hb => ?_, fun p o l ho hl => ?_⟩, hm, hown⟩
  · rcases getT p _ ho with ⟨hp, h1⟩ | ⟨hp, h1⟩
    · rw [same p (by omega)] at hl
      obtain ⟨g1, g2⟩ := hr.obj p o l h1 hl
      exact ⟨g1, g2.kept hm fun _ => rfl⟩
    · subst hp; rw [self] at hl; injection hl with hl; subst hl; subst hl0
      injection h1 with h1; subst h1
      exact ⟨rfl, .ints _ _, .inr (.inr ⟨rfl, rfl⟩)⟩
  · by_cases e : p = T.length
    · subst e; simp
    · rw [same p e] at hl; have := hr.lt p l hl; simp; omega
  · rcases getT p _ hp with ⟨hp', h1⟩ | ⟨hp', h1⟩
    · rw [same p (by omega)]; exact hr.hole p h1
    · cases h1
  · by_cases e : p = T.length
    · subst e; rw [self] at hl; injection hl with hl; subst hl; subst hl0; simp at h0
    · rw [same p e] at hl; exact hr.blk p l hl h0
  · rcases getT p _ ho with ⟨hp, h1⟩ | ⟨hp, h1⟩
    · rcases getT q _ ho' with ⟨hq, h2⟩ | ⟨hq, h2⟩
      · rw [same p (by omega)] at hl; rw [same q (by omega)] at hl'
        exact hr.sep p q o o' l l' h1 h2 hw hne hl hl' h0 h0'
      · subst hq; rw [self] at hl'; injection hl' with hl'; subst hl'; subst hl0; simp at h0'
    · subst hp; rw [self] at hl; injection hl with hl; subst hl; subst hl0; simp at h0
  · obtain ⟨h1, h2⟩ := hr.glob b d hb
    exact ⟨fun h3 => h1 (hown b h3), h2⟩
  · rcases getT p _ ho with ⟨hp, h1⟩ | ⟨hp, h1⟩
    · rw [same p (by omega)] at hl
      exact (hr.fam p o l h1 hl).sub hown
    · injection h1 with h1; subst h1
      exact FamOk.no rfl

theorem VR.nil_slice {ν : Nu} {x : Value} {q : Nat} {l : Loc} {sz : Nat} {cap : Option Nat} (hl : ν q = some l) (hg : l.g = 0) (hr : l.room = 0) (hc : cap = some 0 ∨ cap = none) (h : VR ν .nilSlice x) : VR ν (.slice sz q 0 0 0 cap) x := by
  cases h
  exact .sliceZ none hl hg.symm (hc.imp id fun h => ⟨h, by rw [hr]; exact Nat.le_refl _⟩)

end Go.Abs

set_option linter.unusedVariables false
set_option linter.unusedSimpArgs false
namespace Go.Abs
/-! ## Only some objects are kept, and they move together -/
def sigG : List Nat → Nat → Nat
  | [], _ => 0
  | p :: r, i => match Nat.beq p i with | true => 0 | false => sigG r i + 1
def hasG : List Nat → Nat → Bool
  | [], _ => false
  | p :: r, i => Nat.beq p i || hasG r i
def nodupG : List Nat → Bool
  | [] => true
  | p :: r => !hasG r p && nodupG r
def startsG : Nat → Nat → List Nat → Bool
  | _, 0, _ => true
  | i, k + 1, p :: r => Nat.beq p i && startsG (i + 1) k r
  | _, _ + 1, [] => false
def getG (T : Tab) (p : Nat) : Option AObj := match T[p]? with | some (some o) => some o | _ => none
def gcL (keep : List Nat) (T : Tab) : List Nat → Tab
  | [] => []
  | p :: r => (match getG T p with | some o => some (renO (sigG keep) o) | none => none) :: gcL keep T r
def gcT (keep : List Nat) (T : Tab) : Tab := gcL keep T keep
def inG (keep : List Nat) (T : Tab) : List Nat → Bool
  | [] => true
  | p :: r => (match getG T p with | some o => idsIn (hasG keep) o.data | none => true) && inG keep T r
def okG (k : Nat) (keep : List Nat) (T : Tab) : Bool := nodupG keep && (startsG 0 k keep && inG keep T keep)
def pickG (keep : List Nat) (fm : Fm) : List Nat → Option Fm
  | [] => some []
  | t :: r => match look fm t, pickG keep fm r with
    | some v, some f => match idsIn (hasG keep) v with
      | true => some ((t, ren (sigG keep) v) :: f)
      | false => none
    | _, _ => none
theorem hasG_get : ∀ {l : List Nat} {i : Nat}, hasG l i = true → l[sigG l i]? = some i
  | p :: r, i, h => by
    simp only [hasG, Bool.or_eq_true] at h
    simp only [sigG]
    cases hp : Nat.beq p i with
    | true => have := Nat.eq_of_beq_eq_true hp; subst this; rfl
    | false => simp only [hp, Bool.false_eq_true, false_or] at h; simpa using hasG_get h
theorem hasG_mem : ∀ {l : List Nat} {j p : Nat}, l[j]? = some p → hasG l p = true
  | q :: r, 0, p, h => by simp at h; subst h; simp [hasG]
  | q :: r, j + 1, p, h => by simp only [hasG, Bool.or_eq_true]; exact .inr (hasG_mem (by simpa using h))
theorem nodupG_ok : ∀ {l : List Nat}, nodupG l = true → ∀ (i j p : Nat), l[i]? = some p → l[j]? = some p → i = j
  | q :: r, h, 0, 0, p, _, _ => rfl
  | q :: r, h, 0, j + 1, p, hi, hj => by
    simp at hi; subst hi
    have := hasG_mem (l := r) (j := j) (by simpa using hj)
    simp [nodupG, this] at h
  | q :: r, h, i + 1, 0, p, hi, hj => by
    simp at hj; subst hj
    have := hasG_mem (l := r) (j := i) (by simpa using hi)
    simp [nodupG, this] at h
  | q :: r, h, i + 1, j + 1, p, hi, hj => by
    simp only [nodupG, Bool.and_eq_true] at h
    rw [nodupG_ok h.2 i j p (by simpa using hi) (by simpa using hj)]
theorem startsG_ok : ∀ {k i : Nat} {l : List Nat}, startsG i k l = true → ∀ j, j < k → l[j]? = some (i + j)
  | k + 1, i, p :: r, h, 0, _ => by simp only [startsG, Bool.and_eq_true] at h; rw [Nat.eq_of_beq_eq_true h.1]; rfl
  | k + 1, i, p :: r, h, j + 1, hj => by
    simp only [startsG, Bool.and_eq_true] at h
    rw [List.getElem?_cons_succ, startsG_ok h.2 j (by omega)]
    congr 1; omega
theorem gcL_get (keep : List Nat) (T : Tab) : ∀ (l : List Nat) (j : Nat), (gcL keep T l)[j]? = (l[j]?).map fun p => match getG T p with | some o => some (renO (sigG keep) o) | none => none
  | [], j => by simp [gcL]
  | p :: r, 0 => rfl
  | p :: r, j + 1 => by simpa [gcL] using gcL_get keep T r j
theorem gcL_len (keep : List Nat) (T : Tab) : ∀ (l : List Nat), (gcL keep T l).length = l.length
  | [] => rfl
  | p :: r => by simp [gcL, gcL_len keep T r]
theorem inG_ok {keep : List Nat} {T : Tab} : ∀ {l : List Nat}, inG keep T l = true → ∀ (j p : Nat) (o : AObj), l[j]? = some p → getG T p = some o → idsIn (hasG keep) o.data = true
  | q :: r, h, 0, p, o, hp, ho => by simp at hp; subst hp; simp only [inG, ho, Bool.and_eq_true] at h; exact h.1
  | q :: r, h, j + 1, p, o, hp, ho => by simp only [inG, Bool.and_eq_true] at h; exact inG_ok h.2 j p o (by simpa using hp) ho
theorem getG_some {T : Tab} {p : Nat} {o : AObj} (h : getG T p = some o) : T[p]? = some (some o) := by
  unfold getG at h; split at h
  · rename_i o' h'; injection h with h; subst h; exact h'
  · cases h
theorem pickG_ok {keep : List Nat} {fm : Fm} : ∀ {l : List Nat} {f : Fm}, pickG keep fm l = some f → ∀ t v, look f t = some v → ∃ u, look fm t = some u ∧ idsIn (hasG keep) u = true ∧ v = ren (sigG keep) u
  | [], f, h, t, v, hl => by simp [pickG] at h; subst h; simp [look] at hl
  | s :: r, f, h, t, v, hl => by
    simp only [pickG] at h
    split at h
    · rename_i u f' h1 h2
      split at h
      · rename_i h3
        injection h with h; subst h
        simp only [look] at hl
        split at hl
        · rename_i he
          have := Nat.eq_of_beq_eq_true he; subst this
          injection hl with hl; subst hl
          exact ⟨u, h1, h3, rfl⟩
        · exact pickG_ok h2 t v hl
      · cases h
    · cases h
def nuG (keep : List Nat) (ν : Nu) : Nu := fun j => match keep[j]? with | some p => ν p | none => none
theorem nuG_some {keep : List Nat} {ν : Nu} {j : Nat} {l : Loc} (h : nuG keep ν j = some l) : ∃ p, keep[j]? = some p ∧ ν p = some l := by
  unfold nuG at h; split at h
  · rename_i p hp; exact ⟨p, hp, h⟩
  · cases h
theorem nuG_key {keep : List Nat} {ν : Nu} : ∀ i l, hasG keep i = true → ν i = some l → nuG keep ν (sigG keep i) = some l := fun i l hi hl => by
  unfold nuG; rw [hasG_get hi]; exact hl
theorem gcT_some {keep : List Nat} {T : Tab} {j : Nat} {o' : AObj} (h : (gcT keep T)[j]? = some (some o')) : ∃ p o, keep[j]? = some p ∧ T[p]? = some (some o) ∧ o' = renO (sigG keep) o := by
  unfold gcT at h
  rw [gcL_get] at h
  cases hk : keep[j]? with
  | none => rw [hk] at h; cases h
  | some p =>
    rw [hk] at h
    simp only [Option.map_some] at h
    cases hg : getG T p with
    | none => rw [hg] at h; cases h
    | some o => rw [hg] at h; injection h with h; injection h with h; exact ⟨p, o, rfl, getG_some hg, h.symm⟩
theorem getG_of {T : Tab} {p : Nat} {o : AObj} (h : T[p]? = some (some o)) : getG T p = some o := by unfold getG; rw [h]
theorem Own.gc {keep : List Nat} {ν : Nu} {T : Tab} {b : Nat} (h : Own (nuG keep ν) (gcT keep T) b) : Own ν T b := by
  obtain ⟨j, o', l, h1, h2, h3, h4⟩ := h
  obtain ⟨p, o, e1, e2, rfl⟩ := gcT_some h1
  obtain ⟨p', e3, e4⟩ := nuG_some h3
  rw [e1] at e3; injection e3 with e3; subst e3
  exact ⟨p, o, l, e2, h2, e4, h4⟩
theorem HR.gc {gl : Nat → Option AVal} {ν : Nu} {T : Tab} {w : World} {k : Nat} {keep : List Nat} (h : HR gl ν T w) (hk : okG k keep T = true) : HR gl (nuG keep ν) (gcT keep T) w := by
  simp only [okG, Bool.and_eq_true] at hk
  obtain ⟨h1, h2, h3⟩ := hk
  refine ⟨fun j o' l ho hl => ?_, fun j l hl => ?_, fun j hj => ?_, fun j l hl h0 => ?_, fun i j o o' l l' ho ho' hw hne hl hl' => ?_, fun b d hb => ?_, fun j o' l ho hl => ?_⟩
  · obtain ⟨p, o, e1, e2, rfl⟩ := gcT_some ho
    obtain ⟨p', e3, e4⟩ := nuG_some hl
    rw [e1] at e3; injection e3 with e3; subst e3
    obtain ⟨g1, g2⟩ := h.obj p o l e2 e4
    exact ⟨g1, g2.ren nuG_key (inG_ok h3 j p o e1 (getG_of e2))⟩
  · obtain ⟨p, e1, _⟩ := nuG_some hl
    unfold gcT; rw [gcL_len]; exact (List.getElem?_eq_some_iff.1 e1).1
  · unfold gcT at hj
    rw [gcL_get] at hj
    unfold nuG
    cases hk : keep[j]? with
    | none => rfl
    | some p =>
      simp only [hk, Option.map_some] at hj
      cases hν : ν p with
      | none => simp only [hν]
      | some l =>
        exfalso
        have hlt := h.lt p l hν
        have e : T[p]? = some T[p] := List.getElem?_eq_getElem hlt
        cases hT : T[p] with
        | none => rw [hT] at e; rw [h.hole p e] at hν; cases hν
        | some o => rw [hT] at e; rw [getG_of e] at hj; injection hj with hj; cases hj
  · obtain ⟨p, _, e⟩ := nuG_some hl
    exact h.blk p l e h0
  · obtain ⟨p, a, e1, e2, rfl⟩ := gcT_some ho
    obtain ⟨q, b, f1, f2, rfl⟩ := gcT_some ho'
    obtain ⟨p', e3, e4⟩ := nuG_some hl
    rw [e1] at e3; injection e3 with e3; subst e3
    obtain ⟨q', f3, f4⟩ := nuG_some hl'
    rw [f1] at f3; injection f3 with f3; subst f3
    exact h.sep p q a b l l' e2 f2 hw (fun e => hne (by subst e; exact nodupG_ok h1 i j p e1 f1)) e4 f4
  · obtain ⟨g1, g2⟩ := h.glob b d hb
    exact ⟨fun g => g1 g.gc, g2⟩
  · obtain ⟨p, o, e1, e2, rfl⟩ := gcT_some ho
    obtain ⟨p', e3, e4⟩ := nuG_some hl
    rw [e1] at e3; injection e3 with e3; subst e3
    exact ((h.fam p o l e2 e4).sub fun b hb => hb.gc).ren
theorem NuLeB.gc {keep : List Nat} {ν ν' : Nu} {T : Tab} {k : Nat} (h : NuLeB k ν ν') (hk : okG k keep T = true) : NuLeB k ν (nuG keep ν') := fun p hp l hl => by
  simp only [okG, Bool.and_eq_true] at hk
  obtain ⟨l', h1, h2⟩ := h p hp l hl
  have e := startsG_ok hk.2.1 p hp
  rw [Nat.zero_add] at e
  exact ⟨l', by unfold nuG; rw [e]; exact h1, h2⟩
theorem SRel.gc {E : Env} {D : List Deferred} {ν : Nu} {fm f : Fm} {T : Tab} {n k : Nat} {a : Act} {w : World} {keep : List Nat} {slots : List Nat} (h : SRel E D ν fm T n a w) (hk : okG k keep T = true) (hf : pickG keep fm slots = some f) : SRel E D (nuG keep ν) f (gcT keep T) n a w := by
  refine ⟨h.hr.gc hk, fun t v hv => ?_, h.size, h.defers⟩
  obtain ⟨u, h1, h2, rfl⟩ := pickG_ok hf t v hv
  exact (h.fm t u h1).ren nuG_key h2
/-- the outcome, with only some objects, moved together -/
def trimG (k : Nat) (keep : List Nat) (slots : List Nat) (o : Out) : Out :=
  match o with
  | ⟨cs, ex, fm, T, ds⟩ => match pickG keep fm slots, okG k keep T with
    | some f, true => ⟨cs, ex, f, gcT keep T, ds⟩
    | _, _ => failO
theorem AWp.trimG {E : Env} {n k : Nat} {keep : List Nat} {c : Code} {fm : Fm} {T : Tab} {o : Out} {slots : List Nat} (hc : allP (trimG k keep slots o).cs) (h : allP o.cs → AWp E n k c fm T (Is o)) : AWp E n k c fm T (Is (trimG k keep slots o)) := by
  obtain ⟨cs, ex, fm1, T1, ds⟩ := o
  unfold Abs.trimG at hc ⊢
  simp only at hc ⊢
  cases hp : pickG keep fm1 slots with
  | none => simp only [hp] at hc; exact absurd hc failO_no
  | some f =>
    cases hb : okG k keep T1 with
    | false => simp only [hp, hb] at hc; exact absurd hc failO_no
    | true =>
      simp only [hp, hb] at hc ⊢
      intro rr D ν a w hs hrd
      refine wpIn_mono (h hc rr D ν a w hs hrd) fun e a' w' ⟨ex', fm', T', ν', e1, ⟨e2, e3, e4⟩, ⟨ms, s', mk⟩, n', f'⟩ => ?_
      simp only at e2 e3 e4
      subst e2 e3 e4
      exact ⟨ex', f, gcT keep T', nuG keep ν', e1, ⟨rfl, rfl, rfl⟩, ⟨ms, s'.gc hb hp, mk⟩, n'.gc hb, f'.sub fun b hb => hb.gc⟩
theorem To.ofG {E : Env} (hE : EnvOk E) (hm : E.P.follows .mixedOrders = true) {n k : Nat} {keep : List Nat} {orc : Orc} (hk : k ≤ orc.kb) {c : Code} (hO : OrcOk E n orc c) {f : Nat} {fm : Fm} {T : Tab} {ds : List (Option Bool)} {slots : List Nat} {o : Out}
    (ho : trimG k keep slots (run E n orc f c fm T ds) = o) (h : Ok o) {ex : AExit} {fm' : Fm} {T' : Tab} (e1 : o.ex = ex) (e2 : o.fm = fm') (e3 : o.tab = T') : To E n k c fm T ex fm' T' := by
  subst e1 e2 e3 ho
  exact AWp.trimG h.h fun h => (run_sound hE hm hk hO f (fun _ _ h => h) h).1
/-- a function's outcome, with only some objects, moved together -/
theorem small_gc {P : Program} {gl : Nat → Option AVal} {f : FuncId} {args : List AVal} {T0 T1 : Tab} {v : AVal} (keep : List Nat) (h : Small P gl f args T0 v T1) {v' : AVal} {T' : Tab} (hk : okG T0.length keep T1 = true) (hv : idsIn (hasG keep) v = true) (e1 : ren (sigG keep) v = v') (e2 : gcT keep T1 = T') :
    Small P gl f args T0 v' T' := by
  subst e1 e2
  intro ν w vs hr hvs
  refine (h ν w vs hr hvs).mono ?_
  rintro e w' ⟨x, ν', rfl, h1, h2, h3, h4⟩
  exact ⟨x, nuG keep ν', rfl, h1.ren nuG_key hv, h2.gc hk, h3.gc hk, h4.sub fun b hb => hb.gc⟩
/-- a function's run, with only some objects, moved together -/
def resG (k : Nat) (keep : List Nat) (r : Res) : Res :=
  match r with
  | ⟨cs, v, T⟩ => match idsIn (hasG keep) v && okG k keep T with
    | true => ⟨cs, ren (sigG keep) v, gcT keep T⟩
    | false => fail
theorem small_ofG {E : Env} (hE : EnvOk E) (hm : E.P.follows .mixedOrders = true) {f : FuncId} {fn : Func} (hf : E.P.funcs[f]? = some fn) (hb : fn.body.isSome = true) {orc : OrcL} (hO : FnOrc E fn orc) {fuel : Nat} {args : List AVal} {T : Tab} {ds : List (Option Bool)} {R : Res} {keep : List Nat}
    (hR : resG T.length keep (runF E fn orc fuel args T ds) = R) (h : OkR R) {v : AVal} {T1 : Tab} (hv : R.val = v) (ht : R.tab = T1) : Small E.P E.gl f args T v T1 := by
  subst hv ht hR
  have hS := runF_small hE hm hf hb orc hO fuel (args := args) (T := T) ds
  generalize runF E fn orc fuel args T ds = r at h hS ⊢
  obtain ⟨cs, v, T1⟩ := r
  obtain ⟨h⟩ := h
  unfold resG at h ⊢
  simp only at h ⊢
  cases hb : idsIn (hasG keep) v && okG T.length keep T1 with
  | false => simp only [hb] at h; exact absurd h nofail
  | true =>
    simp only [hb] at h ⊢
    simp only [Bool.and_eq_true] at hb
    exact small_gc keep (hS h) hb.2 hb.1 rfl rfl
/-- what is told of a block, by the values of some slots and the first m objects, of which the first k stay in their places -/
def blkS2 (k m : Nat) (slots : List Nat) (g : List AVal → Tab → Out) : Nat → Fm → Tab → List (Option Bool) → Out := fun kb fm T ds =>
  match Nat.ble kb k && (Nat.ble k m && (Nat.ble m T.length && tabIn m (takeT m T))), pickV m fm slots with
  | true, some vs => match g vs (takeT m T) with
    | ⟨cs, ex, fm', T', _⟩ => ⟨cs, ex, fm', T', ds⟩
  | _, _ => failO
theorem blkS2_ok {E : Env} {fn : Func} {id : Nat} {c : Code} {k m : Nat} {slots : List Nat} {g : List AVal → Tab → Out}
    (hg : ∀ vs T, Ok (g vs T) → To E fn.ntmps k (.block id c) (zipF slots vs) T (g vs T).ex (g vs T).fm (g vs T).tab) : BlkOk E fn id c (blkS2 k m slots g) := by
  intro kb fm T ds hc
  unfold blkS2 at hc ⊢
  cases hb : Nat.ble kb k && (Nat.ble k m && (Nat.ble m T.length && tabIn m (takeT m T))) with
  | false => rw [hb] at hc; exact absurd hc failO_no
  | true =>
    cases hp : pickV m fm slots with
    | none => rw [hb, hp] at hc; exact absurd hc failO_no
    | some vs =>
      rw [hb, hp] at hc
      simp only at hc ⊢
      have h1 := hg vs (takeT m T)
      generalize g vs (takeT m T) = o at h1 hc ⊢
      obtain ⟨cs, ex, fm', T', ds'⟩ := o
      simp only [Bool.and_eq_true] at hb
      refine AWp.base (Nat.le_of_ble_eq_true hb.1) ?_
      exact AWp.enter (k := k) (m := m) (pickV_ok hp) (by simp only [Bool.and_eq_true]; exact ⟨⟨hb.2.1, hb.2.2.1⟩, hb.2.2.2⟩) (h1 ⟨hc⟩)
attribute [irreducible] resG trimG
end Go.Abs

set_option linter.unusedVariables false
set_option linter.unusedSimpArgs false
namespace Go.Abs
open Go.RowKit Go.WideShapes Go.ChangeShapes Go.ChangeAt
/-! ## Rows whose laws read tables of the program -/
section
variable {P : Program}
theorem laidMet_tail {x : String × DataW Unit} {r : List (String × DataW Unit)} {W : World} (h : laidMet P (x :: r) W) : laidMet P r W := by
  obtain ⟨ps, ⟨g, t, cs, fuel, p, q, _, _, _, _, hr, rfl⟩, hn, hb⟩ := h
  exact ⟨q, hr, (List.nodup_append.1 hn).2.1, fun b off hm => hb b off (List.mem_append_right _ hm)⟩
theorem glob_tab {W : World} {name : String} {k : IntKind} {zs : List Int} {g : Nat} (h : Lib.TabIs P W name k zs) (hg : P.globalNamed name = some g) (h0 : 0 < zs.length) :
    g < W.heap.size ∧ IsData (.ints k zs) ∧ ∀ i, i < (AVal.ints k zs).len → ∃ x, W.cell? ⟨g, i, none⟩ = some x ∧ ∀ ν, VR ν ((AVal.ints k zs).get i) x := by
  refine ⟨?_, .ints _ _, fun i hi => ⟨_, h.cell hg i hi, fun ν => .int _ _⟩⟩
  have h1 := h.cell hg 0 h0
  unfold World.cell? at h1
  rcases Nat.lt_or_ge g W.heap.size with h | h
  · exact h
  · rw [Array.getElem?_eq_none h] at h1; cases h1
/-- what came in, over the program's tables -/
theorem HR.argsG {gl : Nat → Option AVal} {T : Tab} {ls : List Loc} {W : World} (h : HR (fun _ => none) (nuL ls) T W) (hown : ∀ (p : Nat) (o : AObj), T[p]? = some (some o) → o.own = false)
    (hg : ∀ b d, gl b = some d → b < W.heap.size ∧ IsData d ∧ ∀ i, i < d.len → ∃ x, W.cell? ⟨b, i, none⟩ = some x ∧ ∀ ν, VR ν (d.get i) x) : HR gl (nuL ls) T W :=
  ⟨h.obj, h.lt, h.hole, h.blk, h.sep, fun b d hb => ⟨fun ⟨p, o, l, h1, h2, _⟩ => (by rw [hown p o h1] at h2; cases h2), hg b d hb⟩, h.fam⟩
theorem calls_argsG {gl : Nat → Option AVal} {f : FuncId} {args : List AVal} {v : AVal} {T T1 : Tab} {ls : List Loc} {w : World} {vs : Array Value} {x : Value} (h : Small P gl f args T v T1) (hT : HR gl (nuL ls) T w) (hown : ∀ (p : Nat) (o : AObj), T[p]? = some (some o) → o.own = false)
    (hx : ∀ ν y, VR ν v y → y = x) (hv : VRs (nuL ls) args vs.toList) :
    Calls P f vs w fun e w' => e = .returned x ∧ Below w.heap.size w w' := by
  refine (h (nuL ls) w vs hT hv).mono ?_
  rintro e w' ⟨y, ν', rfl, h1, h2, h3, h4⟩
  refine ⟨by rw [hx _ _ h1], h4.os, h4.tape, h4.output, h4.size, fun b hb => h4.block b hb ?_⟩
  rintro ⟨p, o, l, ho, hw, _⟩
  rw [hown p o ho] at hw
  cases hw
end
end Go.Abs

set_option linter.unusedVariables false
namespace Go.Abs
/-! ## What stands in a table or a list of values, taken out -/
def vAt : List AVal → Nat → AVal
  | [], _ => un
  | v :: _, 0 => v
  | _ :: r, i + 1 => vAt r i
def dAt (T : Tab) (p : Nat) : AVal := match nth T p with | some o => o.data | none => un
def gAt (T : Tab) (p : Nat) : Nat := match nth T p with | some o => o.g | none => 0
def owAt (T : Tab) (p : Nat) : Bool := match nth T p with | some o => o.own | none => false
def xsOf : AVal → List Int | .ints _ xs => xs | _ => []
def vsOf : AVal → List AVal | .agg vs => vs | _ => []
def iOf : AVal → Int | .int _ n => n | _ => 0
def bOf : AVal → Bool | .bool b => b | _ => false
def offOf : AVal → Nat | .slice _ _ _ off _ _ => off | .ptr _ _ off => off | _ => 0
def lenOf : AVal → Nat | .slice _ _ _ _ len _ => len | _ => 0
def capOf : AVal → Option Nat | .slice _ _ _ _ _ cap => cap | _ => none
def xsAt (T : Tab) (p : Nat) : List Int := xsOf (dAt T p)
def cAt (T : Tab) (p i : Nat) : AVal := vAt (vsOf (dAt T p)) i
end Go.Abs
namespace Go.Abs
/-- flags, out of a number's bits -/
def bitsF : Nat → Nat → List Bool
  | 0, _ => []
  | k + 1, n => Nat.beq (n % 2) 1 :: bitsF k (n / 2)
end Go.Abs

set_option linter.unusedVariables false
set_option linter.unusedSimpArgs false
namespace Go.Abs
/-- entry: only some objects, moved together -/
theorem AWp.enterG {E : Env} {n k : Nat} {c : Code} {fm f : Fm} {T : Tab} {keep slots : List Nat} {post : AExit → Fm → Tab → Prop} (hp : pickG keep fm slots = some f) (hb : okG k keep T = true)
    (h : AWp E n k c f (gcT keep T) post) : AWp E n k c fm T post := by
  intro rr D ν a w hs hrd
  refine wpIn_mono (h rr D _ a w (hs.gc hb hp) hrd) fun e a' w' ⟨ex, fm', T', ν', e1, e2, s', n', f'⟩ => ⟨ex, fm', T', ν', e1, e2, s', fun p hp l hl => ?_, ?_⟩
  · simp only [okG, Bool.and_eq_true] at hb
    have e := startsG_ok hb.2.1 p hp
    rw [Nat.zero_add] at e
    exact n' p hp l (by unfold nuG; rw [e]; exact hl)
  · exact ⟨f'.os, f'.tape, f'.output, f'.size, fun b hb hO => f'.block b hb (fun h => hO h.gc), fun b hb => (f'.own b hb).imp (fun h => h.gc) id⟩
def pickGV (keep : List Nat) (fm : Fm) : List Nat → Option (List AVal)
  | [] => some []
  | t :: r => match look fm t, pickGV keep fm r with
    | some v, some vs => match idsIn (hasG keep) v with
      | true => some (ren (sigG keep) v :: vs)
      | false => none
    | _, _ => none
theorem pickGV_ok {keep : List Nat} {fm : Fm} : ∀ {l : List Nat} {vs : List AVal}, pickGV keep fm l = some vs → pickG keep fm l = some (zipF l vs)
  | [], vs, h => by simp [pickGV] at h; subst h; rfl
  | t :: r, vs, h => by
    simp only [pickGV] at h
    split at h
    · rename_i v us h1 h2
      split at h
      · rename_i h3
        injection h with h; subst h
        simp only [pickG, h1, pickGV_ok h2, h3, zipF]
      · cases h
    · cases h
/-- what is told of a block, over some objects, moved together -/
def blkGC (k : Nat) (keep slots : List Nat) (g : List AVal → Tab → Out) : Nat → Fm → Tab → List (Option Bool) → Out := fun kb fm T ds =>
  match Nat.ble kb k && okG k keep T, pickGV keep fm slots with
  | true, some vs => match g vs (gcT keep T) with
    | ⟨cs, ex, fm', T', _⟩ => ⟨cs, ex, fm', T', ds⟩
  | _, _ => failO
theorem blkGC_ok {E : Env} {fn : Func} {id : Nat} {c : Code} {k : Nat} {keep slots : List Nat} {g : List AVal → Tab → Out}
    (hg : ∀ vs T, Ok (g vs T) → To E fn.ntmps k (.block id c) (zipF slots vs) T (g vs T).ex (g vs T).fm (g vs T).tab) : BlkOk E fn id c (blkGC k keep slots g) := by
  intro kb fm T ds hc
  unfold blkGC at hc ⊢
  cases hb : Nat.ble kb k && okG k keep T with
  | false => rw [hb] at hc; exact absurd hc failO_no
  | true =>
    cases hp : pickGV keep fm slots with
    | none => rw [hb, hp] at hc; exact absurd hc failO_no
    | some vs =>
      rw [hb, hp] at hc
      simp only at hc ⊢
      have h1 := hg vs (gcT keep T)
      generalize g vs (gcT keep T) = o at h1 hc ⊢
      obtain ⟨cs, ex, fm', T', ds'⟩ := o
      simp only [Bool.and_eq_true] at hb
      refine AWp.base (Nat.le_of_ble_eq_true hb.1) ?_
      exact AWp.enterG (pickGV_ok hp) hb.2 (h1 ⟨hc⟩)
end Go.Abs

set_option linter.unusedVariables false
set_option linter.unusedSimpArgs false
namespace Go.Abs
open Go.RowKit Go.WideShapes Go.ChangeShapes Go.ChangeAt
/-! ## Rows of laws: a struct of four slices of bytes -/
section
variable {H : Type} {enc : TypeId × Value → H} {P : Program}
end
end Go.Abs

set_option linter.unusedVariables false
set_option linter.unusedSimpArgs false
namespace Go.Abs
open Go.RowKit Go.WideShapes Go.ChangeShapes Go.ChangeAt
/-! ## Rows of laws: a slice of structs of two numbers -/
section
variable {H : Type} {enc : TypeId × Value → H} {P : Program}
def cellI (W : World) (a : Addr) (j : Nat) : Int := match W.cell? (a.add j) with | some (.int _ n) => n | _ => 0
end
end Go.Abs

set_option linter.unusedVariables false
set_option linter.unusedSimpArgs false
namespace Go.Abs
/-! ## Range over a function: code that runs beside the loops' records -/
/-- what a record is of: its loop, as text, and what is known of the temporaries at its entry -/
structure Host where
  ps : Array Tmp
  assign : Code
  body : Code
  fm : Fm
  n : Nat
abbrev St := LoopState × Option Code
abbrev Amb := List (Nat × Host)

theorem VR.monoB {k : Nat} {ν ν' : Nu} {v : AVal} {x : Value} (hm : NuLeB k ν ν') (hv : idsIn (fun i => Nat.blt i k) v = true) (h : VR ν v x) : VR ν' v x := by
  let ν2 : Nu := fun p => if p < k then ν' p else ν p
  have h1 : NuLe ν ν2 := fun p l hl => by
    by_cases hp : p < k
    · obtain ⟨l', g1, g2⟩ := hm p hp l hl
      exact ⟨l', by simp only [ν2, if_pos hp]; exact g1, g2⟩
    · exact ⟨l, by simp only [ν2, if_neg hp]; exact hl, .inr ⟨rfl, rfl, rfl, rfl⟩⟩
  have h2 := (h.mono h1).ren (ν' := ν') (r := fun i => i) (live := fun i => Nat.blt i k) (fun i l hi hl => by
    have hp : i < k := by simpa using hi
    simpa only [ν2, if_pos hp] using hl) hv
  rwa [ren_id] at h2
def fmIn (k : Nat) (fm : Fm) : Prop := ∀ t v, look fm t = some v → idsIn (fun i => Nat.blt i k) v = true
def ambIn (k : Nat) (A : Amb) : Prop := ∀ x ∈ A, fmIn k x.2.fm
def RecOk (ν : Nu) (l : Nat) (H : Host) (st : St) (w : World) : Prop :=
  ∃ rc : Loop, w.heap[l]? = some (.loop rc) ∧ rc.state = st.1 ∧ rc.pending = st.2 ∧ rc.params = H.ps ∧ rc.assign = H.assign ∧ rc.body = H.body ∧ H.n ≤ rc.tmps.size ∧ ∀ t v, look H.fm t = some v → VR ν v (rc.tmps.getD t undef)
def RecsOk (ν : Nu) : Amb → List St → World → Prop
  | [], [], _ => True
  | (l, H) :: A, st :: σ, w => RecOk ν l H st w ∧ RecsOk ν A σ w ∧ ∀ x ∈ A, x.1 ≠ l
  | _, _, _ => False
theorem RecOk.keep {k : Nat} {ν ν' : Nu} {l : Nat} {H : Host} {st : St} {w w' : World} (h : RecOk ν l H st w) (hin : fmIn k H.fm) (hm : NuLeB k ν ν') (hw : w'.heap[l]? = w.heap[l]?) : RecOk ν' l H st w' := by
  obtain ⟨rc, h1, h2, h3, h4, h5, h6, h7, h8⟩ := h
  exact ⟨rc, by rw [hw]; exact h1, h2, h3, h4, h5, h6, h7, fun t v hl => (h8 t v hl).monoB hm (hin t v hl)⟩
theorem RecsOk.keep {k : Nat} {ν ν' : Nu} {w w' : World} (hm : NuLeB k ν ν') : ∀ {A : Amb} {σ : List St}, RecsOk ν A σ w → ambIn k A → (∀ x ∈ A, w'.heap[x.1]? = w.heap[x.1]?) → RecsOk ν' A σ w'
  | [], [], _, _, _ => trivial
  | [], _ :: _, h, _, _ => h.elim
  | _ :: _, [], h, _, _ => h.elim
  | (l, H) :: A, st :: σ, ⟨h1, h2, h3⟩, hin, hw => ⟨h1.keep (hin _ (.head _)) hm (hw _ (.head _)), RecsOk.keep hm h2 (fun x hx => hin x (.tail _ hx)) (fun x hx => hw x (.tail _ hx)), h3⟩
theorem RecsOk.loop {ν : Nu} {w : World} : ∀ {A : Amb} {σ : List St}, RecsOk ν A σ w → ∀ x ∈ A, ∃ rc, w.heap[x.1]? = some (.loop rc)
  | (l, H) :: A, st :: σ, ⟨h1, h2, h3⟩, x, hx => by
    rcases List.mem_cons.1 hx with rfl | hx
    · obtain ⟨rc, h, _⟩ := h1; exact ⟨rc, h⟩
    · exact RecsOk.loop h2 x hx
/-- the blocks that may change -/
def OwnA (A : Amb) (ν : Nu) (T : Tab) (b : Nat) : Prop := Own ν T b ∨ ∃ x ∈ A, x.1 = b
theorem size_of {w : World} {b : Nat} {o : Obj} (h : w.heap[b]? = some o) : b < w.heap.size := by
  rcases Nat.lt_or_ge b w.heap.size with h' | h'
  · exact h'
  · rw [Array.getElem?_eq_none h'] at h; cases h
theorem Fr.amb {A : Amb} {ν ν' : Nu} {T T' : Tab} {w w' : World} (h : Fr (Own ν T) w (Own ν' T') w') : Fr (OwnA A ν T) w (OwnA A ν' T') w' :=
  ⟨h.os, h.tape, h.output, h.size, fun b hb hO => h.block b hb (fun h => hO (.inl h)), fun b hb => by
    rcases hb with hb | hb
    · exact (h.own b hb).imp .inl id
    · exact .inl (.inr hb)⟩
/-- a block that is neither cells nor a record stays -/
theorem Fr.other {gl : Nat → Option AVal} {A : Amb} {σ : List St} {ν : Nu} {T : Tab} {O : Nat → Prop} {w w' : World} (hf : Fr (OwnA A ν T) w O w') (hr : HR gl ν T w) (hA : RecsOk ν A σ w) {b : Nat} {o : Obj} (ho : w.heap[b]? = some o) (h1 : ∀ c t z, o ≠ .cells c t z) (h2 : ∀ r, o ≠ .loop r) : w'.heap[b]? = some o := by
  rw [hf.block b (size_of ho) (fun h => ?_)]
  · exact ho
  · rcases h with h | ⟨x, hx, rfl⟩
    · exact hr.notOwn ho h1 h
    · obtain ⟨rc, hrc⟩ := hA.loop x hx
      rw [hrc] at ho; injection ho with ho; exact h2 rc ho.symm
theorem RdOk.amb {rr : Option Nat} {gl : Nat → Option AVal} {A : Amb} {σ σ' : List St} {ν ν' : Nu} {T : Tab} {O : Nat → Prop} {w w' : World} (h : RdOk rr w) (hr : HR gl ν T w) (hA : RecsOk ν A σ w) (hA' : RecsOk ν' A σ' w') (hf : Fr (OwnA A ν T) w O w') : RdOk rr w' := fun l hl => by
  obtain ⟨r, h1⟩ := h l hl
  by_cases hx : ∃ x ∈ A, x.1 = l
  · obtain ⟨x, hx, rfl⟩ := hx
    exact hA'.loop x hx
  · refine ⟨r, ?_⟩
    rw [hf.block l (size_of h1) (fun h => ?_)]
    · exact h1
    · rcases h with h | h
      · exact hr.notOwn h1 (fun _ _ _ h => by cases h) h
      · exact hx h
theorem MarksOk.trans2 {ms ms2 : List Deferred} {w w1 w2 : World} (h : MarksOk ms w w1) (h2 : MarksOk ms2 w1 w2) (hs : w.heap.size ≤ w1.heap.size) (hk : ∀ (b : Nat) x, w1.heap[b]? = some (.deferred x) → w2.heap[b]? = some (.deferred x)) : MarksOk (ms2 ++ ms) w w2 := by
  have lt : ∀ d ∈ ms, ∃ r, d = { target := .collected r, args := #[] } ∧ w.heap.size ≤ r ∧ r < w1.heap.size ∧ w2.heap[r]? = some (.deferred (some [])) := fun d hd => by
    obtain ⟨r, e, g1, g2⟩ := h.1 d hd
    exact ⟨r, e, g1, size_of g2, hk _ _ g2⟩
  refine ⟨fun d hd => ?_, List.nodup_append.2 ⟨h2.2, h.2, fun a ha b hb e => ?_⟩⟩
  · rcases List.mem_append.1 hd with hd | hd
    · obtain ⟨r, e, g1, g2⟩ := h2.1 d hd
      exact ⟨r, e, by omega, g2⟩
    · obtain ⟨r, e, g1, _, g2⟩ := lt d hd
      exact ⟨r, e, g1, g2⟩
  · obtain ⟨r, e1, g1, _⟩ := h2.1 a ha
    obtain ⟨r', e2, _, g2, _⟩ := lt b hb
    rw [e, e2] at e1
    injection e1 with e1; injection e1 with e1
    omega

def YPost (E : Env) (n k : Nat) (A : Amb) (post : AExit → Fm → Tab → List St → Prop) (D : List Deferred) (ν : Nu) (T : Tab) (w : World) (e : Exit) (a' : Act) (w' : World) : Prop :=
  ∃ ex fm' T' σ' ν', e = AExit.to ex ∧ post ex fm' T' σ' ∧ SRelM E D w ν' fm' T' n a' w' ∧ RecsOk ν' A σ' w' ∧ NuLeB k ν ν' ∧ Fr (OwnA A ν T) w (OwnA A ν' T') w'
/-- code that runs beside records -/
def YWp (E : Env) (n k : Nat) (A : Amb) (c : Code) (fm : Fm) (T : Tab) (σ : List St) (post : AExit → Fm → Tab → List St → Prop) : Prop :=
  ∀ (rr : Option Nat) D ν a w, SRel E D ν fm T n a w → RdOk rr w → RecsOk ν A σ w → c.wpIn (Fc rr) 0 E.P (YPost E n k A post D ν T w) a w

section
variable {E : Env} {n k : Nat} {A : Amb} {fm : Fm} {T : Tab} {σ : List St} {post : AExit → Fm → Tab → List St → Prop}
theorem YWp.mono {c : Code} {post' : AExit → Fm → Tab → List St → Prop} (h : YWp E n k A c fm T σ post) (hp : ∀ ex fm T σ, post ex fm T σ → post' ex fm T σ) : YWp E n k A c fm T σ post' :=
  fun rr D ν a w hs hrd hA => wpIn_mono (h rr D ν a w hs hrd hA) fun e a' w' ⟨ex, fm', T', σ', ν', h1, h2, h3⟩ => ⟨ex, fm', T', σ', ν', h1, hp _ _ _ _ h2, h3⟩
theorem YPost.trans {D ms : List Deferred} {ν ν1 : Nu} {w w1 : World} {T1 : Tab} {fm1 : Fm} {a1 : Act} {σ1 : List St} {e : Exit} {a' : Act} {w' : World} (h : YPost E n k A post (ms ++ D) ν1 T1 w1 e a' w') (s1 : SRel E (ms ++ D) ν1 fm1 T1 n a1 w1) (m1 : MarksOk ms w w1) (A1 : RecsOk ν1 A σ1 w1) (hm : NuLeB k ν ν1) (hf : Fr (OwnA A ν T) w (OwnA A ν1 T1) w1) : YPost E n k A post D ν T w e a' w' := by
  obtain ⟨ex, fm', T', σ', ν', h1, h2, ⟨ms2, h3, m2⟩, h6, h4, h5⟩ := h
  exact ⟨ex, fm', T', σ', ν', h1, h2, ⟨ms2 ++ ms, by rw [List.append_assoc]; exact h3, m1.trans2 m2 hf.size fun b x hb => h5.other s1.hr A1 hb (fun _ _ _ h => by cases h) (fun _ h => by cases h)⟩, h6, hm.trans h4, hf.trans h5⟩
theorem YWp.seq {x y : Code} (h : YWp E n k A x fm T σ fun ex fm' T' σ' => match ex with | .normal => YWp E n k A y fm' T' σ' post | ex => post ex fm' T' σ') : YWp E n k A (.seq x y) fm T σ post := by
  intro rr D ν a w hs hrd hA
  refine wpIn_seq (wpIn_mono (h rr D ν a w hs hrd hA) fun e a' w' ⟨ex, fm', T', σ', ν', h1, h2, h3, h6, h4, h5⟩ => ?_)
  subst h1
  cases ex with
  | normal =>
    obtain ⟨ms, h3, hm⟩ := h3
    exact wpIn_mono (h2 rr _ ν' a' w' h3 (hrd.amb hs.hr hA h6 h5) h6) fun e a2 w2 hp => hp.trans h3 hm h6 h4 h5
  | exit id => exact ⟨.exit id, fm', T', σ', ν', rfl, h2, h3, h6, h4, h5⟩
  | goto l => exact ⟨.goto l, fm', T', σ', ν', rfl, h2, h3, h6, h4, h5⟩
  | ret => exact ⟨.ret, fm', T', σ', ν', rfl, h2, h3, h6, h4, h5⟩
theorem YWp.block {id : Nat} {c : Code} (h : YWp E n k A c fm T σ fun ex fm' T' σ' => match ex with | .exit id' => if id' = id then post .normal fm' T' σ' else post (.exit id') fm' T' σ' | ex => post ex fm' T' σ') : YWp E n k A (.block id c) fm T σ post := by
  intro rr D ν a w hs hrd hA
  refine wpIn_block (wpIn_mono (h rr D ν a w hs hrd hA) fun e a' w' ⟨ex, fm', T', σ', ν', h1, h2, h3, h6, h4, h5⟩ => ?_)
  subst h1
  cases ex with
  | normal => exact ⟨.normal, fm', T', σ', ν', rfl, h2, h3, h6, h4, h5⟩
  | exit id' =>
    simp only [AExit.to, Exit.inBlock]
    simp only at h2
    split
    · rename_i e
      rw [if_pos e] at h2
      exact ⟨.normal, fm', T', σ', ν', rfl, h2, h3, h6, h4, h5⟩
    · rename_i e
      rw [if_neg e] at h2
      exact ⟨.exit id', fm', T', σ', ν', rfl, h2, h3, h6, h4, h5⟩
  | goto l => exact ⟨.goto l, fm', T', σ', ν', rfl, h2, h3, h6, h4, h5⟩
  | ret => exact ⟨.ret, fm', T', σ', ν', rfl, h2, h3, h6, h4, h5⟩
theorem YWp.cond {c : Operand} {x y : Code} {b : Bool} (hb : evOf fm c = some (.bool b)) (ht : b = true → YWp E n k A x fm T σ post) (hf : b = false → YWp E n k A y fm T σ post) : YWp E n k A (.cond c x y) fm T σ post := by
  intro rr D ν a w hs hrd hA
  have h1 := (evOf_rel hs c _ hb).bool_inv
  exact wpIn_cond_split h1 (fun e => ht e rr D ν a w hs hrd hA) (fun e => hf e rr D ν a w hs hrd hA)
theorem YWp.loop {c : Code} (I : Fm → Tab → List St → Nat → Prop) (m0 : Nat) (h0 : I fm T σ m0)
    (round : ∀ fm T σ m, I fm T σ m → YWp E n k A c fm T σ fun ex fm' T' σ' => match ex with | .normal => ∃ m', m' < m ∧ I fm' T' σ' m' | ex => post ex fm' T' σ') : YWp E n k A (.loop c) fm T σ post := by
  intro rr D ν a w hs hrd hA b kk cs hro hbb hrm
  have key : ∀ (m : Nat) (fm1 : Fm) (T1 : Tab) (σ1 : List St) (ν1 : Nu) (a1 : Act) (w1 : World) (ms : List Deferred), I fm1 T1 σ1 m → SRel E (ms ++ D) ν1 fm1 T1 n a1 w1 → MarksOk ms w w1 → RecsOk ν1 A σ1 w1 → NuLeB k ν ν1 → Fr (OwnA A ν T) w (OwnA A ν1 T1) w1 →
      ∃ e a' w', YPost E n k A post D ν T w e a' w' ∧ ArrivesIn (Machine.fenced E.P (Fc rr)) E.P (lone (b.atR a1 (.code c :: .inLoop c :: kk)) cs w1) b kk cs e a' w' := by
    intro m
    induction m using Nat.strongRecOn with
    | _ m ih =>
      intro fm1 T1 σ1 ν1 a1 w1 ms hI hs1 mk hA1 hm hf
      obtain ⟨e, a2, w2, hP, harr⟩ := round fm1 T1 σ1 m hI rr _ ν1 a1 w1 hs1 (hrd.amb hs.hr hA hA1 hf) hA1 b (.inLoop c :: kk) cs hro hbb hrm
      obtain ⟨ex, fm2, T2, σ2, ν2, h1, h2, ⟨ms2, h3, mk2⟩, h6, h4, h5⟩ := hP.trans hs1 mk hA1 hm hf
      subst h1
      cases ex with
      | normal =>
        obtain ⟨m', hlt, hI'⟩ := h2
        obtain ⟨e3, a3, w3, hp3, harr3⟩ := ih m' hlt fm2 T2 σ2 ν2 a2 w2 ms2 hI' h3 mk2 h6 h4 h5
        exact ⟨e3, a3, w3, hp3, .of_steps (StepsIn.trans harr (.one (fenced_calm hbb hrm rfl) stepR_inLoop)) harr3⟩
      | exit id => exact ⟨_, a2, w2, ⟨.exit id, fm2, T2, σ2, ν2, rfl, h2, ⟨ms2, h3, mk2⟩, h6, h4, h5⟩, .pass (x := .inLoop c) rfl (fun _ _ => .inl (by simp [AExit.to])) harr⟩
      | goto l => exact ⟨_, a2, w2, ⟨.goto l, fm2, T2, σ2, ν2, rfl, h2, ⟨ms2, h3, mk2⟩, h6, h4, h5⟩, .pass (x := .inLoop c) rfl (fun _ _ => .inl (by simp [AExit.to])) harr⟩
      | ret => exact ⟨_, a2, w2, ⟨.ret, fm2, T2, σ2, ν2, rfl, h2, ⟨ms2, h3, mk2⟩, h6, h4, h5⟩, .pass (x := .inLoop c) rfl (fun _ _ => .inl (by simp [AExit.to])) harr⟩
  obtain ⟨e, a', w', hp, harr⟩ := key m0 fm T σ ν a w [] h0 hs (MarksOk.nil _ _) hA (NuLeB.refl _ _) (Fr.refl _ _)
  exact ⟨e, a', w', hp, .of_steps (.one (fenced_calm hbb hrm rfl) stepR_loop) harr⟩
end
end Go.Abs

set_option linter.unusedVariables false
set_option linter.unusedSimpArgs false
namespace Go.Abs
theorem putObj_self {w : World} {l : Nat} {o o' : Obj} (h : w.heap[l]? = some o) : (w.putObj l o').heap[l]? = some o' := by
  simp only [World.putObj]
  rw [Array.getElem?_setIfInBounds_self_of_lt (size_of h)]
theorem putObj_ne {w : World} {l b : Nat} {o' : Obj} (h : l ≠ b) : (w.putObj l o').heap[b]? = w.heap[b]? := by
  simp only [World.putObj]
  rw [Array.getElem?_setIfInBounds_ne h]
theorem RecsOk.same {ν : Nu} {w w' : World} : ∀ {A : Amb} {σ : List St}, RecsOk ν A σ w → (∀ x ∈ A, w'.heap[x.1]? = w.heap[x.1]?) → RecsOk ν A σ w'
  | [], [], _, _ => trivial
  | [], _ :: _, h, _ => h.elim
  | _ :: _, [], h, _ => h.elim
  | (l, H) :: A, st :: σ, ⟨⟨rc, h1, h1'⟩, h2, h3⟩, hw => ⟨⟨rc, by rw [hw _ (.head _)]; exact h1, h1'⟩, RecsOk.same h2 (fun x hx => hw x (.tail _ hx)), h3⟩
/-- a record is written -/
theorem RecsOk.put {ν : Nu} {w : World} : ∀ {A : Amb} {σ : List St}, RecsOk ν A σ w → ∀ {i l : Nat} {H : Host}, A[i]? = some (l, H) → ∀ {st : St}, σ[i]? = some st →
    ∃ rc : Loop, w.heap[l]? = some (.loop rc) ∧ rc.state = st.1 ∧ rc.pending = st.2 ∧ rc.params = H.ps ∧ rc.assign = H.assign ∧ rc.body = H.body ∧ H.n ≤ rc.tmps.size ∧ (∀ t v, look H.fm t = some v → VR ν v (rc.tmps.getD t undef)) ∧
      ∀ (s : LoopState) (pd : Option Code), RecsOk ν A (σ.set i (s, pd)) (w.putObj l (.loop { rc with state := s, pending := pd }))
  | (l0, H0) :: A, st0 :: σ, ⟨h1, h2, h3⟩, 0, l, H, hi, st, hs => by
    simp at hi hs
    obtain ⟨rfl, rfl⟩ := hi
    subst hs
    obtain ⟨rc, g1, g2, g3, g4, g5, g6, g7, g8⟩ := h1
    exact ⟨rc, g1, g2, g3, g4, g5, g6, g7, g8, fun s pd => ⟨⟨{ rc with state := s, pending := pd }, putObj_self g1, rfl, rfl, g4, g5, g6, g7, g8⟩, h2.same fun x hx => putObj_ne (Ne.symm (h3 x hx)), h3⟩⟩
  | (l0, H0) :: A, st0 :: σ, ⟨h1, h2, h3⟩, i + 1, l, H, hi, st, hs => by
    obtain ⟨rc, g1, g2, g3, g4, g5, g6, g7, g8, g9⟩ := h2.put (i := i) (by simpa using hi) (by simpa using hs)
    have hmem : (l, H) ∈ A := List.mem_of_getElem? (i := i) (by simpa using hi)
    refine ⟨rc, g1, g2, g3, g4, g5, g6, g7, g8, fun s pd => ⟨?_, g9 s pd, h3⟩⟩
    obtain ⟨r0, k1, k2⟩ := h1
    exact ⟨r0, by rw [putObj_ne (h3 _ hmem)]; exact k1, k2⟩
section
variable {E : Env} {n k : Nat} {A : Amb} {fm : Fm} {T : Tab} {σ : List St} {post : AExit → Fm → Tab → List St → Prop}
end
end Go.Abs

set_option linter.unusedVariables false
set_option linter.unusedSimpArgs false
namespace Go.Abs
/-- blocks were laid at the end; nothing else -/
structure Gr (w w' : World) : Prop where
  os : w'.os = w.os
  tape : w'.tape = w.tape
  output : w'.output = w.output
  size : w.heap.size ≤ w'.heap.size
  low : ∀ b : Nat, b < w.heap.size → w'.heap[b]? = w.heap[b]?
theorem Gr.alloc (w : World) (o : Obj) : Gr w (w.alloc o) :=
  ⟨rfl, rfl, rfl, by simp, fun b hb => by
    simp only [World.alloc]
    rw [Array.getElem?_push, if_neg (by omega)]⟩
theorem Gr.trans {a b c : World} (h : Gr a b) (k : Gr b c) : Gr a c :=
  ⟨k.os.trans h.os, k.tape.trans h.tape, k.output.trans h.output, Nat.le_trans h.size k.size, fun x hx => (k.low x (Nat.lt_of_lt_of_le hx h.size)).trans (h.low x hx)⟩
theorem Gr.fr {A : Amb} {ν : Nu} {T : Tab} {w w' : World} (h : Gr w w') : Fr (OwnA A ν T) w (OwnA A ν T) w' := ⟨h.os, h.tape, h.output, h.size, fun b hb _ => h.low b hb, fun b hb => .inl hb⟩
section
variable {E : Env} {n k : Nat} {A : Amb} {fm : Fm} {T : Tab} {σ : List St} {post : AExit → Fm → Tab → List St → Prop}
end
end Go.Abs

set_option linter.unusedVariables false
set_option linter.unusedSimpArgs false
namespace Go.Abs
/-! ## a function's contract from its body's walk; bytes of whatever kind -/
theorem small_of_awp {E : Env} (hE : EnvOk E) {f : FuncId} {fn : Func} {c : Code} (hf : E.P.funcs[f]? = some fn) (hb : fn.body = some c) {args : List AVal} {T0 : Tab} {v : AVal} {T1 : Tab} (hle : Nat.ble args.length fn.ntmps = true)
    (h : AWp E fn.ntmps T0.length c (argF args 0) T0 fun ex fm T => (ex = .normal ∨ ex = .ret) ∧ T = T1 ∧ ∃ cs us, aRes E fm T fn.results.toList = some (cs, us) ∧ allP cs ∧ retV us = v) : Small E.P E.gl f args T0 v T1 := by
  intro ν w vs hr hv
  refine callsIn_wide.1 (callsIn_of_wp_marks (F := Fence.wide) (n := 0) hf hb trivial ?_)
  have hs : SRel E [] ν (argF args 0) T0 fn.ntmps { tmps := vs ++ Array.replicate (fn.ntmps - vs.size) undef, defers := [] } w := by
    refine ⟨hr, fun t v hl => ?_, by simp; omega, rfl⟩
    obtain ⟨h1, h2, h3⟩ := argF_look hv hl
    simp only [Nat.sub_zero] at h2 h3
    have : (vs ++ Array.replicate (fn.ntmps - vs.size) undef).getD t undef = vs.toList.getD t undef := by
      have h2' : t < vs.size := by simpa using h2
      simp [Array.getElem?_append_left h2', List.getD]
    rw [this]; exact h3
  refine wpIn_mono (h none [] ν _ w hs (fun l h => by cases h)) fun e a' w' hP => ?_
  obtain ⟨ex, fm', T', ν', e1, ⟨hex, hT, cs2, us, h2, h3, hu⟩, ⟨ms, s', mk⟩, n', f'⟩ := hP
  subst e1 hT hu
  have post : LeavesInM Fence.wide 0 E.P fn a'.tmps (fun e w' => ∃ x ν', e = .returned x ∧ VR ν' (retV us) x ∧ HR E.gl ν' T' w' ∧ NuLeB T0.length ν ν' ∧ Fr (Own ν T0) w (Own ν' T') w') a'.defers .returning w' := by
    have hd : a'.defers = ms := by rw [s'.defers, List.append_nil]
    rw [hd]
    refine leaves_marks ms w' mk.1 mk.2 (Sh.refl w.heap.size w') fun w2 hsh => ?_
    have s2 : SRel E (ms ++ []) ν' fm' T' fn.ntmps a' w2 := ⟨s'.hr.sh hsh, s'.fm, s'.size, s'.defers⟩
    obtain ⟨xs, g1, g2⟩ := aRes_sound hE s2 h2 h3
    have hres : (results fn a'.tmps).run E.P w2 = .ok (if h : xs.toArray.size = 1 then xs.toArray[0] else .tuple xs.toArray) w2 := by
      have : (fn.results.mapM (resF a'.tmps)).run E.P w2 = .ok xs.toArray w2 := by
        rw [Array.mapM_eq_mapM_toList]
        simp [g1]
      unfold results
      rw [Sem.run_bind]
      refine (congrArg (fun r => Result.andThen r _) ((congrArg (fun g => Sem.run E.P (Array.mapM g fn.results) w2) (funext fun x => ?_)).trans this)).trans rfl
      cases x <;> rfl
    exact ⟨_, hres, _, ν', rfl, retV_VR g2, s2.hr, n', f'.sh rfl hsh⟩
  rcases hex with rfl | rfl
  · exact post
  · exact post

section
variable {E : Env} {n k : Nat} {fm : Fm} {T : Tab} {post : AExit → Fm → Tab → Prop}
end
end Go.Abs

set_option linter.unusedVariables false
namespace Go.Abs
/-! ## a chain of codes -/
def chn : List Code → Code → Code
  | [], r => r
  | c :: l, r => .seq c (chn l r)
def runs (E : Env) (n : Nat) (orc : Orc) (f : Nat) : List Code → Fm → Tab → List (Option Bool) → Out
  | [], fm, T, ds => ⟨[], .normal, fm, T, ds⟩
  | c :: l, fm, T, ds => seqO (run E n orc f c fm T ds) (runs E n orc f l)
theorem AWp.chn {E : Env} (hE : EnvOk E) (hm : E.P.follows .mixedOrders = true) {n k : Nat} {orc : Orc} (hk : k ≤ orc.kb) {f : Nat} {post : AExit → Fm → Tab → Prop} {rest : Code} : ∀ {cs : List Code}, (∀ c ∈ cs, OrcOk E n orc c) → ∀ {fm : Fm} {T : Tab} {ds : List (Option Bool)} {o : Out}, runs E n orc f cs fm T ds = o → allP o.cs → o.ex = .normal → AWp E n k rest o.fm o.tab post → AWp E n k (Abs.chn cs rest) fm T post
  | [], _, fm, T, ds, o, ho, hc, hx, h => by subst ho; exact h
  | c :: l, hO, fm, T, ds, o, ho, hc, hx, h => by
    refine AWp.seq ?_
    simp only [runs] at ho
    have hrun := fun hh => (run_sound hE hm hk (hO c (.head _)) f (c := c) (fun _ _ h => h) (fm := fm) (T := T) (ds := ds) hh).1
    generalize run E n orc f c fm T ds = o1 at ho hrun
    obtain ⟨cs1, ex1, fm1, T1, ds1⟩ := o1
    cases ex1 with
    | normal =>
      simp only [seqO] at ho
      generalize hr : runs E n orc f l fm1 T1 ds1 = o2 at ho
      obtain ⟨cs2, ex2, fm2, T2, ds2⟩ := o2
      subst ho
      simp only at hc hx h
      rw [allP_append] at hc
      refine AWp.mono (hrun hc.1) fun ex fm' T' hP => ?_
      obtain ⟨e1, e2, e3⟩ := hP
      subst e1 e2 e3
      exact AWp.chn hE hm hk (fun c hc => hO c (.tail _ hc)) hr hc.2 hx h
    | exit id => subst ho; cases hx
    | goto l => subst ho; cases hx
    | ret => subst ho; cases hx
def frontC : Nat → Code → List Code
  | n + 1, .seq a b => a :: frontC n b
  | _, _ => []
def backC : Nat → Code → Code
  | n + 1, .seq a b => backC n b
  | _, c => c
theorem chn_split : ∀ (n : Nat) (c : Code), chn (frontC n c) (backC n c) = c
  | 0, c => by cases c <;> rfl
  | n + 1, c => by
    cases c with
    | seq a b => simp only [frontC, backC, chn, chn_split n b]
    | _ => rfl
theorem AWp.cut {E : Env} (hE : EnvOk E) (hm : E.P.follows .mixedOrders = true) {n k : Nat} {f : Nat} {post : AExit → Fm → Tab → Prop} {c : Code} (j : Nat) {fm : Fm} {T : Tab} {ds : List (Option Bool)} {o : Out} (ho : runs E n ⟨k, []⟩ f (frontC j c) fm T ds = o) (hc : Ok o) (hx : o.ex = .normal) (h : AWp E n k (backC j c) o.fm o.tab post) : AWp E n k c fm T post := by
  have := AWp.chn hE hm (orc := ⟨k, []⟩) (Nat.le_refl k) (cs := frontC j c) (fun c _ => OrcOk.nil) ho hc.h hx h
  rwa [chn_split] at this
end Go.Abs

set_option linter.unusedVariables false
set_option linter.unusedSimpArgs false
namespace Go.Abs
/-! ## A region that draws its order and ends in a call of yield -/
section
variable {c : Cfg} {vals : Fm} {ν0 : Nu} {T0 : Tab} {w0 : World} {D : List Deferred} {rr : Option Nat} {Q : Exit → Act → World → Prop}
structure Front (full : List Oper) (c : Cfg) (oy : Oper) (l2 : List Oper) : Prop where
  eq : full = c.ops ++ oy :: l2
  g : ∀ o ∈ c.ops, o.guard = none
  b : ∀ j, j < c.ops.length → bit (maskOf c.anc oy.after.toList) j = true
  e : ∀ e ∈ oy.after.toList, bindsB e = true → e.on < c.ops.length
  a : ∀ o ∈ l2, ∃ e ∈ o.after.toList, bindsB e = true ∧ c.ops.length ≤ e.on
theorem Front.lt {full : List Oper} {oy : Oper} {l2 : List Oper} (F : Front full c oy l2) {i : Nat} (h : i < c.ops.length) : full.toArray[i]? = c.ops[i]? := by
  rw [F.eq]; simp [List.getElem?_append_left h]
theorem Front.at {full : List Oper} {oy : Oper} {l2 : List Oper} (F : Front full c oy l2) : full.toArray[c.ops.length]? = some oy := by
  rw [F.eq]; simp
theorem Front.len {full : List Oper} {oy : Oper} {l2 : List Oper} (F : Front full c oy l2) : full.length = c.ops.length + (l2.length + 1) := by
  rw [F.eq]; simp
/-- nothing behind the front is ready before all of the front is listed -/
theorem Front.ready {full : List Oper} {oy : Oper} {l2 : List Oper} (F : Front full c oy l2) (g : Geo c) (hanc : c.anc = ancsGo c.ops []) {L Lf : Array Bool} (hfr : ∀ i, i < c.ops.length → (ls L i ↔ ls Lf i)) (hno : ∀ i, c.ops.length ≤ i → ¬ ls L i)
    (hcl : ∀ (i : Nat) (o : Oper), c.ops[i]? = some o → ls Lf i → ∀ e ∈ o.after.toList, bindsB e = true → ls Lf e.on) (hlf : ∀ i, ls Lf i → i < c.ops.length) {i : Nat} (hi : i ∈ Region.ready .any full.toArray L) (hge : c.ops.length ≤ i) : i = c.ops.length ∧ ∀ j, j < c.ops.length → ls Lf j := by
  obtain ⟨h1, o, h2, h3⟩ := mem_ready.1 hi
  have h2' : full[i]? = some o := by simpa using h2
  rw [F.eq, List.getElem?_append_right hge] at h2'
  have back : ∀ e ∈ o.after.toList, bindsB e = true → ls L e.on := fun e he hb => h3 e (by simpa using he) (by rw [bindsB_eq]; exact hb)
  cases hk : i - c.ops.length with
  | zero =>
    rw [hk] at h2'
    simp at h2'
    subst h2'
    refine ⟨by omega, fun j hj => ?_⟩
    have hb := F.b j hj
    obtain ⟨e, e1, e2, e3⟩ := maskOf_bit hb
    have hlt := F.e e e1 e2
    have hs := (hfr e.on hlt).1 (back e e1 e2)
    rcases e3 with rfl | e3
    · exact hs
    · have e4 : bit (c.an e.on) j = true := by
        unfold Cfg.an; rw [nthN_eq]; exact e3
      exact g.down (S := ls Lf) hcl e.on hs j e4
  | succ k =>
    rw [hk] at h2'
    simp at h2'
    obtain ⟨e, e1, e2, e3⟩ := F.a o (List.mem_of_getElem? h2')
    exact absurd (back e e1 e2) (hno e.on e3)
end
end Go.Abs

set_option linter.unusedVariables false
set_option linter.unusedSimpArgs false
namespace Go.Abs
section
variable {E : Env} {n k : Nat} {A : Amb} {fm : Fm} {T : Tab} {σ : List St} {post : AExit → Fm → Tab → List St → Prop}
end
end Go.Abs

set_option linter.unusedVariables false
set_option linter.unusedSimpArgs false
namespace Go.Abs
section
variable {E : Env} {n k : Nat} {fm : Fm} {T : Tab} {post : AExit → Fm → Tab → Prop}
end
end Go.Abs

set_option linter.unusedVariables false
set_option linter.unusedSimpArgs false
namespace Go.Abs
/-- an object that is read, told once more -/
theorem HR.pushObj {gl : Nat → Option AVal} {ν : Nu} {T : Tab} {w : World} (hr : HR gl ν T w) {o : AObj} {l : Loc} (hw : o.own = false) (hnf : o.data.noFam = true) (hg : o.g = l.g) (ho : ObjRel ν o l w) (hb : 0 < l.room → l.a.block < w.heap.size)
    (hs : ∀ p o1 l1, T[p]? = some (some o1) → o1.own = true → ν p = some l1 → 0 < l1.room → 0 < l.room → l1.a.block ≠ l.a.block) :
    HR gl (upd ν T.length l) (T ++ [some o]) w ∧ NuLe ν (upd ν T.length l) ∧ (∀ b, Own (upd ν T.length l) (T ++ [some o]) b → Own ν T b) := by
  have hn : ν T.length = none := by
    cases hν : ν T.length with
    | none => rfl
    | some l => have := hr.lt _ l hν; omega
  have hm : NuLe ν (upd ν T.length l) := NuLe.upd_new (ν := ν) l hn
  have same : ∀ p, p ≠ T.length → upd ν T.length l p = ν p := fun p hp => upd_other ν l hp
  have self : upd ν T.length l T.length = some l := upd_same ν _ l
  have getT : ∀ p x, (T ++ [some o])[p]? = some x → (p < T.length ∧ T[p]? = some x) ∨ (p = T.length ∧ x = some o) := by
    intro p x hx
    rcases Nat.lt_or_ge p T.length with hp | hp
    · rw [List.getElem?_append_left hp] at hx; exact .inl ⟨hp, hx⟩
    · rw [List.getElem?_append_right hp] at hx
      have hlt := (List.getElem?_eq_some_iff.1 hx).1
      have hp0 : p = T.length := by simp at hlt; omega
      subst hp0
      simp at hx
      exact .inr ⟨rfl, hx.symm⟩
  have hown : ∀ b, Own (upd ν T.length l) (T ++ [some o]) b → Own ν T b := by
    rintro b ⟨p, o1, l1, h1, h2, h3, h4, h5⟩
    rcases getT p _ h1 with ⟨hp, h1⟩ | ⟨hp, h1⟩
    · rw [same p (by omega)] at h3; exact ⟨p, o1, l1, h1, h2, h3, h4, h5⟩
    · injection h1 with h1; subst h1; rw [hw] at h2; cases h2
  refine ⟨⟨fun p o1 l1 h1 hl => ?_, fun p l1 hl => ?_, fun p hp => ?_, fun p l1 hl h0 => ?_, fun p q o1 o' l1 l' h1 h1' hwn hne hl hl' h0 h0' => ?_, fun b d hb => ?_, fun p o1 l1 h1 hl => ?_⟩, hm, hown⟩
  · rcases getT p _ h1 with ⟨hp, k1⟩ | ⟨hp, k1⟩
    · rw [same p (by omega)] at hl
      obtain ⟨g1, g2⟩ := hr.obj p o1 l1 k1 hl
      exact ⟨g1, g2.kept hm fun _ => rfl⟩
    · subst hp; rw [self] at hl; injection hl with hl; subst hl
      injection k1 with k1; subst k1
      exact ⟨hg, ho.kept hm fun _ => rfl⟩
  · by_cases e : p = T.length
    · subst e; simp
    · rw [same p e] at hl; have := hr.lt p l1 hl; simp; omega
  · rcases getT p _ hp with ⟨hp', h1⟩ | ⟨hp', h1⟩
    · rw [same p (by omega)]; exact hr.hole p h1
    · cases h1
  · by_cases e : p = T.length
    · subst e; rw [self] at hl; injection hl with hl; subst hl; exact hb h0
    · rw [same p e] at hl; exact hr.blk p l1 hl h0
  · rcases getT p _ h1 with ⟨hp, k1⟩ | ⟨hp, k1⟩
    · rw [same p (by omega)] at hl
      rcases getT q _ h1' with ⟨hq, k2⟩ | ⟨hq, k2⟩
      · rw [same q (by omega)] at hl'
        exact hr.sep p q o1 o' l1 l' k1 k2 hwn hne hl hl' h0 h0'
      · subst hq; rw [self] at hl'; injection hl' with hl'; subst hl'
        exact hs p o1 l1 k1 hwn hl h0 h0'
    · injection k1 with k1; subst k1; rw [hw] at hwn; cases hwn
  · obtain ⟨h1, h2⟩ := hr.glob b d hb
    exact ⟨fun h3 => h1 (hown b h3), h2⟩
  · rcases getT p _ h1 with ⟨hp, k1⟩ | ⟨hp, k1⟩
    · rw [same p (by omega)] at hl
      exact (hr.fam p o1 l1 k1 hl).sub hown
    · injection k1 with k1; subst k1
      exact FamOk.no hnf
end Go.Abs

set_option linter.unusedVariables false
set_option linter.unusedSimpArgs false
namespace Go.Abs
/-! ## Families: what stands in them; contracts over one row -/
def zOf : AVal → List Int | .frows _ _ (z :: _) _ => z | .fam (z :: _) => z | _ => []
def ZOf : AVal → List (List Int) | .frows _ _ (_ :: Z) _ => Z | .fam (_ :: Z) => Z | _ => []
/-- a row of a family, told as a slice of one more object -/
theorem small_row {P : Program} {gl : Nat → Option AVal} {f : FuncId} {args args2 : List AVal} {T T2 : Tab} {v : AVal} {T1 : Tab} (i p g ii n : Nat) (Z : List (List Int)) (ow : Bool) (et et2 : TypeId) (hi : args[i]? = some (.frow p g ii n)) (hp : T[p]? = some (some ⟨.fam Z, g, ow, et⟩))
    (e1 : args2 = args.set i (.slice 1 T.length 0 0 n none)) (e2 : T2 = T ++ [some ⟨.ints .u8 (Z.getD ii []), 0, false, et2⟩]) (h : Small P gl f args2 T2 v T1) : Small P gl f args T v T1 := by
  subst e1 e2
  intro ν w vs hr hvs
  have hlt := (List.getElem?_eq_some_iff.1 hi).1
  have hx := hvs.2 i hlt
  rw [show args.getD i un = .frow p g ii n by simp [List.getD, hi]] at hx
  obtain ⟨l', q1, q2, q3, q4, q5⟩ : ∃ l' : Loc, 0 = l'.g ∧ ObjRel ν ⟨.ints .u8 (Z.getD ii []), 0, false, et2⟩ l' w ∧ (0 < l'.room → l'.a.block < w.heap.size) ∧
      (∀ p1 o1 l1, T[p1]? = some (some o1) → o1.own = true → ν p1 = some l1 → 0 < l1.room → 0 < l'.room → l1.a.block ≠ l'.a.block) ∧ VR (upd ν T.length l') (.slice 1 T.length 0 0 n none) (vs.toList.getD i undef) := by
    generalize vs.toList.getD i undef = xv at hx ⊢
    cases hx with
    | frow bo c hl hg hri =>
      rename_i l
      obtain ⟨f1, f2⟩ := hr.fam p _ l hp hl Z rfl
      have hlt : ii < l.rw.length := (List.getElem?_eq_some_iff.1 hri).1
      obtain ⟨bo', c', d1, d0, d2⟩ := f2 ii (f1 ▸ hlt)
      have d3 : l.rw.getD ii undef = .slice bo n c := by simp [List.getD, hri]
      rw [d3] at d1
      injection d1 with d4 d5 d6
      subst d4 d5 d6
      rcases Nat.eq_zero_or_pos c with hc | hc
      · have h0 : (Z.getD ii []).length = 0 := by omega
        refine ⟨⟨⟨0, 0, none⟩, 0, 0⟩, rfl, ⟨.ints _ _, .inr (.inr ⟨h0, rfl⟩)⟩, fun hc => absurd hc (by simp), fun _ _ _ _ _ _ _ hc => absurd hc (by simp), ?_⟩
        rw [h0, hc]
        exact .sliceZ bo (upd_same _ _ _) rfl (.inr ⟨rfl, Nat.le_refl _⟩)
      · obtain ⟨b, rfl, g2, g3, g4⟩ := d2 hc
        refine ⟨⟨b, 0, c⟩, rfl, ⟨.ints _ _, .inr (.inl ⟨rfl, d0, fun j hj => ⟨_, g4 j hj, .int _ _⟩⟩)⟩, fun _ => g3, fun p1 ob l1 t1 t2 t3 t4 t5 e => g2 ⟨p1, ob, l1, t1, t2, t3, t4, e⟩, ?_⟩
        exact .slice (upd_same _ _ _) rfl ⟨d0, (fun k hk => by cases hk), by simp [Addr.add], by simp, fun _ => by simp⟩
    | frowOld x hx hl hg =>
      have := (hr.obj p _ _ hp hl).1
      simp only at this
      omega
  obtain ⟨r1, r2, r3⟩ := hr.pushObj (o := ⟨.ints .u8 (Z.getD ii []), 0, false, et2⟩) rfl rfl q1 q2 q3 q4
  refine (h _ w vs r1 ⟨by simpa using hvs.1, fun j hj => ?_⟩).mono ?_
  · have hj' : j < args.length := by simpa using hj
    by_cases e : i = j
    · subst e
      rw [show (args.set i (.slice 1 T.length 0 0 n none)).getD i un = .slice 1 T.length 0 0 n none by simp [List.getD, hlt]]
      exact q5
    · rw [show (args.set i (.slice 1 T.length 0 0 n none)).getD j un = args.getD j un by simp [List.getD, List.getElem?_set, e]]
      exact (hvs.2 j hj').mono r2
  · rintro e w' ⟨x, ν', rfl, h1, h2, h3, h4⟩
    refine ⟨x, ν', rfl, h1, h2, (r2.b T.length).trans (fun p hp => h3 p (by simp; omega)), ?_⟩
    exact ⟨h4.os, h4.tape, h4.output, h4.size, fun b hb hO => h4.block b hb (fun h => hO (r3 b h)), fun b hb => (h4.own b hb).imp (r3 b) id⟩

/-! ## The table, told otherwise -/
def Conv (gl : Nat → Option AVal) (ids : List Nat) (T T' : Tab) : Prop := ∀ (ν : Nu) (w : World), HR gl ν T w → (∀ p ∈ ids, (ν p).isSome) → ∃ ν', HR gl ν' T' w ∧ NuLe ν ν' ∧ ∀ b, Own ν' T' b → Own ν T b
theorem NuLe.isSome {ν ν' : Nu} (h : NuLe ν ν') {p : Nat} (hp : (ν p).isSome) : (ν' p).isSome := by
  obtain ⟨l, hl⟩ := Option.isSome_iff_exists.1 hp
  obtain ⟨l', h1, _⟩ := h p l hl
  rw [h1]; rfl
theorem Conv.trans {gl : Nat → Option AVal} {ids : List Nat} {T T1 T2 : Tab} (h : Conv gl ids T T1) (k : Conv gl ids T1 T2) : Conv gl ids T T2 := by
  intro ν w hr hi
  obtain ⟨ν1, h1, h2, h3⟩ := h ν w hr hi
  obtain ⟨ν2, k1, k2, k3⟩ := k ν1 w h1 (fun p hp => h2.isSome (hi p hp))
  exact ⟨ν2, k1, h2.trans k2, fun b hb => h3 b (k3 b hb)⟩
theorem AWp.conv {E : Env} {n k : Nat} {c : Code} {fm : Fm} {ids : List Nat} {T T' : Tab} {post : AExit → Fm → Tab → Prop} (hc : Conv E.gl ids T T') (hi : ∀ p ∈ ids, ∃ t v, look fm t = some v ∧ hasId p v = true) (h : AWp E n k c fm T' post) : AWp E n k c fm T post := by
  intro rr D ν a w hs hrd
  obtain ⟨ν', h1, h2, h3⟩ := hc ν w hs.hr (fun p hp => by obtain ⟨t, v, e1, e2⟩ := hi p hp; exact (hs.fm t v e1).hasId e2)
  refine wpIn_mono (h rr D ν' a w ⟨h1, fun t v hv => (hs.fm t v hv).mono h2, hs.size, hs.defers⟩ hrd) fun e a' w' ⟨ex, f1, T1, ν1, g1, g2, g3, g4, g5⟩ => ⟨ex, f1, T1, ν1, g1, g2, g3, (h2.b k).trans g4, ?_⟩
  exact ⟨g5.os, g5.tape, g5.output, g5.size, fun b hb hO => g5.block b hb (fun h => hO (h3 b h)), fun b hb => (g5.own b hb).imp (h3 b) id⟩
theorem To.conv {E : Env} {n k : Nat} {c : Code} {fm : Fm} {T : Tab} {ex : AExit} {fm1 : Fm} {ids : List Nat} {T1 T2 : Tab} (h : To E n k c fm T ex fm1 T1) (hc : Conv E.gl ids T1 T2) (hi : ∀ p ∈ ids, ∃ t v, look fm1 t = some v ∧ hasId p v = true) : To E n k c fm T ex fm1 T2 := by
  intro rr D ν a w hs hrd
  refine wpIn_mono (h rr D ν a w hs hrd) fun e a' w' ⟨ex', f1, T', ν1, g1, ⟨e1, e2, e3⟩, ⟨ms, s', mk⟩, g4, g5⟩ => ?_
  subst e1 e2 e3
  obtain ⟨ν2, h1, h2, h3⟩ := hc ν1 w' s'.hr (fun p hp => by obtain ⟨t, v, e1, e2⟩ := hi p hp; exact (s'.fm t v e1).hasId e2)
  exact ⟨_, _, T2, ν2, g1, ⟨rfl, rfl, rfl⟩, ⟨ms, ⟨h1, fun t v hv => (s'.fm t v hv).mono h2, s'.size, s'.defers⟩, mk⟩, g4.trans (h2.b k), g5.sub h3⟩
theorem Small.conv {P : Program} {gl : Nat → Option AVal} {f : FuncId} {args : List AVal} {T : Tab} {v : AVal} {ids : List Nat} {T1 T2 : Tab} (h : Small P gl f args T v T1) (hc : Conv gl ids T1 T2) (hi : ∀ p ∈ ids, hasId p v = true) : Small P gl f args T v T2 := by
  intro ν w vs hr hvs
  refine (h ν w vs hr hvs).mono ?_
  rintro e w' ⟨x, ν', rfl, h1, h2, h3, h4⟩
  obtain ⟨ν2, k1, k2, k3⟩ := hc ν' w' h2 (fun p hp => h1.hasId (hi p hp))
  exact ⟨x, ν2, rfl, h1.mono k2, k1, h3.trans (k2.b _), h4.sub k3⟩

section
variable {gl : Nat → Option AVal} {ν : Nu} {T : Tab} {w : World}
end
/-- a slice of one slice, as a family begins -/
theorem Conv.first {gl : Nat → Option AVal} {T : Tab} {x gx : Nat} {v : AVal} {ex : TypeId} (eF : TypeId)
    (hx : T[x]? = some (some ⟨.agg [v], gx, true, ex⟩)) {T' : Tab} (e : T' = (T ++ [some (⟨.fam [], 0, true, eF⟩ : AObj)]).set x (some ⟨.frows T.length 0 [] [v], gx, true, ex⟩)) : Conv gl [x] T T' := by
  subst e
  intro ν w h hi
  obtain ⟨lx, hlx⟩ := Option.isSome_iff_exists.1 (hi x (.head _))
  have hxlt := (List.getElem?_eq_some_iff.1 hx).1
  have hn : ν T.length = none := by
    cases hν : ν T.length with
    | none => rfl
    | some l => have := h.lt _ l hν; omega
  obtain ⟨l0, hl0⟩ : ∃ l0 : Loc, l0 = ⟨⟨0, 0, none⟩, 0, 0⟩ := ⟨_, rfl⟩
  have hm : NuLe ν (upd ν T.length l0) := NuLe.upd_new (ν := ν) l0 hn
  have same : ∀ p, p ≠ T.length → upd ν T.length l0 p = ν p := fun p hp => upd_other ν l0 hp
  have self : upd ν T.length l0 T.length = some l0 := upd_same ν _ l0
  have getT : ∀ p o, (T ++ [some (⟨.fam [], 0, true, eF⟩ : AObj)])[p]? = some o → (p < T.length ∧ T[p]? = some o) ∨ (p = T.length ∧ o = some ⟨.fam [], 0, true, eF⟩) := by
    intro p o ho
    rcases Nat.lt_or_ge p T.length with hp | hp
    · rw [List.getElem?_append_left hp] at ho; exact .inl ⟨hp, ho⟩
    · rw [List.getElem?_append_right hp] at ho
      have hlt := (List.getElem?_eq_some_iff.1 ho).1
      have hp0 : p = T.length := by simp at hlt; omega
      subst hp0
      simp at ho
      exact .inr ⟨rfl, ho.symm⟩
  have hown : ∀ b, Own (upd ν T.length l0) (T ++ [some (⟨.fam [], 0, true, eF⟩ : AObj)]) b → Own ν T b := by
    rintro b ⟨p, o, l, h1, h2, h3, h4, h5⟩
    rcases getT p _ h1 with ⟨hp, h1⟩ | ⟨hp, h1⟩
    · rw [same p (by omega)] at h3; exact ⟨p, o, l, h1, h2, h3, h4, h5⟩
    · subst hp; rw [self] at h3; injection h3 with h3; subst h3; subst hl0; simp at h4
  have hr1 : HR gl (upd ν T.length l0) (T ++ [some (⟨.fam [], 0, true, eF⟩ : AObj)]) w := by
    refine ⟨fun p o l ho hl => ?_, fun p l hl => ?_, fun p hp => ?_, fun p l hl h0 => ?_, fun p q o o' l l' ho ho' hw hne hl hl' h0 h0' => ?_, fun b d hb => ?_, fun p o l ho hl => ?_⟩
    · rcases getT p _ ho with ⟨hp, h1⟩ | ⟨hp, h1⟩
      · rw [same p (by omega)] at hl
        obtain ⟨g1, g2⟩ := h.obj p o l h1 hl
        exact ⟨g1, g2.kept hm fun _ => rfl⟩
      · subst hp; rw [self] at hl; injection hl with hl; subst hl; subst hl0
        injection h1 with h1; subst h1
        exact ⟨rfl, .fam _, .inr (.inr ⟨rfl, rfl⟩)⟩
    · by_cases e : p = T.length
      · subst e; simp
      · rw [same p e] at hl; have := h.lt p l hl; simp; omega
    · rcases getT p _ hp with ⟨hp', h1⟩ | ⟨hp', h1⟩
      · rw [same p (by omega)]; exact h.hole p h1
      · cases h1
    · by_cases e : p = T.length
      · subst e; rw [self] at hl; injection hl with hl; subst hl; subst hl0; simp at h0
      · rw [same p e] at hl; exact h.blk p l hl h0
    · rcases getT p _ ho with ⟨hp, h1⟩ | ⟨hp, h1⟩
      · rcases getT q _ ho' with ⟨hq, h2⟩ | ⟨hq, h2⟩
        · rw [same p (by omega)] at hl; rw [same q (by omega)] at hl'
          exact h.sep p q o o' l l' h1 h2 hw hne hl hl' h0 h0'
        · subst hq; rw [self] at hl'; injection hl' with hl'; subst hl'; subst hl0; simp at h0'
      · subst hp; rw [self] at hl; injection hl with hl; subst hl; subst hl0; simp at h0
    · obtain ⟨h1, h2⟩ := h.glob b d hb
      exact ⟨fun h3 => h1 (hown b h3), h2⟩
    · rcases getT p _ ho with ⟨hp, h1⟩ | ⟨hp, h1⟩
      · rw [same p (by omega)] at hl
        exact (h.fam p o l h1 hl).sub hown
      · subst hp; rw [self] at hl; injection hl with hl; subst hl; subst hl0
        injection h1 with h1; subst h1
        intro Z hZ
        injection hZ with hZ; subst hZ
        exact ⟨rfl, fun i hi => by simp at hi⟩
  have hob := h.obj x _ lx hx hlx
  have hx1 : (T ++ [some (⟨.fam [], 0, true, eF⟩ : AObj)])[x]? = some (some ⟨.agg [v], gx, true, ex⟩) := by rw [List.getElem?_append_left hxlt]; exact hx
  have hlx1 : upd ν T.length l0 x = some lx := by rw [same x (by omega)]; exact hlx
  have hor : ObjRel (upd ν T.length l0) ⟨.frows T.length 0 [] [v], gx, true, ex⟩ lx w := by
    obtain ⟨_, h2, h3⟩ := hr1.obj x _ lx hx1 hlx1
    refine ⟨.frows _ _ _ _, ?_⟩
    rcases h3 with ⟨h3, h4⟩ | ⟨h3, _⟩ | ⟨h3, _⟩
    · obtain ⟨cur, c1, c2, c3⟩ := h4.row
      exact .inl ⟨rfl, ⟨⟨cur, c1, c2, c3⟩, h4.spot, h4.room⟩⟩
    · cases h3
    · simp [AVal.len] at h3
  obtain ⟨k1, k2⟩ := hr1.retell hx1 hlx1 (o' := ⟨.frows T.length 0 [] [v], gx, true, ex⟩) rfl id hor (FamOk.no rfl)
  exact ⟨_, k1, hm, fun b hb => hown b (k2 b hb)⟩
/-! ## Summaries over rows -/
theorem vAt_frow : ∀ {args : List AVal} {i p g ii n : Nat}, vAt args i = .frow p g ii n → args[i]? = some (.frow p g ii n)
  | [], _, _, _, _, _, h => by simp [vAt, un] at h
  | v :: r, 0, _, _, _, _, h => by simp only [vAt] at h; simp [h]
  | v :: r, i + 1, _, _, _, _, h => by simp only [vAt] at h; simpa using vAt_frow h
theorem small_of_sum {P : Program} {gl : Nat → Option AVal} {f : FuncId} {S : Summary} (h : SumOk P gl f S) {args : List AVal} {T : Tab} (hc : allP (S args T).cs) : Small P gl f args T (S args T).val (S args T).tab := by
  intro ν w vs hr hv
  refine (h args T hc ν w vs hr hv).mono ?_
  rintro e w' ⟨x, rfl, ⟨ν', h1, h2, h3, h4, h5⟩⟩
  exact ⟨x, ν', rfl, h3, h4, h1.b _, h5⟩
/-- a summary whose i-th argument may be a family's row -/
def rowS (S : Summary) (i : Nat) (et2 : TypeId) : Summary := fun args T => match vAt args i with
  | .frow p g ii n => match nth T p with
    | some o => match o.data with
      | .fam Z => match S (args.set i (.slice 1 T.length 0 0 n none)) (T ++ [some ⟨.ints .u8 (Z.getD ii []), 0, false, et2⟩]) with
        | ⟨cs, v, T1⟩ => ⟨.eqN g o.g :: cs, v, T1⟩
      | _ => fail
    | none => fail
  | _ => S args T
theorem rowS_ok {P : Program} {gl : Nat → Option AVal} {f : FuncId} {S : Summary} (h : SumOk P gl f S) (i : Nat) (et2 : TypeId) : SmOk P gl f (rowS S i et2) := by
  intro args T hc
  unfold rowS at hc ⊢
  split at hc
  · rename_i p g ii n hv
    try simp only [hv]
    split at hc
    · rename_i o ho
      try simp only [ho]
      split at hc
      · rename_i Z hZ
        try simp only [hZ]
        obtain ⟨d, g', ow, et⟩ := o
        simp only at hZ
        subst hZ
        have h1 := fun hc' => small_of_sum h (args := args.set i (.slice 1 T.length 0 0 n none)) (T := T ++ [some ⟨.ints .u8 (Z.getD ii []), 0, false, et2⟩]) hc'
        generalize S (args.set i (.slice 1 T.length 0 0 n none)) (T ++ [some ⟨.ints .u8 (Z.getD ii []), 0, false, et2⟩]) = r at hc h1 ⊢
        obtain ⟨cs, v, T1⟩ := r
        simp only [allP, Con.h] at hc h1 ⊢
        obtain ⟨hg, hc⟩ := hc
        subst hg
        exact small_row i p g ii n Z ow et et2 (vAt_frow hv) (nth_some ho) rfl rfl (h1 hc)
      · exact absurd hc (by simp [fail, allP, Con.h])
    · exact absurd hc (by simp [fail, allP, Con.h])
  · rename_i hno
    exact small_of_sum h hc
/-- the outcome, with only some objects, moved together -/
theorem To.gc {E : Env} {n k : Nat} {c : Code} {fm : Fm} {T : Tab} {ex : AExit} {fm1 : Fm} {T1 : Tab} (h : To E n k c fm T ex fm1 T1) (keep slots : List Nat) {f : Fm} (hb : okG k keep T1 = true) (hp : pickG keep fm1 slots = some f) {T2 : Tab} (e : gcT keep T1 = T2) : To E n k c fm T ex f T2 := by
  subst e
  intro rr D ν a w hs hrd
  refine wpIn_mono (h rr D ν a w hs hrd) fun e a' w' ⟨ex', fm', T', ν', e1, ⟨e2, e3, e4⟩, ⟨ms, s', mk⟩, n', f'⟩ => ?_
  subst e2 e3 e4
  exact ⟨_, f, Abs.gcT keep T', nuG keep ν', e1, ⟨rfl, rfl, rfl⟩, ⟨ms, s'.gc hb hp, mk⟩, n'.gc hb, f'.sub fun b hb => hb.gc⟩
end Go.Abs

set_option linter.unusedVariables false
set_option linter.unusedSimpArgs false
namespace Go.Abs
open Go.RowKit Go.WideShapes Go.ChangeShapes Go.ChangeAt
/-! ## Rows of laws: a slice of slices of bytes -/
section
variable {H : Type} {enc : TypeId × Value → H} {P : Program}
def lenD : DataW H → Nat | .slice es _ => es.length | _ => 0
/-- what stands in a cell, as bytes -/
def bytesAt (W : World) (v : Value) : List Int := match v with
  | .slice (some a) n _ => (List.range n).map (cellI W a)
  | _ => []
theorem row_cell {e b : TypeId} (he : P.underlying e = some (.slice b)) (hb : P.underlying b = some (.int .u8)) (cb : P.cellsOf b = 1) {W : World} {n : Nat} {cs : List Value} {y : DataW H × List MemPlace} (h : DataW.trod enc P W 0 (fun _ => true) true n e cs = some y) :
    ∃ v, cs = [v] ∧ RowOk (fun _ => False) W v (bytesAt W v) ∧ lenD y.1 = (bytesAt W v).length ∧ ∀ c ∈ bytesAt W v, 0 ≤ c ∧ c < 256 := by
  rcases open_ints he hb cb h with ⟨hcs, hx⟩ | ⟨a, len', cap', zs, hcs, _, hl, hm, hz, hx, hcell, hwz⟩
  · subst hx
    exact ⟨_, hcs, ⟨none, 0, rfl, Nat.le_refl _, fun h => by omega⟩, rfl, fun c hc => by cases hc⟩
  · subst hx
    simp only [if_true] at hz
    have hbl : bytesAt W (.slice (some a) len' cap') = zs.take len' := by
      unfold bytesAt
      apply List.ext_getElem
      · simp; omega
      · intro i h1 h2
        simp at h1 h2
        have := hcell i (by omega)
        simp only [List.getElem_map, List.getElem_range, List.getElem_take]
        unfold cellI
        rw [this]
        simp [List.getD, List.getElem?_eq_getElem (show i < zs.length by omega)]
    refine ⟨_, hcs, ?_, ?_, ?_⟩
    · rw [hbl]
      have hlt : (zs.take len').length = len' := by simp; omega
      refine ⟨some a, cap', by rw [hlt], by rw [hlt]; exact hl, fun hc => ⟨a, rfl, id, ?_, fun k hk => ?_⟩⟩
      · have h1 := hcell 0 (by omega)
        unfold World.cell? at h1
        rcases Nat.lt_or_ge a.block W.heap.size with h | h
        · exact h
        · have hb : (a.add 0).block = a.block := block_add a 0
          rw [hb, Array.getElem?_eq_none h] at h1
          cases h1
      · rw [hlt] at hk
        rw [hcell k (by omega)]
        simp [List.getD, List.getElem?_take_of_lt hk]
    · rw [hbl]
      show (lits (H := H) .u8 (zs.take len')).length = _
      simp [lits]
    · rw [hbl]
      intro c hc
      have := hwz c (List.mem_of_mem_take hc)
      simp [Lit.wf, IntKind.min, IntKind.max, IntKind.signed, IntKind.bits] at this
      omega
/-- a slice of slices of bytes that came in -/
theorem arg_fam {t e b : TypeId} (ht : P.underlying t = some (.slice e)) (he : P.underlying e = some (.slice b)) (hb : P.underlying b = some (.int .u8)) (ce : P.cellsOf e = 1) (cb : P.cellsOf b = 1) (hby : P.bytesOf e = 24)
    {W : World} {base : Nat} {v : Value} {d : DataW H} {ps : List MemPlace} (hval : Value.okWide P W .any base t v) (hT : DataW.Trod enc P W 0 (fun _ => true) true t v d ps) (hsz : ∀ elems spare, d = .slice elems spare → (elems.length + spare.length) * P.bytesOf e ≤ reachBytes) :
    ∃ (Z : List (List Int)) (k : Nat) (l lF : Loc), Z.length * 24 ≤ 140737488351232 ∧ (∀ z ∈ Z, ∀ c ∈ z, 0 ≤ c ∧ c < 256) ∧ l.g = 0 ∧ lF.g = 0 ∧ lF.room = 0 ∧ Z.length ≤ l.room ∧ (0 < l.room → l.a.block < W.heap.size) ∧ lF.rw.length = Z.length ∧
      (∀ i, i < Z.length → RowOk (fun _ => False) W (lF.rw.getD i undef) (Z.getD i [])) ∧ (∀ i, i < Z.length → W.cell? (l.a.add i) = some (lF.rw.getD i undef)) ∧ (∀ (ν : Nu) (p : Nat), ν p = some l → VR ν (.slice 1 p 0 0 Z.length (some k)) v) ∧
      ((d = .nil ∧ Z = []) ∨ ∃ elems spare, d = .slice elems spare ∧ elems.map lenD = Z.map List.length) := by
  obtain ⟨a1, len, cap, rfl⟩ := okWide_slice ht hval
  obtain ⟨fuel, hf⟩ := hT
  rcases DataW.trod_slice ht hf with ⟨hcs, hx⟩ | ⟨a, len', cap', elems, rest, n, _, hcs, hx, _, hl, hm, hlen, hel, hsp, _⟩
  · simp [Value.cells] at hcs
    obtain ⟨rfl, rfl, rfl⟩ := hcs
    simp only [Prod.mk.injEq] at hx
    exact ⟨[], 0, ⟨⟨0, 0, none⟩, 0, 0⟩, ⟨⟨0, 0, none⟩, 0, 0⟩, by simp, fun z hz => (by cases hz), rfl, rfl, rfl, Nat.le_refl _, fun h => absurd h (by simp), rfl, fun i hi => absurd hi (by simp), fun i hi => absurd hi (by simp), fun ν p hp => .sliceZ none hp rfl (.inl rfl), .inl ⟨hx.1, rfl⟩⟩
  · simp [Value.cells] at hcs
    obtain ⟨rfl, rfl, rfl⟩ := hcs
    simp only [Prod.mk.injEq] at hx
    obtain ⟨rfl, rfl⟩ := hx
    have hs := hsz _ _ rfl
    obtain ⟨hr, hre⟩ := hsp rfl
    rw [hby, List.length_map, List.length_map, hlen, hr] at hs
    have hs2 : cap * 24 ≤ 140737488351232 := by
      have : len + (cap - len) = cap := by omega
      rw [this] at hs
      unfold reachBytes at hs
      omega
    have hany : ∀ i, i < cap → ∃ v y, W.cell? (a.add i) = some v ∧ RowOk (fun _ => False) W v (bytesAt W v) ∧ (elems[i]? = some y ∨ len ≤ i) ∧ lenD y.1 = (bytesAt W v).length ∧ ∀ c ∈ bytesAt W v, 0 ≤ c ∧ c < 256 := by
      intro i hi
      have key : ∃ y, (W.cells? 0 (a.add (i * P.cellsOf e)) (P.cellsOf e)).bind (DataW.trod enc P W 0 (fun _ => true) true n e) = some y ∧ (elems[i]? = some y ∨ len ≤ i) := by
        by_cases h : i < len
        · rw [hel i h]
          exact ⟨_, List.getElem?_eq_getElem (by omega), .inl (List.getElem?_eq_getElem (by omega))⟩
        · have := hre (i - len) (by omega)
          rw [show len + (i - len) = i by omega] at this
          rw [this]
          exact ⟨_, List.getElem?_eq_getElem (by omega), .inr (by omega)⟩
      obtain ⟨y, hy, hy2⟩ := key
      rw [ce, Nat.mul_one, Option.bind_eq_some_iff] at hy
      obtain ⟨cs, hcs, hy⟩ := hy
      obtain ⟨v, rfl, h1, h2, h3⟩ := row_cell he hb cb hy
      exact ⟨v, y, cell_of_cells?_one hcs, h1, hy2, h2, h3⟩
    let vAt' : Nat → Value := fun i => (W.cell? (a.add i)).getD undef
    have hcellv : ∀ i, i < cap → W.cell? (a.add i) = some (vAt' i) := fun i hi => by
      obtain ⟨v, y, h1, _⟩ := hany i hi
      simp only [vAt']
      rw [h1]; rfl
    have hZl : ((List.range len).map fun i => bytesAt W (vAt' i)).length = len := by simp
    have hZget : ∀ i, i < len → ((List.range len).map fun i => bytesAt W (vAt' i)).getD i [] = bytesAt W (vAt' i) := fun i hi => by simp [List.getD, hi]
    have hRget : ∀ i, i < len → ((List.range len).map vAt').getD i undef = vAt' i := fun i hi => by simp [List.getD, hi]
    refine ⟨(List.range len).map fun i => bytesAt W (vAt' i), cap, ⟨a, 0, cap⟩, @Loc.mk ⟨0, 0, none⟩ 0 0 ⟨(List.range len).map vAt'⟩, by rw [hZl]; omega, ?_, rfl, rfl, rfl, by rw [hZl]; exact hl, fun h0 => ?_, (show ((List.range len).map vAt').length = _ by rw [hZl, List.length_map, List.length_range]), ?_, ?_, fun ν p hp => ?_, .inr ⟨_, _, rfl, ?_⟩⟩
    · intro z hz c hc
      rw [List.mem_map] at hz
      obtain ⟨i, hi, rfl⟩ := hz
      have hi : i < len := by simpa using hi
      obtain ⟨v, y, h1, _, _, _, h5⟩ := hany i (by omega)
      have : v = vAt' i := by rw [hcellv i (by omega)] at h1; injection h1 with h1; exact h1.symm
      subst this
      exact h5 c hc
    · have h1 := hcellv 0 h0
      unfold World.cell? at h1
      rcases Nat.lt_or_ge a.block W.heap.size with h | h
      · exact h
      · have hb : (a.add 0).block = a.block := block_add a 0
        rw [hb, Array.getElem?_eq_none h] at h1
        cases h1
    · intro i hi
      rw [hZl] at hi
      show RowOk _ W (((List.range len).map vAt').getD i undef) _
      rw [hRget i hi, hZget i hi]
      obtain ⟨v, y, h1, h2, _⟩ := hany i (by omega)
      have : v = vAt' i := by rw [hcellv i (by omega)] at h1; injection h1 with h1; exact h1.symm
      subst this
      exact h2
    · intro i hi
      rw [hZl] at hi
      show W.cell? (a.add i) = some (((List.range len).map vAt').getD i undef)
      rw [hRget i hi]
      exact hcellv i (by omega)
    · rw [hZl]
      refine .slice hp rfl ⟨hl, fun k hk => by injection hk, ?_, by simp, fun h => (by cases h)⟩
      simp [Addr.add]
    · apply List.ext_getElem
      · simp [hlen]
      · intro i h1 h2
        have hi : i < len := by simpa [hlen] using h1
        obtain ⟨v, y, e1, _, e3, e4, _⟩ := hany i (by omega)
        have : v = vAt' i := by rw [hcellv i (by omega)] at e1; injection e1 with e1; exact e1.symm
        subst this
        rcases e3 with e3 | e3
        · have e5 : elems[i] = y := by rw [List.getElem?_eq_getElem (by omega)] at e3; injection e3
          simp [e5, e4]
        · omega
theorem fam_obj {W : World} {z : List Int} {Z : List (List Int)} {l lF : Loc} {ls : List Loc} {q : Nat} (hq : ls[q]? = some lF) (hg : lF.g = 0) (hlen : lF.rw.length = (z :: Z).length) (hrow : ∀ i, i < (z :: Z).length → RowOk (fun _ => False) W (lF.rw.getD i undef) ((z :: Z).getD i []))
    (hcell : ∀ i, i < (z :: Z).length → W.cell? (l.a.add i) = some (lF.rw.getD i undef)) : ∀ i, i < (AVal.frows q 0 (z :: Z) []).len → ∃ x, W.cell? (l.a.add i) = some x ∧ VR (nuL ls) ((AVal.frows q 0 (z :: Z) []).get i) x := by
  intro i hi
  have hi : i < (z :: Z).length := hi
  refine ⟨_, hcell i hi, ?_⟩
  obtain ⟨bo, c, h1, _⟩ := hrow i hi
  have h2 : lF.rw[i]? = some (lF.rw.getD i undef) := by simp [List.getD, List.getElem?_eq_getElem (show i < lF.rw.length by omega)]
  rw [h1] at h2 ⊢
  exact .frow bo c hq hg.symm h2
theorem fam_ok {W : World} {Z : List (List Int)} {lF : Loc} {g : Nat} {ow : Bool} {et : TypeId} (hlen : lF.rw.length = Z.length) (hrow : ∀ i, i < Z.length → RowOk (fun _ => False) W (lF.rw.getD i undef) (Z.getD i [])) : FamOk (fun _ => False) W ⟨.fam Z, g, ow, et⟩ lF := by
  intro Y hY
  injection hY with hY
  subst hY
  exact ⟨hlen, hrow⟩
end
end Go.Abs

set_option linter.unusedVariables false
set_option linter.unusedSimpArgs false
namespace Go.Abs
/-! ## Nothing within an object, told as a slice of an empty object -/
theorem VRs.set1 {ν : Nu} {vs : List AVal} {xs : List Value} {j : Nat} {v : AVal} (h : VRs ν vs xs) (hv : ∀ x, VR ν (vs.getD j un) x → VR ν v x) : VRs ν (vs.set j v) xs := by
  refine ⟨by rw [List.length_set]; exact h.1, fun i hi => ?_⟩
  rw [List.length_set] at hi
  by_cases e : j = i
  · subst e
    rw [show (vs.set j v).getD j un = v by simp [List.getD, hi]]
    exact hv _ (h.2 j hi)
  · rw [show (vs.set j v).getD i un = vs.getD i un by simp [List.getD, List.getElem?_set, e]]
    exact h.2 i hi
theorem Conv.nilCell {gl : Nat → Option AVal} {T : Tab} {p g j sz : Nat} {ow : Bool} {et et2 : TypeId} {kk : IntKind} {vs : List AVal} (hp : T[p]? = some (some ⟨.agg vs, g, ow, et⟩)) (hj : vs[j]? = some .nilSlice)
    {T' : Tab} (e : T' = (T ++ [some (⟨.ints kk [], 0, true, et2⟩ : AObj)]).set p (some ⟨.agg (vs.set j (.slice sz T.length 0 0 0 none)), g, ow, et⟩)) : Conv gl [p] T T' := by
  subst e
  intro ν w h hi
  obtain ⟨lp, hlp⟩ := Option.isSome_iff_exists.1 (hi p (.head _))
  obtain ⟨l0, q1, q2, q3, q4, q5⟩ := h.pushEmpty kk et2
  have hplt := (List.getElem?_eq_some_iff.1 hp).1
  have hp1 : (T ++ [some (⟨.ints kk [], 0, true, et2⟩ : AObj)])[p]? = some (some ⟨.agg vs, g, ow, et⟩) := by rw [List.getElem?_append_left hplt]; exact hp
  have hlp1 : upd ν T.length l0 p = some lp := by rw [upd_other ν l0 (by omega)]; exact hlp
  have hd : vs.getD j un = .nilSlice := by simp [List.getD, hj]
  have hjlt : j < vs.length := (List.getElem?_eq_some_iff.1 hj).1
  have hv : ∀ x, VR (upd ν T.length l0) (vs.getD j un) x → VR (upd ν T.length l0) (.slice sz T.length 0 0 0 none) x := fun x hx => by
    rw [hd] at hx
    exact VR.nil_slice (upd_same _ _ _) q1 q2 (.inr rfl) hx
  have hor : ObjRel (upd ν T.length l0) ⟨.agg (vs.set j (.slice sz T.length 0 0 0 none)), g, ow, et⟩ lp w := by
    obtain ⟨_, h2, h3⟩ := q3.obj p _ lp hp1 hlp1
    refine ⟨.agg _, ?_⟩
    have hlen : (AVal.agg (vs.set j (.slice sz T.length 0 0 0 none))).len = (AVal.agg vs).len := by simp [AVal.len]
    rcases h3 with ⟨h3, h4⟩ | ⟨h3, h4, h5⟩ | ⟨h3, _⟩
    · obtain ⟨cur, c1, c2, c3⟩ := h4.row
      refine .inl ⟨h3, ⟨⟨cur, c1, c2, ?_⟩, h4.spot, by simp only [hlen]; exact h4.room⟩⟩
      simp only [hlen]
      exact VRs.set1 c3 hv
    · refine .inr (.inl ⟨h3, by simp only [hlen]; exact h4, fun i hi => ?_⟩)
      simp only [hlen] at hi
      obtain ⟨x, x1, x2⟩ := h5 i hi
      refine ⟨x, x1, ?_⟩
      show VR _ ((vs.set j (.slice sz T.length 0 0 0 none)).getD i un) x
      by_cases e : j = i
      · subst e
        rw [show (vs.set j (AVal.slice sz T.length 0 0 0 none)).getD j un = .slice sz T.length 0 0 0 none by simp [List.getD, hjlt]]
        exact hv x x2
      · rw [show (vs.set j (AVal.slice sz T.length 0 0 0 none)).getD i un = vs.getD i un by simp [List.getD, List.getElem?_set, e]]
        exact x2
    · simp [AVal.len] at h3; rw [h3] at hj; simp at hj
  obtain ⟨k1, k2⟩ := q3.retell hp1 hlp1 (o' := ⟨.agg (vs.set j (.slice sz T.length 0 0 0 none)), g, ow, et⟩) rfl id hor (FamOk.no rfl)
  exact ⟨_, k1, q4, fun b hb => q5 b (k2 b hb)⟩
end Go.Abs
