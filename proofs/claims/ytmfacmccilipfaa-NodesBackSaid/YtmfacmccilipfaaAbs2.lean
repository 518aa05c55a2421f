/- An abstract machine over small tables of objects, and its soundness over the given model: no condition. -/
import Derived.Test.YtmfacmccilipfaaAbs1
import Derived.Below
import Derived.ChangeSame
import Derived.SizedLaws
import Derived.WideKeyArgs
import Derived.OpenShut
import Derived.ChangeSlices
import Derived.WalkKit
import Derived.ProofKit
import Derived.Lib.SmallJoins
import Derived.Deep.DeepHandedRow
import Derived.Lib.LaidTab
import Derived.RangeFuncNested
import Derived.Lib.MakeNoZero
import Derived.Laws.Externs
import Derived.WalkSmall
set_option linter.unusedVariables false
set_option linter.unusedSimpArgs false
namespace Go.Abs

/-! ## Calls on the objects that the arguments reach -/
theorem nth_iff : ∀ {T : Tab} {p : Nat} {o : AObj}, nth T p = some o ↔ T[p]? = some (some o)
  | [], p, o => by simp [nth]
  | x :: r, 0, o => by simp [nth]
  | x :: r, p + 1, o => by simpa [nth] using nth_iff (T := r) (p := p) (o := o)

def reachGo (T : Tab) : Nat → List Nat → List Nat → List Nat
  | 0, _, acc => acc
  | _ + 1, [], acc => acc
  | f + 1, p :: r, acc => match memN p acc with
    | true => reachGo T f r acc
    | false => match nth T p with
      | some o => reachGo T f (r ++ idsV [] o.data) (acc ++ [p])
      | none => acc ++ [p]

def anyObj (T : Tab) (p : Nat) : List Nat → Bool
  | [] => false
  | q :: r => (match nth T q with | some o => hasId p o.data | none => false) || anyObj T p r
def backed (args : List AVal) (T : Tab) : List Nat → List Nat → Bool
  | _, [] => true
  | e, p :: r => (allHas.anyHas p args || anyObj T p e) && backed args T (p :: e) r

theorem hasId_get {p : Nat} {d : AVal} (hd : IsData d) (h : hasId p d = true) : ∃ i, i < d.len ∧ hasId p (d.get i) = true := by
  cases hd with
  | ints k xs => simp [hasId, idsIn] at h
  | agg vs =>
    refine Classical.byContradiction fun hn => ?_
    have : idsInL (fun q => !Nat.beq q p) vs = true := idsInL_of fun i hi => by
      have h1 : ¬ hasId p (vs.getD i un) = true := fun h2 => hn ⟨i, hi, h2⟩
      simpa [hasId] using h1
    simp [hasId, idsIn, this] at h
  | fam Z => simp [hasId, idsIn] at h
  | frows q g Z vs =>
    refine Classical.byContradiction fun hn => ?_
    have hcell : ∀ i, i < (AVal.frows q g Z vs).len → idsIn (fun q => !Nat.beq q p) ((frowsV q g Z ++ vs).getD i un) = true := fun i hi => by
      have h1 : ¬ hasId p ((AVal.frows q g Z vs).get i) = true := fun h2 => hn ⟨i, hi, h2⟩
      rw [← cells_get (by constructor) hi] at h1
      simpa [hasId, AVal.cells] using h1
    have hv : idsInL (fun q => !Nat.beq q p) vs = true := idsInL_of fun i hi => by
      have := hcell (Z.length + i) (by rw [frows_len]; omega)
      have e : (frowsV q g Z ++ vs).getD (Z.length + i) un = vs.getD i un := by simp [List.getD, List.getElem?_append_right (show (frowsV q g Z).length ≤ Z.length + i by rw [frowsV_len]; omega), frowsV_len]
      rwa [e] at this
    cases Z with
    | nil => simp [hasId, idsIn, hv] at h
    | cons z Z =>
      have := hcell 0 (by rw [frows_len]; simp; omega)
      have e : (frowsV q g (z :: Z) ++ vs).getD 0 un = .frow q g 0 ((z :: Z).getD 0 []).length := by
        rw [← frowsV_get q g (z :: Z) (by simp)]; simp [List.getD, List.getElem?_append_left (show 0 < (frowsV q g (z :: Z)).length by rw [frowsV_len]; simp)]
      rw [e] at this
      simp only [idsIn] at this
      simp [hasId, idsIn, hv, this] at h
theorem anyObj_ok {T : Tab} {p : Nat} : ∀ {l : List Nat}, anyObj T p l = true → ∃ q ∈ l, ∃ o, T[q]? = some (some o) ∧ hasId p o.data = true
  | q :: r, h => by
    simp only [anyObj, Bool.or_eq_true] at h
    rcases h with h | h
    · split at h
      · rename_i o ho; exact ⟨q, .head _, o, nth_iff.1 ho, h⟩
      · cases h
    · obtain ⟨q', h1, h2⟩ := anyObj_ok h; exact ⟨q', .tail _ h1, h2⟩
theorem backed_ok {gl : Nat → Option AVal} {ν : Nu} {T : Tab} {w : World} {args : List AVal} {vs : List Value} (hr : HR gl ν T w) (hvs : VRs ν args vs) :
    ∀ {l e : List Nat}, backed args T e l = true → (∀ q ∈ e, (ν q).isSome) → ∀ q ∈ l, (ν q).isSome
  | [], e, h, he, q, hq => by cases hq
  | p :: r, e, h, he, q, hq => by
    simp only [backed, Bool.and_eq_true, Bool.or_eq_true] at h
    have hp : (ν p).isSome := by
      rcases h.1 with h1 | h1
      · obtain ⟨a, ha, hp⟩ := anyHas_ok h1
        obtain ⟨j, hj⟩ := List.mem_iff_getElem?.1 ha
        have hlt := (List.getElem?_eq_some_iff.1 hj).1
        have := hvs.2 j hlt
        rw [show args.getD j un = a by simp [List.getD, hj]] at this
        exact this.hasId hp
      · obtain ⟨q', h2, o, ho, hd⟩ := anyObj_ok h1
        obtain ⟨l, hl⟩ := Option.isSome_iff_exists.1 (he q' h2)
        have hdd := (hr.obj q' o l ho hl).2.1
        obtain ⟨i, hi, hid⟩ := hasId_get hdd hd
        obtain ⟨x, _, hx⟩ := hr.read ho hl hi
        exact hx.hasId hid
    rcases List.mem_cons.1 hq with rfl | hq
    · exact hp
    · refine backed_ok hr hvs h.2 (fun q' hq' => ?_) q hq
      rcases List.mem_cons.1 hq' with rfl | hq'
      · exact hp
      · exact he q' hq'

/-- the small table: all that is reached; what may be written stays its own -/
def smallR (T : Tab) (wr : List Bool) (fps : List Nat) : List Nat → Nat → Option Tab
  | [], _ => some []
  | p :: r, i => match nth T p, smallR T wr fps r (i + 1) with
    | some ⟨d, g, ow, et⟩, some T0 => match idsIn (fun q => memN q fps) d with
      | true => some (some ⟨ren (idxN fps) d, g, nthB wr i && ow, et⟩ :: T0)
      | false => none
    | _, _ => none
theorem smallR_ok {T : Tab} {wr : List Bool} {fps : List Nat} : ∀ {l : List Nat} {i : Nat} {T0 : Tab}, smallR T wr fps l i = some T0 → T0.length = l.length ∧ ∀ j, j < l.length → ∃ o : AObj, T[l.getD j 0]? = some (some o) ∧ idsIn (fun q => memN q fps) o.data = true ∧
    T0[j]? = some (some ⟨ren (idxN fps) o.data, o.g, nthB wr (i + j) && o.own, o.et⟩)
  | [], i, T0, h => by simp [smallR] at h; subst h; exact ⟨rfl, fun j hj => by simp at hj⟩
  | p :: r, i, T0, h => by
    simp only [smallR] at h
    split at h
    · rename_i d g ow et T1 ho hT1
      obtain ⟨l1, l2⟩ := smallR_ok hT1
      split at h
      · rename_i e1
        injection h with h; subst h
        refine ⟨by simp [l1], fun j hj => ?_⟩
        cases j with
        | zero => exact ⟨_, by simpa using nth_some ho, e1, by simp⟩
        | succ j => simpa [Nat.add_assoc, Nat.add_comm 1 j] using l2 j (by simpa using hj)
      · cases h
    · cases h

/-- what is written back -/
def backR (live : Nat → Bool) (r1 : Nat → Nat) (T0 T1 : Tab) : List Nat → Nat → Tab → Option (List Con × Tab)
  | [], _, T => some ([], T)
  | p :: r, i, T => match nth T0 i, nth T1 i with
    | some o0, some ⟨d, g, ow, et⟩ => match o0.own with
      | true => match ow, idsIn live d && d.noFam with
        | true, true => backR live r1 T0 T1 r (i + 1) (T.set p (some ⟨ren r1 d, g, true, et⟩))
        | _, _ => none
      | false => match backR live r1 T0 T1 r (i + 1) T with
        | some (cs, T') => some (.eqN g o0.g :: cs, T')
        | none => none
    | _, _ => none
def ownAt (T0 : Tab) (i : Nat) : Prop := ∃ o : AObj, T0[i]? = some (some o) ∧ o.own = true
theorem backR_ok {live : Nat → Bool} {r1 : Nat → Nat} {T0 T1 : Tab} : ∀ {l : List Nat} {i : Nat} {T : Tab} {cs : List Con} {T' : Tab}, backR live r1 T0 T1 l i T = some (cs, T') → allP cs → l.Nodup → (∀ p ∈ l, p < T.length) →
    T'.length = T.length ∧ (∀ p, (∀ j, j < l.length → ownAt T0 (i + j) → p ≠ l.getD j 0) → T'[p]? = T[p]?) ∧
    (∀ j, j < l.length → ownAt T0 (i + j) → ∃ o1, T1[i + j]? = some (some o1) ∧ o1.own = true ∧ idsIn live o1.data = true ∧ T'[l.getD j 0]? = some (some (renO r1 o1)) ∧ o1.data.noFam = true) ∧
    (∀ j, j < l.length → ¬ ownAt T0 (i + j) → ∃ o0 o1, T0[i + j]? = some (some o0) ∧ T1[i + j]? = some (some o1) ∧ o1.g = o0.g)
  | [], i, T, cs, T', h, hc, hn, hl => by
    simp [backR] at h; obtain ⟨_, rfl⟩ := h
    exact ⟨rfl, fun p _ => rfl, fun j hj => by simp at hj, fun j hj => by simp at hj⟩
  | p :: r, i, T, cs, T', h, hc, hn, hl => by
    simp only [backR] at h
    obtain ⟨hn1, hn2⟩ := List.nodup_cons.1 hn
    split at h
    · rename_i o0 d g ow et h0 h1
      have h0 := nth_iff.1 h0
      have h1 := nth_iff.1 h1
      split at h
      · rename_i hw
        have hown : ownAt T0 i := ⟨o0, h0, hw⟩
        split at h
        · have e2 : (idsIn live d && d.noFam) = true := by assumption
          simp only [Bool.and_eq_true] at e2
          obtain ⟨e2, e3⟩ := e2
          obtain ⟨a1, a2, a3, a4⟩ := backR_ok h hc hn2 (fun q hq => by simpa using hl q (.tail _ hq))
          refine ⟨by simpa using a1, fun q hq => ?_, fun j hj hwj => ?_, fun j hj hwj => ?_⟩
          · rw [a2 q (fun j hj hwj => by
              have := hq (j + 1) (by simpa using hj) (by rwa [show i + (j + 1) = i + 1 + j by omega])
              simpa using this)]
            have := hq 0 (by simp) (by simpa using hown)
            rw [List.getElem?_set_ne]
            simp at this; exact fun e => this e.symm
          · cases j with
            | zero =>
              refine ⟨⟨d, g, true, et⟩, by simpa using h1, rfl, e2, ?_, e3⟩
              simp only [List.getD_cons_zero]
              rw [a2 p (fun j hj _ => fun e => hn1 (by rw [e, getD_el hj]; exact List.getElem_mem _))]
              rw [List.getElem?_set_self (hl p (.head _))]
              rfl
            | succ j => simpa [Nat.add_assoc, Nat.add_comm 1 j] using a3 j (by simpa using hj) (by rwa [show i + 1 + j = i + (j + 1) by omega])
          · cases j with
            | zero => exact absurd hown (by simpa using hwj)
            | succ j => simpa [Nat.add_assoc, Nat.add_comm 1 j] using a4 j (by simpa using hj) (by rwa [show i + 1 + j = i + (j + 1) by omega])
        · cases h
      · rename_i hw
        have hown : ¬ ownAt T0 i := by
          rintro ⟨o, e1, e2⟩
          rw [h0] at e1; injection e1 with e1; injection e1 with e1; subst e1
          rw [hw] at e2; cases e2
        split at h
        · rename_i cs' T2 hb
          injection h with h; injection h with e1 e2; subst e1 e2
          obtain ⟨a1, a2, a3, a4⟩ := backR_ok hb hc.2 hn2 (fun q hq => hl q (.tail _ hq))
          refine ⟨a1, fun q hq => a2 q (fun j hj hwj => ?_), fun j hj hwj => ?_, fun j hj hwj => ?_⟩
          · have := hq (j + 1) (by simpa using hj) (by rwa [show i + (j + 1) = i + 1 + j by omega])
            simpa using this
          · cases j with
            | zero => exact absurd (by simpa using hwj) hown
            | succ j => simpa [Nat.add_assoc, Nat.add_comm 1 j] using a3 j (by simpa using hj) (by rwa [show i + 1 + j = i + (j + 1) by omega])
          · cases j with
            | zero => exact ⟨o0, ⟨d, g, ow, et⟩, by simpa using h0, by simpa using h1, hc.1⟩
            | succ j => simpa [Nat.add_assoc, Nat.add_comm 1 j] using a4 j (by simpa using hj) (by rwa [show i + 1 + j = i + (j + 1) by omega])
        · cases h
    · cases h

/-- the new objects that are reached -/
def newsGo (k : Nat) (T1 : Tab) : Nat → List Nat → List Nat → List Nat
  | 0, _, acc => acc
  | _ + 1, [], acc => acc
  | f + 1, p :: r, acc => match Nat.blt p k || memN p acc with
    | true => newsGo k T1 f r acc
    | false => match nth T1 p with
      | some o => newsGo k T1 f (r ++ idsV [] o.data) (acc ++ [p])
      | none => acc ++ [p]
def ownIds : Tab → Tab → List Nat
  | some o0 :: T0, some o1 :: T1 => match o0.own with
    | true => idsV [] o1.data ++ ownIds T0 T1
    | false => ownIds T0 T1
  | _ :: T0, _ :: T1 => ownIds T0 T1
  | _, _ => []
def newsR (k : Nat) (live : Nat → Bool) (r1 : Nat → Nat) (T1 : Tab) : List Nat → Option Tab
  | [] => some []
  | q :: r => match nth T1 q, newsR k live r1 T1 r with
    | some ⟨d, g, ow, et⟩, some N => match ow, idsIn live d && d.noFam, Nat.ble k q with
      | true, true, true => some (some ⟨ren r1 d, g, true, et⟩ :: N)
      | _, _, _ => none
    | _, _ => none
theorem newsR_ok {k : Nat} {live : Nat → Bool} {r1 : Nat → Nat} {T1 : Tab} : ∀ {l : List Nat} {N : Tab}, newsR k live r1 T1 l = some N → N.length = l.length ∧ ∀ j, j < l.length → ∃ o, k ≤ l.getD j 0 ∧ T1[l.getD j 0]? = some (some o) ∧ o.own = true ∧ idsIn live o.data = true ∧ N[j]? = some (some (renO r1 o)) ∧ o.data.noFam = true
  | [], N, h => by simp [newsR] at h; subst h; exact ⟨rfl, fun j hj => by simp at hj⟩
  | q :: r, N, h => by
    simp only [newsR] at h
    split at h
    · rename_i d g ow et N' ho hN
      split at h
      · rename_i e1 e2
        simp only [Bool.and_eq_true] at e1
        obtain ⟨e1, e3⟩ := e1
        injection h with h; subst h
        obtain ⟨l1, l2⟩ := newsR_ok hN
        refine ⟨by simp [l1], fun j hj => ?_⟩
        cases j with
        | zero => exact ⟨_, Nat.le_of_ble_eq_true e2, by simpa using nth_some ho, rfl, e1, by simp [renO], e3⟩
        | succ j => simpa using l2 j (by simpa using hj)
      · cases h
    · cases h

def liveR (k : Nat) (news : List Nat) (i : Nat) : Bool := Nat.blt i k || memN i news
def callGoN (news : List Nat) (cs : List Con) (v : AVal) (T1 : Tab) (fps : List Nat) (args : List AVal) (T T0 : Tab) : Res :=
  match newsR fps.length (liveR fps.length news) (backId fps news T.length) T1 news, backR (liveR fps.length news) (backId fps news T.length) T0 T1 fps 0 T with
  | some N, some (cs2, T2) =>
    match nodupN fps && nodupN news && idsInL (fun p => memN p fps) args && backed args T [] fps && idsIn (liveR fps.length news) v with
    | true => ⟨cs2 ++ cs, ren (backId fps news T.length) v, T2 ++ N⟩
    | false => fail
  | _, _ => fail
def callGoR (sm : Res) (fps : List Nat) (args : List AVal) (T T0 : Tab) : Res :=
  match sm with
  | ⟨cs, v, T1⟩ => callGoN (newsGo fps.length T1 1000 (idsV [] v ++ ownIds T0 T1) []) cs v T1 fps args T T0
def callF (sm : Summary) (wr : List Bool) (fps : List Nat) (args : List AVal) (T : Tab) : Res :=
  match smallR T wr fps fps 0 with
  | some T0 => callGoR (sm (rens (idxN fps) args) T0) fps args T T0
  | none => fail
/-- a call: the callee on a small table of what the arguments reach -/
def callR (sm : Summary) (wr : List Bool) : Summary := fun args T => callF sm wr (reachGo T 1000 (idsVs [] args) []) args T

theorem callGoN_ok {fin : Value → Ending} {P : Program} {gl : Nat → Option AVal} {f : FuncId} {args : List AVal} {T T0 T1 : Tab} {wr : List Bool} {fps news : List Nat} {ν : Nu} {w : World} {vs : Array Value} {cs : List Con} {v : AVal}
    (hT0 : smallR T wr fps fps 0 = some T0) (hS : allP cs → SmallE fin P gl f (rens (idxN fps) args) T0 v T1) (hc : allP (callGoN news cs v T1 fps args T T0).cs) (hr : HR gl ν T w) (hvs : VRs ν args vs.toList) :
    Calls P f vs w fun e w' => ∃ x, e = fin x ∧ OpPost gl ν T w T.length ⟨[], (callGoN news cs v T1 fps args T T0).val, (callGoN news cs v T1 fps args T T0).tab⟩ x w' := by
  unfold callGoN at hc ⊢
  have nofail : ¬ allP fail.cs := by simp [fail, allP, Con.h]
  cases hN : newsR fps.length (liveR fps.length news) (backId fps news T.length) T1 news with
  | none => simp only [hN] at hc; exact absurd hc nofail
  | some N =>
    cases hB : backR (liveR fps.length news) (backId fps news T.length) T0 T1 fps 0 T with
    | none => simp only [hN, hB] at hc; exact absurd hc nofail
    | some q =>
      obtain ⟨cs2, T2⟩ := q
      simp only [hN, hB] at hc ⊢
      split at hc
      rotate_left
      · exact absurd hc nofail
      rename_i hck
      simp only [hck]
      simp only [Bool.and_eq_true] at hck
      obtain ⟨⟨⟨⟨k1, k2⟩, k3⟩, k4⟩, k5⟩ := hck
      rw [allP_append] at hc
      have hsm := hS hc.2
      have nd1 := nodupN_ok k1
      have nd2 := nodupN_ok k2
      obtain ⟨s1, s2⟩ := smallR_ok hT0
      obtain ⟨n1, n2⟩ := newsR_ok hN
      simp only [Nat.zero_add] at s2
      have hin : ∀ p ∈ fps, p < T.length := fun p hp => by
        obtain ⟨h1, h2⟩ := idxN_get hp
        obtain ⟨o, h3, _⟩ := s2 _ h1
        rw [h2] at h3
        exact (List.getElem?_eq_some_iff.1 h3).1
      obtain ⟨b1, b2, b3, b4⟩ := backR_ok hB hc.1 nd1 hin
      simp only [Nat.zero_add] at b2 b3 b4
      have hold : ∀ i, i < fps.length → backId fps news T.length i = fps.getD i 0 := fun i hi => by
        have : Nat.blt i fps.length = true := by simpa using hi
        simp only [backId, this, nthN_eq]
      have hnew : ∀ i, fps.length ≤ i → backId fps news T.length i = T.length + idxN news i := fun i hi => by
        have : Nat.blt i fps.length = false := by
          cases hb : Nat.blt i fps.length with
          | false => rfl
          | true => have : i < fps.length := by simpa using hb
                    omega
        simp [backId, this]
      have args_back : (rens (idxN fps) args).map (ren fun i => fps.getD i 0) = args := by
        rw [← rens_map]
        exact rens_rens (live := fun p => memN p fps) (fun p hp => (idxN_get (memN_ok.1 hp)).2) args k3
      have hlive : ∀ i, fps.length ≤ i → liveR fps.length news i = true → i ∈ news := fun i hi h => by
        simp only [liveR, Bool.or_eq_true] at h
        rcases h with h | h
        · have : i < fps.length := by simpa using h
          omega
        · exact memN_ok.1 h
      have := embed (k := fps.length) (T' := T2 ++ N) (fp := fun i => fps.getD i 0) (r1 := backId fps news T.length) (own0 := ownAt T0) (live := liveR fps.length news) hsm
        ⟨s1, fun i hi => ?_, fun i j hi hj hne _ he => hne (nodup_getD nd1 hi hj he)⟩
        ⟨by simp [b1], fun p hp hno => ?_, fun i hi hw => ?_, fun i hi hw => b4 i hi hw, fun p h1 h2 => ?_, fun i hi => ⟨by simp [liveR, hi], hold i hi⟩, fun i hi h => ?_, fun i j hi hj h h' he => ?_⟩
        ?_ k5 hr (by rw [args_back]; exact hvs) ?_
      · exact this
      · obtain ⟨o, e1, e2, e3⟩ := s2 i hi
        refine ⟨_, o, e3, e1, rfl, ?_, ?_, fun h => ?_, ?_⟩
        · exact (ren_ren (live := fun p => memN p fps) (fun p hp => (idxN_get (memN_ok.1 hp)).2) _ e2).symm
        · exact idsIn_ren (live := fun p => memN p fps) (fun p hp => by simpa using (idxN_get (memN_ok.1 hp)).1) _ e2
        · simp only [Bool.and_eq_true] at h; exact ⟨h.2, rfl⟩
        · exact ⟨fun h => ⟨_, e3, h⟩, fun ⟨o', h1, h2⟩ => by rw [e3] at h1; injection h1 with h1; injection h1 with h1; subst h1; exact h2⟩
      · rw [List.getElem?_append_left (by omega)]
        exact b2 p fun j hj hw => hno j hj hw
      · obtain ⟨o1, e1, e2, e3, e4, e5⟩ := b3 i hi hw
        refine ⟨o1, e1, e2, ?_, e3, e5⟩
        have hlt := (List.getElem?_eq_some_iff.1 e4).1
        rw [List.getElem?_append_left hlt, e4]
      · have hj : p - T.length < news.length := by simp [b1, n1] at h2; omega
        obtain ⟨o, hge, e1, e2, e3, e4, e5⟩ := n2 _ hj
        have hmem : news.getD (p - T.length) 0 ∈ news := by rw [getD_el hj]; exact List.getElem_mem _
        have hidx := idxN_get hmem
        have hpos : idxN news (news.getD (p - T.length) 0) = p - T.length := nodup_getD nd2 hidx.1 hj hidx.2
        refine ⟨_, o, hge, by simp only [liveR]; rw [memN_ok.2 hmem, Bool.or_true], by rw [hnew _ hge, hpos]; omega, e1, e2, ?_, e3, e5⟩
        rw [List.getElem?_append_right (by omega), b1, e4]
      · rw [hnew i hi]
        have := (idxN_get (hlive i hi h)).1
        simp [b1, n1]; omega
      · rw [hnew i hi, hnew j hj] at he
        have e1 := (idxN_get (hlive i hi h)).2
        have e2 := (idxN_get (hlive j hj h')).2
        rw [← e1, ← e2]
        congr 1; omega
      · exact fun a ha => idsInL_mem (idsInL_ren (live := fun p => memN p fps) (fun p hp => by simpa using (idxN_get (memN_ok.1 hp)).1) args k3) a ha
      · intro i hi
        exact backed_ok hr hvs k4 (fun q hq => by cases hq) _ (by rw [getD_el hi]; exact List.getElem_mem _)

/-- what has to be shown of a specification -/
def SmOk (P : Program) (gl : Nat → Option AVal) (f : FuncId) (sm : Summary) : Prop := ∀ args T0, allP (sm args T0).cs → Small P gl f args T0 (sm args T0).val (sm args T0).tab
theorem callR_ok {P : Program} {gl : Nat → Option AVal} {f : FuncId} {sm : Summary} (h : SmOk P gl f sm) (wr : List Bool) : SumOk P gl f (callR sm wr) := by
  refine sumOk_of fun args T hc ν w vs hr hv => ?_
  unfold callR at hc ⊢
  generalize reachGo T 1000 (idsVs [] args) [] = fps at hc ⊢
  unfold callF at hc ⊢
  cases hT0 : smallR T wr fps fps 0 with
  | none => rw [hT0] at hc; exact absurd hc (by simp [fail, allP, Con.h])
  | some T0 =>
    rw [hT0] at hc
    simp only at hc ⊢
    unfold callGoR at hc ⊢
    have h1 := h (rens (idxN fps) args) T0
    generalize sm (rens (idxN fps) args) T0 = r at h1 hc ⊢
    obtain ⟨cs, v, T1⟩ := r
    exact callGoN_ok hT0 h1 hc hr hv
/-- a body's run, as such -/
def smRun (m : Mode) (E : Env) (fn : Func) (orc : OrcL) (fuel : Nat) (ds : List (Option Bool)) : Summary := fun args T0 => settled m (runF E fn orc fuel args T0 ds)
theorem smRun_ok {m : Mode} {E : Env} (hE : EnvOk E) (hm : E.P.follows .mixedOrders = true) {f : FuncId} {fn : Func} (hf : E.P.funcs[f]? = some fn) (hb : fn.body.isSome = true) (orc : OrcL) (hO : FnOrc E fn orc) (fuel : Nat) (ds : List (Option Bool)) : SmOk E.P E.gl f (smRun m E fn orc fuel ds) := by
  intro args T0 hc
  unfold smRun at hc ⊢
  obtain ⟨h1, h2, h3⟩ := settled_ok hc
  rw [h2, h3]
  exact runF_small hE hm hf hb orc hO fuel ds h1
/-- a function's summary: its body, run at the call -/
def sumI (m : Mode) (E : Env) (fn : Func) (orc : OrcL) (fuel : Nat) (ds : List (Option Bool)) (wr : List Bool) : Summary := callR (smRun m E fn orc fuel ds) wr
theorem sumI_ok {m : Mode} {E : Env} (hE : EnvOk E) (hm : E.P.follows .mixedOrders = true) {f : FuncId} {fn : Func} (hf : E.P.funcs[f]? = some fn) (hb : fn.body.isSome = true) (orc : OrcL) (hO : FnOrc E fn orc) (fuel : Nat) (ds : List (Option Bool)) (wr : List Bool) :
    SumOk E.P E.gl f (sumI m E fn orc fuel ds wr) := callR_ok (smRun_ok hE hm hf hb orc hO fuel ds) wr
end Go.Abs

set_option linter.unusedVariables false
set_option linter.unusedSimpArgs false
namespace Go.Abs

/-! ## Words for proofs: nothing here unfolds by itself -/
structure Ok (o : Out) : Prop where h : allP o.cs
structure OkR (r : Res) : Prop where h : allP r.cs
def To (E : Env) (n k : Nat) (c : Code) (fm : Fm) (T : Tab) (ex : AExit) (fm' : Fm) (T' : Tab) : Prop := AWp E n k c fm T fun e f t => e = ex ∧ f = fm' ∧ t = T'

theorem Ok.of {o : Out} {cs : List Con} (e : o.cs = cs) (h : allP cs) : Ok o := ⟨e ▸ h⟩
theorem OkR.of {o : Res} {cs : List Con} (e : o.cs = cs) (h : allP cs) : OkR o := ⟨e ▸ h⟩
theorem To.is {E : Env} {n k : Nat} {c : Code} {fm : Fm} {T : Tab} {o : Out} (h : To E n k c fm T o.ex o.fm o.tab) : AWp E n k c fm T (Is o) := h
theorem To.of {E : Env} (hE : EnvOk E) (hm : E.P.follows .mixedOrders = true) {n k m : Nat} {orc : Orc} (hk : k ≤ orc.kb) {c : Code} (hO : OrcOk E n orc c) {f : Nat} {fm : Fm} {T : Tab} {ds : List (Option Bool)} {slots : List Nat} {o : Out}
    (ho : trim k m slots (run E n orc f c fm T ds) = o) (h : Ok o) {ex : AExit} {fm' : Fm} {T' : Tab} (e1 : o.ex = ex) (e2 : o.fm = fm') (e3 : o.tab = T') : To E n k c fm T ex fm' T' := by
  subst e1 e2 e3
  exact run_trim' hE hm m orc hk hO f ds slots ho h.h
theorem To.base {E : Env} {n k kb : Nat} {c : Code} {fm : Fm} {T : Tab} {ex : AExit} {fm' : Fm} {T' : Tab} (hk : k ≤ kb) (h : To E n kb c fm T ex fm' T') : To E n k c fm T ex fm' T' := AWp.base hk h

/-- a counted loop in its block, and out of it -/
theorem To.rounds {E : Env} {n k : Nat} {id : Nat} {c : Code} (F : Nat → Fm) (T : Nat → Tab) (N : Nat) {fm' : Fm} {T' : Tab}
    (round : ∀ i, i < N → To E n k c (F i) (T i) .normal (F (i + 1)) (T (i + 1))) (last : To E n k c (F N) (T N) (.exit id) fm' T') : To E n k (.block id (.loop c)) (F 0) (T 0) .normal fm' T' := by
  refine AWp.block ?_
  refine AWp.loop (fun fm T' m => ∃ i, i ≤ N ∧ m = N - i ∧ fm = F i ∧ T' = T i) N ⟨0, Nat.zero_le _, rfl, rfl, rfl⟩ ?_
  rintro fm T1 m ⟨i, hi, rfl, rfl, rfl⟩
  rcases Nat.lt_or_ge i N with hlt | hge
  · refine (round i hlt).mono fun ex fm1 T1 ⟨e1, e2, e3⟩ => ?_
    subst e1 e2 e3
    exact ⟨N - (i + 1), by omega, i + 1, hlt, rfl, rfl, rfl⟩
  · have : i = N := by omega
    subst this
    refine last.mono fun ex fm1 T1 ⟨e1, e2, e3⟩ => ?_
    subst e1 e2 e3
    simp
/-- the values of some slots -/
def pickV (m : Nat) (fm : Fm) : List Nat → Option (List AVal)
  | [] => some []
  | t :: r => match look fm t, pickV m fm r with
    | some v, some vs => match idsIn (fun i => Nat.blt i m) v with
      | true => some (v :: vs)
      | false => none
    | _, _ => none
def zipF : List Nat → List AVal → Fm
  | t :: r, v :: vs => (t, v) :: zipF r vs
  | _, _ => []
theorem pickV_ok {m : Nat} {fm : Fm} : ∀ {l : List Nat} {vs : List AVal}, pickV m fm l = some vs → pickF m fm l = some (zipF l vs)
  | [], vs, h => by simp [pickV] at h; subst h; rfl
  | t :: r, vs, h => by
    simp only [pickV] at h
    split at h
    · rename_i v us h1 h2
      split at h
      · rename_i h3
        injection h with h; subst h
        simp only [pickF, h1, pickV_ok h2, h3, zipF]
      · cases h
    · cases h
/-- what is told of a block, by the values of some slots and the first m objects -/
def blkS (m : Nat) (slots : List Nat) (g : List AVal → Tab → Out) : Nat → Fm → Tab → List (Option Bool) → Out := fun kb fm T ds =>
  match Nat.ble kb m && (Nat.ble m T.length && tabIn m (takeT m T)), pickV m fm slots with
  | true, some vs => match g vs (takeT m T) with
    | ⟨cs, ex, fm', T', _⟩ => ⟨cs, ex, fm', T', ds⟩
  | _, _ => failO
theorem blkS_ok {E : Env} {fn : Func} {id : Nat} {c : Code} {m : Nat} {slots : List Nat} {g : List AVal → Tab → Out}
    (hg : ∀ vs T, Ok (g vs T) → To E fn.ntmps m (.block id c) (zipF slots vs) T (g vs T).ex (g vs T).fm (g vs T).tab) : BlkOk E fn id c (blkS m slots g) := by
  intro kb fm T ds hc
  unfold blkS at hc ⊢
  cases hb : Nat.ble kb m && (Nat.ble m T.length && tabIn m (takeT m T)) with
  | false => rw [hb] at hc; exact absurd hc failO_no
  | true =>
    cases hp : pickV m fm slots with
    | none => rw [hb, hp] at hc; exact absurd hc failO_no
    | some vs =>
      rw [hb, hp] at hc
      simp only at hc ⊢
      have h1 := hg vs (takeT m T)
      generalize g vs (takeT m T) = o at h1 hc ⊢
      obtain ⟨cs, ex, fm', T', ds'⟩ := o
      simp only [Bool.and_eq_true] at hb
      refine AWp.base (Nat.le_of_ble_eq_true hb.1) ?_
      exact AWp.enter (k := m) (m := m) (pickV_ok hp) (by simp only [Bool.and_eq_true]; exact ⟨⟨Nat.ble_eq_true_of_le (Nat.le_refl m), hb.2.1⟩, hb.2.2⟩) (h1 ⟨hc⟩)

open Go.RowKit in
/-! ## Demands: those that are flagged are computed, the same ones compared, the rest shown -/
def chkF : List Bool → List Con → Bool
  | _, [] => true
  | true :: fl, c :: cs => match c.chk modeB with
    | some true => chkF fl cs
    | _ => false
  | _ :: fl, _ :: cs => chkF fl cs
  | [], _ :: _ => false
def restF : List Bool → List Con → List Con
  | true :: fl, _ :: cs => restF fl cs
  | false :: fl, c :: cs => match c with
    | .tab _ _ => restF fl cs
    | .val _ _ => restF fl cs
    | c => c :: restF fl cs
  | _, _ => []
theorem demands : ∀ {fl : List Bool} {cs : List Con}, chkF fl cs = true → lefts cs = rights cs → allP (restF fl cs) → allP cs
  | _, [], _, _, _ => trivial
  | [], _ :: _, h, _, _ => by simp [chkF] at h
  | true :: fl, c :: cs, h1, h2, h3 => by
    simp only [chkF] at h1
    split at h1
    · rename_i hk
      have hc := Con.chk_ok hk
      refine ⟨hc, demands h1 ?_ h3⟩
      cases c <;> simp only [lefts, rights] at h2 ⊢ <;> first | exact h2 | (injection h2)
    · cases h1
  | false :: fl, c :: cs, h1, h2, h3 => by
    simp only [chkF] at h1
    cases c with
    | tab a b =>
      simp only [lefts, rights] at h2
      injection h2 with h4 h5
      exact ⟨h4, demands h1 h5 h3⟩
    | val a b =>
      simp only [lefts, rights] at h2
      injection h2 with h4 h5
      injection h4 with h4 _
      injection h4 with h4
      injection h4 with h4
      exact ⟨h4, demands h1 h5 h3⟩
    | _ => exact ⟨h3.1, demands h1 h2 h3.2⟩
theorem Ok.dem {o : Out} {fl : List Bool} {l : List Con} (h1 : chkF fl o.cs = true) (h2 : lefts o.cs = rights o.cs) (h3 : restF fl o.cs = l) (h : allP l) : Ok o := ⟨demands h1 h2 (h3 ▸ h)⟩
theorem OkR.dem {o : Res} {fl : List Bool} {l : List Con} (h1 : chkF fl o.cs = true) (h2 : lefts o.cs = rights o.cs) (h3 : restF fl o.cs = l) (h : allP l) : OkR o := ⟨demands h1 h2 (h3 ▸ h)⟩

/-- a body's run, as a contract -/
theorem small_of {E : Env} (hE : EnvOk E) (hm : E.P.follows .mixedOrders = true) {f : FuncId} {fn : Func} (hf : E.P.funcs[f]? = some fn) (hb : fn.body.isSome = true) {orc : OrcL} (hO : FnOrc E fn orc) {fuel : Nat} {args : List AVal} {T : Tab} {ds : List (Option Bool)} {R : Res}
    (hR : runF E fn orc fuel args T ds = R) (h : OkR R) {v : AVal} {T1 : Tab} (hv : R.val = v) (ht : R.tab = T1) : Small E.P E.gl f args T v T1 := by
  subst hv ht hR
  exact runF_small hE hm hf hb orc hO fuel ds h.h
theorem nofail : ¬ allP fail.cs := by simp [fail, allP, Con.h]
end Go.Abs
namespace Go.Abs
/-- of a table only the first objects are kept: what came in -/
theorem small_drop {fin : Value → Ending} {P : Program} {gl : Nat → Option AVal} {f : FuncId} {args : List AVal} {T0 T1 : Tab} {v : AVal} (h : SmallE fin P gl f args T0 v T1) (hl : T0.length ≤ T1.length := by (first | exact Nat.zero_le _ | simp)) (hi : tabIn T0.length (takeT T0.length T1) = true := by rfl) (hv : noIds v = true := by rfl) :
    SmallE fin P gl f args T0 v (takeT T0.length T1) := by
  intro ν w vs hr hvs
  refine (h ν w vs hr hvs).mono ?_
  rintro e w' ⟨x, ν', rfl, h1, h2, h3, h4⟩
  have hs : SRel ⟨P, fun _ => none, fun _ => none, gl⟩ [] ν' [] T1 0 { tmps := #[], defers := [] } w' := ⟨h2, fun t u hu => by simp [look] at hu, Nat.zero_le _, rfl⟩
  obtain ⟨ν2, s2, e5, e6⟩ := hs.cut (m := T0.length) (f := []) hl (fun t u hu => by simp [look] at hu) hi
  refine ⟨x, ν2, rfl, ?_, s2.hr, fun p hp l hl => ?_, h4.sub e6⟩
  · have := h1.ren (ν' := ν2) (r := id) (live := fun _ => false) (fun i l hb => by cases hb) hv
    rwa [ren_no v hv] at this
  · obtain ⟨l', g1, g2⟩ := h3 p hp l hl
    exact ⟨l', by rw [e5 p hp]; exact g1, g2⟩
end Go.Abs

set_option linter.unusedVariables false
namespace Go.Abs
open Go.RowKit Go.WideShapes Go.ChangeShapes
section
variable {H : Type} {enc : TypeId × Value → H} {P : Program}
theorem post_of_below {f : Func} {s : ChangeSpec} {apart fresh handsOn again : Bool} {W W' : World} {args : Array Value} {v : Value} {ds gs : List (DataW H)} {before pa pv : List MemPlace}
    (hW : DataW.Whole enc P f.params.toList s.vars apart W args.toList ds gs before)
    (hres : ∀ (b : Nat) (sp : Nat → Bool) (hd : Bool), DataW.TrodAll enc P W' b sp hd f.resultTypes.toList (v.resultList f.resultTypes.size) (s.fn H (ds ++ gs)).results [])
    (hargs : ∀ sp : Nat → Bool, (∀ p ∈ before, sp p.block = true) → DataW.TrodAll enc P W' 0 sp true f.params.toList args.toList (s.fn H (ds ++ gs)).args pa)
    (hvars : ∀ sp : Nat → Bool, (∀ p ∈ before, sp p.block = true) → DataW.TrodVars enc P W' sp s.vars (s.fn H (ds ++ gs)).vars pv)
    (hps : before = pa ++ pv) (hb : Below W.heap.size W W')
    (hok : ∀ (j : Nat) (t : TypeId) (r : Value), f.resultTypes[j]? = some t → (v.resultList f.resultTypes.size)[j]? = some r → Value.okWide P W' .any 0 t r) :
    s.post enc P f apart fresh handsOn again W args v W' := by
  have hlt : ∀ p ∈ before, p.block < W.heap.size := fun p hp => hW.lt p hp
  have hold : ∀ p ∈ before, (fun b => decide (b < W.heap.size)) p.block = true := fun p hp => by simpa using hlt p hp
  refine ⟨ds, gs, before, [], pa, pv, hW, hres _ _ _, hargs _ hold, hvars _ hold, World.keptBut_mono (fun p hp => ⟨hp, ?_⟩) (hb.frame (· ∈ before)), fun _ => ?_⟩
  · rw [hps, List.mem_append] at hp
    exact Or.inr hp
  · obtain ⟨_, _, _, _, _, hz, hn⟩ := hW
    refine ⟨hok, _, _, ([] ++ pa) ++ pv, ⟨[] ++ pa, pv, trodAll_append (hargs _ (fun _ _ => rfl)) (hres _ _ _), hvars _ (fun _ _ => rfl), rfl, ?_, ?_⟩, ?_⟩
    · intro b off hp
      have hin : MemPlace.cell b off ∈ before := by rw [hps]; simpa using hp
      rw [hb.frozen (hlt _ hin)]
      exact hz b off hin
    · intro ha
      have := hn ha
      rw [hps] at this
      simpa using this
    · intro p hp _
      rw [hps]
      simpa using hp
end
end Go.Abs

set_option linter.unusedVariables false
set_option linter.unusedSimpArgs false
namespace Go.Abs
open Go.RowKit Go.WideShapes Go.ChangeShapes Go.ChangeAt

/-! ## Rows of laws -/
section
variable {H : Type} {enc : TypeId × Value → H} {P : Program}

theorem trodAll_stays (hl : laidOutB P = true) {W W' : World} {sp' : Nat → Bool} : ∀ {ts : List TypeId} {vs : List Value} {ds : List (DataW H)} {ps : List MemPlace}, (∀ t ∈ ts, P.readableRec t = true ∧ t < P.types.size) →
    DataW.TrodAll enc P W 0 (fun _ => true) true ts vs ds ps → (∀ p ∈ ps, W.sameAt W' p) → (∀ p ∈ ps, sp' p.block = true) → DataW.TrodAll enc P W' 0 sp' true ts vs ds ps
  | [], vs, ds, ps, _, h, _, _ => by
    obtain ⟨rfl, rfl, rfl⟩ := trodAll_nil h
    exact h
  | t :: ts, vs, ds, ps, ht, h, h1, h2 => by
    obtain ⟨v, vs', d, ds', p, q, rfl, rfl, rfl, g1, g2⟩ := trodAll_cons h
    exact trodAll_cons_mk (WideElems.Trod_stays hl (ht t (.head _)).1 (ht t (.head _)).2 g1 (fun p hp => h1 p (List.mem_append_left _ hp)) (fun p hp => h2 p (List.mem_append_left _ hp)))
      (trodAll_stays hl (fun t ht' => ht t (.tail _ ht')) g2 (fun p hp => h1 p (List.mem_append_right _ hp)) (fun p hp => h2 p (List.mem_append_right _ hp)))

theorem sameAt_below {W W' : World} (h : Below W.heap.size W W') {p : MemPlace} (hp : p.block < W.heap.size) : W.sameAt W' p := by
  have hb := h.block p.block hp
  cases p with
  | cell b off => exact World.cell?_of_block hb
  | map b => exact hb

/-- a law's ending: true, and all that came in reads as before -/
theorem law_post {f : Func} {s : ChangeSpec} {tb : TypeId} (hl : laidOutB P = true) (hts : ∀ t ∈ f.params.toList, P.readableRec t = true ∧ t < P.types.size) (hvars : s.vars = [])
    {W W' : World} {args : Array Value} {ds gs : List (DataW H)} {before : List MemPlace} (hW : DataW.Whole enc P f.params.toList s.vars false W args.toList ds gs before)
    (hspec : s.fn H (ds ++ gs) = { results := [.lit (.bool true)], args := ds }) (hr : f.resultTypes = #[tb]) (hb : P.underlying tb = some .bool) (hbel : Below W.heap.size W W') :
    s.post enc P f false true false false W args (.bool true) W' := by
  have hW' := hW
  obtain ⟨p, q, hA, hV, rfl, hfz, hnd⟩ := hW
  rw [hvars] at hV
  obtain ⟨rfl, rfl⟩ := trodVars_none hV
  have hlt : ∀ x ∈ p, x.block < W.heap.size := fun x hx => hW'.lt x (by simpa using hx)
  refine post_of_below (pa := p) (pv := []) hW' (fun _ _ _ => ?_) (fun sp hsp => ?_) (fun sp _ => ?_) (by simp) hbel ?_
  · rw [hspec, hr]
    exact trodAll_cons_mk (shut_bool hb _) trodAll_mk0
  · rw [hspec]
    exact trodAll_stays hl hts hA (fun x hx => sameAt_below hbel (hlt x hx)) (fun x hx => hsp x (by simpa using hx))
  · rw [hspec, hvars]
    exact rfl
  · exact ok_one hr rfl (okWide_bool_mk hb _)

/-- a slice of bytes that came in -/
theorem arg_bytes {t e : TypeId} (ht : P.underlying t = some (.slice e)) (he : P.underlying e = some (.int .u8)) (hc : P.cellsOf e = 1) (hby : P.bytesOf e = 1) {W : World} {base : Nat} {v : Value} {d : DataW H} {ps : List MemPlace}
    (hval : Value.okWide P W .any base t v) (hT : DataW.Trod enc P W 0 (fun _ => true) true t v d ps) (hsz : ∀ elems spare, d = .slice elems spare → (elems.length + spare.length) * P.bytesOf e ≤ reachBytes) :
    ∃ (zs : List Int) (n : Nat) (l : Loc), n ≤ zs.length ∧ (∀ z ∈ zs, 0 ≤ z ∧ z < 256) ∧ zs.length ≤ 140737488351232 ∧ l.g = 0 ∧ l.room = zs.length ∧ (0 < l.room → l.a.block < W.heap.size) ∧
      (∀ i, i < zs.length → W.cell? (l.a.add i) = some (.int .u8 (zs.getD i 0))) ∧ (∀ (ν : Nu) (p : Nat), ν p = some l → VR ν (.slice 1 p 0 0 n (some zs.length)) v) := by
  obtain ⟨a1, len, cap, rfl⟩ := okWide_slice ht hval
  obtain ⟨fuel, hf⟩ := hT
  rcases open_ints ht he hc hf with ⟨hcs, hx⟩ | ⟨a, len', cap', zs, hcs, _, hl, hm, hz, hx, hcell, hwz⟩
  · simp [Value.cells] at hcs
    obtain ⟨rfl, rfl, rfl⟩ := hcs
    exact ⟨[], 0, ⟨⟨0, 0, none⟩, 0, 0⟩, Nat.le_refl _, fun z hz => (by cases hz), by simp, rfl, rfl, fun h => (by cases h), fun i hi => (by simp at hi), fun ν p hp => .sliceZ none hp rfl (.inl rfl)⟩
  · simp [Value.cells] at hcs
    obtain ⟨rfl, rfl, rfl⟩ := hcs
    simp only [Prod.mk.injEq] at hx
    obtain ⟨rfl, rfl⟩ := hx
    simp only [if_true] at hz
    have hs := hsz _ _ rfl
    rw [hby] at hs
    have hlen : (lits (H := H) .u8 (zs.take len)).length + (lits (H := H) .u8 (zs.drop len)).length = zs.length := by simp [lits]; omega
    rw [hlen] at hs
    refine ⟨zs, len, ⟨a, 0, zs.length⟩, by omega, fun z hz => ?_, by unfold reachBytes at hs; omega, rfl, rfl, fun h0 => ?_, hcell, fun ν p hp => ?_⟩
    · have := hwz z hz
      simp [Lit.wf, IntKind.min, IntKind.max, IntKind.signed, IntKind.bits] at this
      omega
    · have h1 := hcell 0 h0
      unfold World.cell? at h1
      rcases Nat.lt_or_ge a.block W.heap.size with h | h
      · exact h
      · have hb : (a.add 0).block = a.block := block_add a 0
        rw [hb, Array.getElem?_eq_none h] at h1
        cases h1
    · refine .slice hp rfl ⟨hl, fun k hk => by injection hk with hk; omega, ?_, by simp; omega, fun h => (by cases h)⟩
      simp [Addr.add]

def nuL (ls : List Loc) : Nu := fun p => ls[p]?
/-- what came in is a table of objects that are not written -/
theorem HR.args {T : Tab} {ls : List Loc} {W : World} (hlen : T.length = ls.length)
    (h : ∀ (p : Nat) (o : Option AObj), T[p]? = some o → ∃ (d : AVal) (et : TypeId) (l : Loc), o = some ⟨d, 0, false, et⟩ ∧ ls[p]? = some l ∧ l.g = 0 ∧ IsData d ∧ d.len ≤ l.room ∧ (0 < l.room → l.a.block < W.heap.size) ∧ (∀ i, i < d.len → (∃ x, W.cell? (l.a.add i) = some x ∧ VR (nuL ls) (d.get i) x)) ∧ FamOk (fun _ => False) W ⟨d, 0, false, et⟩ l) :
    HR (fun _ => none) (nuL ls) T W := by
  refine ⟨fun p o l ho hl => ?_, fun p l hl => ?_, fun p hp => ?_, fun p l hl h0 => ?_, fun p q o o' l l' ho ho' hw hne hl hl' h0 h0' => ?_, fun b d hb => (by cases hb), fun p o l ho hl => ?_⟩
  · obtain ⟨d, et, l1, e1, e2, e3, e4, e5, e6, e7⟩ := h p _ ho
    injection e1 with e1; subst e1
    simp only [nuL] at hl
    rw [e2] at hl; injection hl with hl; subst hl
    exact ⟨e3.symm, e4, .inr (.inl ⟨rfl, e5, e7.1⟩)⟩
  · simp only [nuL] at hl
    rw [hlen]; exact (List.getElem?_eq_some_iff.1 hl).1
  · obtain ⟨d, et, l1, e1, _⟩ := h p _ hp
    cases e1
  · simp only [nuL] at hl
    have hlt := (List.getElem?_eq_some_iff.1 hl).1
    obtain ⟨o, ho⟩ : ∃ o, T[p]? = some o := ⟨T[p]'(by omega), List.getElem?_eq_getElem (by omega)⟩
    obtain ⟨d, et, l1, e1, e2, e3, e4, e5, e6, e7⟩ := h p o ho
    rw [e2] at hl; injection hl with hl; subst hl
    exact e6 h0
  · obtain ⟨d, et, l1, e1, _⟩ := h p _ ho
    injection e1 with e1; subst e1
    cases hw
  · obtain ⟨d, et, l1, e1, e2, e3, e4, e5, e6, e7, e8⟩ := h p _ ho
    injection e1 with e1; subst e1
    simp only [nuL] at hl
    rw [e2] at hl; injection hl with hl; subst hl
    refine e8.sub ?_
    rintro b ⟨q, oq, lq, k1, k2, _⟩
    obtain ⟨d', et', l', f1, _⟩ := h q _ k1
    injection f1 with f1; subst f1
    cases k2

/-- a law over what came in -/
theorem calls_args {f : FuncId} {args : List AVal} {v : AVal} {T T1 : Tab} {ls : List Loc} {w : World} {vs : Array Value} {x : Value} (h : Small P (fun _ => none) f args T v T1) (hT : HR (fun _ => none) (nuL ls) T w) (hown : ∀ (p : Nat) (o : AObj), T[p]? = some (some o) → o.own = false)
    (hx : ∀ ν y, VR ν v y → y = x) (hv : VRs (nuL ls) args vs.toList) :
    Calls P f vs w fun e w' => e = .returned x ∧ Below w.heap.size w w' := by
  refine (h (nuL ls) w vs hT hv).mono ?_
  rintro e w' ⟨y, ν', rfl, h1, h2, h3, h4⟩
  refine ⟨by rw [hx _ _ h1], h4.os, h4.tape, h4.output, h4.size, fun b hb => h4.block b hb ?_⟩
  rintro ⟨p, o, l, ho, hw, _⟩
  rw [hown p o ho] at hw
  cases hw
theorem bytes_obj {W : World} {zs : List Int} {l : Loc} {ν : Nu} (hcell : ∀ i, i < zs.length → W.cell? (l.a.add i) = some (.int .u8 (zs.getD i 0))) : ∀ i, i < (AVal.ints .u8 zs).len → ∃ x, W.cell? (l.a.add i) = some x ∧ VR ν ((AVal.ints .u8 zs).get i) x :=
  fun i hi => ⟨_, hcell i hi, .int _ _⟩
end
end Go.Abs

set_option linter.unusedVariables false
set_option linter.unusedSimpArgs false
namespace Go.Abs
open Go.RowKit Go.WideShapes Go.ChangeShapes Go.ChangeAt
/-! ## Rows of laws: a struct of four slices of bytes -/
section
variable {H : Type} {enc : TypeId × Value → H} {P : Program}
/-- a slice of bytes, out of its reading: a whole room -/
theorem arg_bytesT {t e : TypeId} (ht : P.underlying t = some (.slice e)) (he : P.underlying e = some (.int .u8)) (hc : P.cellsOf e = 1) (hby : P.bytesOf e = 1) {W : World} {fuel : Nat} {v : Value} {x : DataW H × List MemPlace}
    (hT : DataW.trod enc P W 0 (fun _ => true) true fuel t [v] = some x) (hsz : ∀ elems spare, x.1 = .slice elems spare → (elems.length + spare.length) * P.bytesOf e ≤ reachBytes) :
    ∃ (zs : List Int) (n : Nat) (l : Loc), n ≤ zs.length ∧ (∀ z ∈ zs, 0 ≤ z ∧ z < 256) ∧ zs.length ≤ 140737488351232 ∧ l.g = 0 ∧ l.room = zs.length ∧ (0 < l.room → l.a.block < W.heap.size) ∧
      (∀ i, i < zs.length → W.cell? (l.a.add i) = some (.int .u8 (zs.getD i 0))) ∧ (∀ (ν : Nu) (p : Nat), ν p = some l → VR ν (.slice 1 p 0 0 n none) v) := by
  rcases open_ints ht he hc hT with ⟨hcs, hx⟩ | ⟨a, len', cap', zs, hcs, _, hl, hm, hz, hx, hcell, hwz⟩
  · simp only [List.cons.injEq, and_true] at hcs
    subst hcs
    exact ⟨[], 0, ⟨⟨0, 0, none⟩, 0, 0⟩, Nat.le_refl _, fun z hz => (by cases hz), by simp, rfl, rfl, fun h => (by cases h), fun i hi => (by simp at hi), fun ν p hp => .sliceZ none hp rfl (.inr ⟨rfl, Nat.le_refl 0⟩)⟩
  · simp only [List.cons.injEq, and_true] at hcs
    subst hcs
    subst hx
    simp only [if_true] at hz
    have hs := hsz _ _ rfl
    rw [hby] at hs
    have hlen : (lits (H := H) .u8 (zs.take len')).length + (lits (H := H) .u8 (zs.drop len')).length = zs.length := by simp [lits]; omega
    rw [hlen] at hs
    refine ⟨zs, len', ⟨a, 0, zs.length⟩, by omega, fun z hz => ?_, by unfold reachBytes at hs; omega, rfl, rfl, fun h0 => ?_, hcell, fun ν p hp => ?_⟩
    · have := hwz z hz
      simp [Lit.wf, IntKind.min, IntKind.max, IntKind.signed, IntKind.bits] at this
      omega
    · have h1 := hcell 0 h0
      unfold World.cell? at h1
      rcases Nat.lt_or_ge a.block W.heap.size with h | h
      · exact h
      · have hb : (a.add 0).block = a.block := block_add a 0
        rw [hb, Array.getElem?_eq_none h] at h1
        cases h1
    · refine .slice hp rfl ⟨hl, fun k hk => (by cases hk), ?_, by simp; omega, fun _ => by simp; omega⟩
      simp [Addr.add]
/-- the reach of a part of a struct -/
theorem sized_part {ts : List TypeId} {ds : List (DataW H)} (h : (DataW.weightsEach P ts ds).all (· ≤ reachBytes) = true) {j i : Nat} {t u e : TypeId} {fs : Array Field} {parts elems spare : List (DataW H)} (ht : ts[j]? = some t) (hd : ds[j]? = some (.agg parts)) (hu : P.underlying t = some (.struct fs))
    (hf : (fs.toList.map (·.type))[i]? = some u) (hp : parts[i]? = some (.slice elems spare)) (hu2 : P.underlying u = some (.slice e)) : (elems.length + spare.length) * P.bytesOf e ≤ reachBytes := by
  refine of_decide_eq_true (List.all_eq_true.1 h _ (DataW.weights_mem_each ht hd _ ?_))
  simp only [DataW.weights, hu]
  exact DataW.weights_mem_each hf hp _ (by simp [DataW.weights, hu2])
end
end Go.Abs

set_option linter.unusedVariables false
set_option linter.unusedSimpArgs false
namespace Go.Abs
open Go.RowKit Go.WideShapes Go.ChangeShapes Go.ChangeAt
/-! ## Rows of laws: a slice of structs of two numbers -/
section
variable {H : Type} {enc : TypeId × Value → H} {P : Program}
theorem ints_obj {W : World} {k : IntKind} {zs : List Int} {l : Loc} {ν : Nu} (hcell : ∀ i, i < zs.length → W.cell? (l.a.add i) = some (.int k (zs.getD i 0))) : ∀ i, i < (AVal.ints k zs).len → ∃ x, W.cell? (l.a.add i) = some x ∧ VR ν ((AVal.ints k zs).get i) x :=
  fun i hi => ⟨_, hcell i hi, .int _ _⟩
end
end Go.Abs

set_option linter.unusedVariables false
set_option linter.unusedSimpArgs false
namespace Go.Abs

/-- an empty object beside the others -/
theorem HR.pushEmpty {gl : Nat → Option AVal} {ν : Nu} {T : Tab} {w : World} (hr : HR gl ν T w) (kk : IntKind) (et : TypeId) :
    ∃ l0 : Loc, l0.g = 0 ∧ l0.room = 0 ∧ HR gl (upd ν T.length l0) (T ++ [some ⟨.ints kk [], 0, true, et⟩]) w ∧ NuLe ν (upd ν T.length l0) ∧ (∀ b, Own (upd ν T.length l0) (T ++ [some ⟨.ints kk [], 0, true, et⟩]) b → Own ν T b) := by
  have hn : ν T.length = none := by
    cases hν : ν T.length with
    | none => rfl
    | some l => have := hr.lt _ l hν; omega
  obtain ⟨l0, hl0⟩ : ∃ l0 : Loc, l0 = ⟨⟨0, 0, none⟩, 0, 0⟩ := ⟨_, rfl⟩
  have hm : NuLe ν (upd ν T.length l0) := NuLe.upd_new (ν := ν) l0 hn
  have same : ∀ p, p ≠ T.length → upd ν T.length l0 p = ν p := fun p hp => upd_other ν l0 hp
  have self : upd ν T.length l0 T.length = some l0 := upd_same ν _ l0
  have getT : ∀ p o, (T ++ [some (⟨.ints kk [], 0, true, et⟩ : AObj)])[p]? = some o → (p < T.length ∧ T[p]? = some o) ∨ (p = T.length ∧ o = some ⟨.ints kk [], 0, true, et⟩) := by
    intro p o ho
    rcases Nat.lt_or_ge p T.length with hp | hp
    · rw [List.getElem?_append_left hp] at ho; exact .inl ⟨hp, ho⟩
    · rw [List.getElem?_append_right hp] at ho
      have hlt := (List.getElem?_eq_some_iff.1 ho).1
      have hp0 : p = T.length := by simp at hlt; omega
      subst hp0
      simp at ho
      exact .inr ⟨rfl, ho.symm⟩
  have hown : ∀ b, Own (upd ν T.length l0) (T ++ [some ⟨.ints kk [], 0, true, et⟩]) b → Own ν T b := by
    rintro b ⟨p, o, l, h1, h2, h3, h4, h5⟩
    rcases getT p _ h1 with ⟨hp, h1⟩ | ⟨hp, h1⟩
    · rw [same p (by omega)] at h3; exact ⟨p, o, l, h1, h2, h3, h4, h5⟩
    · subst hp; rw [self] at h3; injection h3 with h3; subst h3; subst hl0; simp at h4
  refine ⟨l0, by rw [hl0], by rw [hl0], ⟨fun p o l ho hl => ?_, fun p l hl => ?_, fun p hp => ?_, fun p l hl h0 => ?_, fun p q o o' l l' ho ho' hw hne hl hl' h0 h0' => ?_, fun b d hb => ?_, fun p o l ho hl => ?_⟩, hm, hown⟩
  · rcases getT p _ ho with ⟨hp, h1⟩ | ⟨hp, h1⟩
    · rw [same p (by omega)] at hl
      obtain ⟨g1, g2⟩ := hr.obj p o l h1 hl
      exact ⟨g1, g2.kept hm fun _ => rfl⟩
    · subst hp; rw [self] at hl; injection hl with hl; subst hl; subst hl0
      injection h1 with h1; subst h1
      exact ⟨rfl, .ints _ _, .inr (.inr ⟨rfl, rfl⟩)⟩
  · by_cases e : p = T.length
    · subst e; simp
    · rw [same p e] at hl; have := hr.lt p l hl; simp; omega
  · rcases getT p _ hp with ⟨hp', h1⟩ | ⟨hp', h1⟩
    · rw [same p (by omega)]; exact hr.hole p h1
    · cases h1
  · by_cases e : p = T.length
    · subst e; rw [self] at hl; injection hl with hl; subst hl; subst hl0; simp at h0
    · rw [same p e] at hl; exact hr.blk p l hl h0
  · rcases getT p _ ho with ⟨hp, h1⟩ | ⟨hp, h1⟩
    · rcases getT q _ ho' with ⟨hq, h2⟩ | ⟨hq, h2⟩
      · rw [same p (by omega)] at hl; rw [same q (by omega)] at hl'
        exact hr.sep p q o o' l l' h1 h2 hw hne hl hl' h0 h0'
      · subst hq; rw [self] at hl'; injection hl' with hl'; subst hl'; subst hl0; simp at h0'
    · subst hp; rw [self] at hl; injection hl with hl; subst hl; subst hl0; simp at h0
  · obtain ⟨h1, h2⟩ := hr.glob b d hb
    exact ⟨fun h3 => h1 (hown b h3), h2⟩
  · rcases getT p _ ho with ⟨hp, h1⟩ | ⟨hp, h1⟩
    · rw [same p (by omega)] at hl
      exact (hr.fam p o l h1 hl).sub hown
    · injection h1 with h1; subst h1
      exact FamOk.no rfl

/-- a result that is nothing, told as a slice of an empty object -/
theorem small_nil {P : Program} {gl : Nat → Option AVal} {f : FuncId} {args : List AVal} {T0 T1 : Tab} {v v' : AVal} (kk : IntKind) (et : TypeId) (h : Small P gl f args T0 v T1) (hk : T0.length ≤ T1.length)
    (hv : ∀ (ν : Nu) (x : Value) (l : Loc), ν T1.length = some l → l.g = 0 → l.room = 0 → (∀ u y, VR ν u y → True) → VR ν v x → VR ν v' x) : Small P gl f args T0 v' (T1 ++ [some ⟨.ints kk [], 0, true, et⟩]) := by
  intro ν w vs hr hvs
  refine (h ν w vs hr hvs).mono ?_
  rintro e w' ⟨x, ν', rfl, h1, h2, h3, h4⟩
  obtain ⟨l0, g1, g2, g3, g4, g5⟩ := h2.pushEmpty kk et
  refine ⟨x, upd ν' T1.length l0, rfl, hv _ x l0 (upd_same _ _ _) g1 g2 (fun _ _ _ => trivial) (h1.mono g4), g3, h3.trans (g4.b _), h4.sub g5⟩

theorem VR.nil_slice {ν : Nu} {x : Value} {q : Nat} {l : Loc} {sz : Nat} {cap : Option Nat} (hl : ν q = some l) (hg : l.g = 0) (hr : l.room = 0) (hc : cap = some 0 ∨ cap = none) (h : VR ν .nilSlice x) : VR ν (.slice sz q 0 0 0 cap) x := by
  cases h
  exact .sliceZ none hl hg.symm (hc.imp id fun h => ⟨h, by rw [hr]; exact Nat.le_refl _⟩)

/-- two results, the first one nothing -/
theorem small_nil2 {P : Program} {gl : Nat → Option AVal} {f : FuncId} {args : List AVal} {T0 T1 : Tab} {u : AVal} (kk : IntKind) (et : TypeId) {sz : Nat} {cap : Option Nat} (hc : cap = some 0 ∨ cap = none) (h : Small P gl f args T0 (.tuple [.nilSlice, u]) T1) (hk : T0.length ≤ T1.length) :
    Small P gl f args T0 (.tuple [.slice sz T1.length 0 0 0 cap, u]) (T1 ++ [some ⟨.ints kk [], 0, true, et⟩]) := by
  refine small_nil kk et h hk fun ν x l h1 h2 h3 _ hx => ?_
  cases hx with
  | tuple e1 e2 =>
    refine .tuple e1 fun i hi => ?_
    match i, hi with
    | 0, _ => exact VR.nil_slice h1 h2 h3 hc (e2 0 (by simp))
    | 1, _ => exact e2 1 (by simp)
    | i + 2, hi => simp at hi; omega
end Go.Abs

set_option linter.unusedVariables false
set_option linter.unusedSimpArgs false
namespace Go.Abs
/-! ## Only some objects are kept, and they move together -/
def sigG : List Nat → Nat → Nat
  | [], _ => 0
  | p :: r, i => match Nat.beq p i with | true => 0 | false => sigG r i + 1
def hasG : List Nat → Nat → Bool
  | [], _ => false
  | p :: r, i => Nat.beq p i || hasG r i
def nodupG : List Nat → Bool
  | [] => true
  | p :: r => !hasG r p && nodupG r
def startsG : Nat → Nat → List Nat → Bool
  | _, 0, _ => true
  | i, k + 1, p :: r => Nat.beq p i && startsG (i + 1) k r
  | _, _ + 1, [] => false
def getG (T : Tab) (p : Nat) : Option AObj := match T[p]? with | some (some o) => some o | _ => none
def gcL (keep : List Nat) (T : Tab) : List Nat → Tab
  | [] => []
  | p :: r => (match getG T p with | some o => some (renO (sigG keep) o) | none => none) :: gcL keep T r
def gcT (keep : List Nat) (T : Tab) : Tab := gcL keep T keep
def inG (keep : List Nat) (T : Tab) : List Nat → Bool
  | [] => true
  | p :: r => (match getG T p with | some o => idsIn (hasG keep) o.data | none => true) && inG keep T r
def okG (k : Nat) (keep : List Nat) (T : Tab) : Bool := nodupG keep && (startsG 0 k keep && inG keep T keep)
def pickG (keep : List Nat) (fm : Fm) : List Nat → Option Fm
  | [] => some []
  | t :: r => match look fm t, pickG keep fm r with
    | some v, some f => match idsIn (hasG keep) v with
      | true => some ((t, ren (sigG keep) v) :: f)
      | false => none
    | _, _ => none
theorem hasG_get : ∀ {l : List Nat} {i : Nat}, hasG l i = true → l[sigG l i]? = some i
  | p :: r, i, h => by
    simp only [hasG, Bool.or_eq_true] at h
    simp only [sigG]
    cases hp : Nat.beq p i with
    | true => have := Nat.eq_of_beq_eq_true hp; subst this; rfl
    | false => simp only [hp, Bool.false_eq_true, false_or] at h; simpa using hasG_get h
theorem hasG_mem : ∀ {l : List Nat} {j p : Nat}, l[j]? = some p → hasG l p = true
  | q :: r, 0, p, h => by simp at h; subst h; simp [hasG]
  | q :: r, j + 1, p, h => by simp only [hasG, Bool.or_eq_true]; exact .inr (hasG_mem (by simpa using h))
theorem nodupG_ok : ∀ {l : List Nat}, nodupG l = true → ∀ (i j p : Nat), l[i]? = some p → l[j]? = some p → i = j
  | q :: r, h, 0, 0, p, _, _ => rfl
  | q :: r, h, 0, j + 1, p, hi, hj => by
    simp at hi; subst hi
    have := hasG_mem (l := r) (j := j) (by simpa using hj)
    simp [nodupG, this] at h
  | q :: r, h, i + 1, 0, p, hi, hj => by
    simp at hj; subst hj
    have := hasG_mem (l := r) (j := i) (by simpa using hi)
    simp [nodupG, this] at h
  | q :: r, h, i + 1, j + 1, p, hi, hj => by
    simp only [nodupG, Bool.and_eq_true] at h
    rw [nodupG_ok h.2 i j p (by simpa using hi) (by simpa using hj)]
theorem startsG_ok : ∀ {k i : Nat} {l : List Nat}, startsG i k l = true → ∀ j, j < k → l[j]? = some (i + j)
  | k + 1, i, p :: r, h, 0, _ => by simp only [startsG, Bool.and_eq_true] at h; rw [Nat.eq_of_beq_eq_true h.1]; rfl
  | k + 1, i, p :: r, h, j + 1, hj => by
    simp only [startsG, Bool.and_eq_true] at h
    rw [List.getElem?_cons_succ, startsG_ok h.2 j (by omega)]
    congr 1; omega
theorem gcL_get (keep : List Nat) (T : Tab) : ∀ (l : List Nat) (j : Nat), (gcL keep T l)[j]? = (l[j]?).map fun p => match getG T p with | some o => some (renO (sigG keep) o) | none => none
  | [], j => by simp [gcL]
  | p :: r, 0 => rfl
  | p :: r, j + 1 => by simpa [gcL] using gcL_get keep T r j
theorem gcL_len (keep : List Nat) (T : Tab) : ∀ (l : List Nat), (gcL keep T l).length = l.length
  | [] => rfl
  | p :: r => by simp [gcL, gcL_len keep T r]
theorem inG_ok {keep : List Nat} {T : Tab} : ∀ {l : List Nat}, inG keep T l = true → ∀ (j p : Nat) (o : AObj), l[j]? = some p → getG T p = some o → idsIn (hasG keep) o.data = true
  | q :: r, h, 0, p, o, hp, ho => by simp at hp; subst hp; simp only [inG, ho, Bool.and_eq_true] at h; exact h.1
  | q :: r, h, j + 1, p, o, hp, ho => by simp only [inG, Bool.and_eq_true] at h; exact inG_ok h.2 j p o (by simpa using hp) ho
theorem getG_some {T : Tab} {p : Nat} {o : AObj} (h : getG T p = some o) : T[p]? = some (some o) := by
  unfold getG at h; split at h
  · rename_i o' h'; injection h with h; subst h; exact h'
  · cases h
theorem pickG_ok {keep : List Nat} {fm : Fm} : ∀ {l : List Nat} {f : Fm}, pickG keep fm l = some f → ∀ t v, look f t = some v → ∃ u, look fm t = some u ∧ idsIn (hasG keep) u = true ∧ v = ren (sigG keep) u
  | [], f, h, t, v, hl => by simp [pickG] at h; subst h; simp [look] at hl
  | s :: r, f, h, t, v, hl => by
    simp only [pickG] at h
    split at h
    · rename_i u f' h1 h2
      split at h
      · rename_i h3
        injection h with h; subst h
        simp only [look] at hl
        split at hl
        · rename_i he
          have := Nat.eq_of_beq_eq_true he; subst this
          injection hl with hl; subst hl
          exact ⟨u, h1, h3, rfl⟩
        · exact pickG_ok h2 t v hl
      · cases h
    · cases h
def nuG (keep : List Nat) (ν : Nu) : Nu := fun j => match keep[j]? with | some p => ν p | none => none
theorem nuG_some {keep : List Nat} {ν : Nu} {j : Nat} {l : Loc} (h : nuG keep ν j = some l) : ∃ p, keep[j]? = some p ∧ ν p = some l := by
  unfold nuG at h; split at h
  · rename_i p hp; exact ⟨p, hp, h⟩
  · cases h
theorem nuG_key {keep : List Nat} {ν : Nu} : ∀ i l, hasG keep i = true → ν i = some l → nuG keep ν (sigG keep i) = some l := fun i l hi hl => by
  unfold nuG; rw [hasG_get hi]; exact hl
theorem gcT_some {keep : List Nat} {T : Tab} {j : Nat} {o' : AObj} (h : (gcT keep T)[j]? = some (some o')) : ∃ p o, keep[j]? = some p ∧ T[p]? = some (some o) ∧ o' = renO (sigG keep) o := by
  unfold gcT at h
  rw [gcL_get] at h
  cases hk : keep[j]? with
  | none => rw [hk] at h; cases h
  | some p =>
    rw [hk] at h
    simp only [Option.map_some] at h
    cases hg : getG T p with
    | none => rw [hg] at h; cases h
    | some o => rw [hg] at h; injection h with h; injection h with h; exact ⟨p, o, rfl, getG_some hg, h.symm⟩
theorem getG_of {T : Tab} {p : Nat} {o : AObj} (h : T[p]? = some (some o)) : getG T p = some o := by unfold getG; rw [h]
theorem Own.gc {keep : List Nat} {ν : Nu} {T : Tab} {b : Nat} (h : Own (nuG keep ν) (gcT keep T) b) : Own ν T b := by
  obtain ⟨j, o', l, h1, h2, h3, h4⟩ := h
  obtain ⟨p, o, e1, e2, rfl⟩ := gcT_some h1
  obtain ⟨p', e3, e4⟩ := nuG_some h3
  rw [e1] at e3; injection e3 with e3; subst e3
  exact ⟨p, o, l, e2, h2, e4, h4⟩
theorem HR.gc {gl : Nat → Option AVal} {ν : Nu} {T : Tab} {w : World} {k : Nat} {keep : List Nat} (h : HR gl ν T w) (hk : okG k keep T = true) : HR gl (nuG keep ν) (gcT keep T) w := by
  simp only [okG, Bool.and_eq_true] at hk
  obtain ⟨h1, h2, h3⟩ := hk
  refine ⟨fun j o' l ho hl => ?_, fun j l hl => ?_, fun j hj => ?_, fun j l hl h0 => ?_, fun i j o o' l l' ho ho' hw hne hl hl' => ?_, fun b d hb => ?_, fun j o' l ho hl => ?_⟩
  · obtain ⟨p, o, e1, e2, rfl⟩ := gcT_some ho
    obtain ⟨p', e3, e4⟩ := nuG_some hl
    rw [e1] at e3; injection e3 with e3; subst e3
    obtain ⟨g1, g2⟩ := h.obj p o l e2 e4
    exact ⟨g1, g2.ren nuG_key (inG_ok h3 j p o e1 (getG_of e2))⟩
  · obtain ⟨p, e1, _⟩ := nuG_some hl
    unfold gcT; rw [gcL_len]; exact (List.getElem?_eq_some_iff.1 e1).1
  · unfold gcT at hj
    rw [gcL_get] at hj
    unfold nuG
    cases hk : keep[j]? with
    | none => rfl
    | some p =>
      simp only [hk, Option.map_some] at hj
      cases hν : ν p with
      | none => simp only [hν]
      | some l =>
        exfalso
        have hlt := h.lt p l hν
        have e : T[p]? = some T[p] := List.getElem?_eq_getElem hlt
        cases hT : T[p] with
        | none => rw [hT] at e; rw [h.hole p e] at hν; cases hν
        | some o => rw [hT] at e; rw [getG_of e] at hj; injection hj with hj; cases hj
  · obtain ⟨p, _, e⟩ := nuG_some hl
    exact h.blk p l e h0
  · obtain ⟨p, a, e1, e2, rfl⟩ := gcT_some ho
    obtain ⟨q, b, f1, f2, rfl⟩ := gcT_some ho'
    obtain ⟨p', e3, e4⟩ := nuG_some hl
    rw [e1] at e3; injection e3 with e3; subst e3
    obtain ⟨q', f3, f4⟩ := nuG_some hl'
    rw [f1] at f3; injection f3 with f3; subst f3
    exact h.sep p q a b l l' e2 f2 hw (fun e => hne (by subst e; exact nodupG_ok h1 i j p e1 f1)) e4 f4
  · obtain ⟨g1, g2⟩ := h.glob b d hb
    exact ⟨fun g => g1 g.gc, g2⟩
  · obtain ⟨p, o, e1, e2, rfl⟩ := gcT_some ho
    obtain ⟨p', e3, e4⟩ := nuG_some hl
    rw [e1] at e3; injection e3 with e3; subst e3
    exact ((h.fam p o l e2 e4).sub fun b hb => hb.gc).ren
theorem NuLeB.gc {keep : List Nat} {ν ν' : Nu} {T : Tab} {k : Nat} (h : NuLeB k ν ν') (hk : okG k keep T = true) : NuLeB k ν (nuG keep ν') := fun p hp l hl => by
  simp only [okG, Bool.and_eq_true] at hk
  obtain ⟨l', h1, h2⟩ := h p hp l hl
  have e := startsG_ok hk.2.1 p hp
  rw [Nat.zero_add] at e
  exact ⟨l', by unfold nuG; rw [e]; exact h1, h2⟩
theorem SRel.gc {E : Env} {D : List Deferred} {ν : Nu} {fm f : Fm} {T : Tab} {n k : Nat} {a : Act} {w : World} {keep : List Nat} {slots : List Nat} (h : SRel E D ν fm T n a w) (hk : okG k keep T = true) (hf : pickG keep fm slots = some f) : SRel E D (nuG keep ν) f (gcT keep T) n a w := by
  refine ⟨h.hr.gc hk, fun t v hv => ?_, h.size, h.defers⟩
  obtain ⟨u, h1, h2, rfl⟩ := pickG_ok hf t v hv
  exact (h.fm t u h1).ren nuG_key h2
/-- the outcome, with only some objects, moved together -/
def trimG (k : Nat) (keep : List Nat) (slots : List Nat) (o : Out) : Out :=
  match o with
  | ⟨cs, ex, fm, T, ds⟩ => match pickG keep fm slots, okG k keep T with
    | some f, true => ⟨cs, ex, f, gcT keep T, ds⟩
    | _, _ => failO
theorem AWp.trimG {E : Env} {n k : Nat} {keep : List Nat} {c : Code} {fm : Fm} {T : Tab} {o : Out} {slots : List Nat} (hc : allP (trimG k keep slots o).cs) (h : allP o.cs → AWp E n k c fm T (Is o)) : AWp E n k c fm T (Is (trimG k keep slots o)) := by
  obtain ⟨cs, ex, fm1, T1, ds⟩ := o
  unfold Abs.trimG at hc ⊢
  simp only at hc ⊢
  cases hp : pickG keep fm1 slots with
  | none => simp only [hp] at hc; exact absurd hc failO_no
  | some f =>
    cases hb : okG k keep T1 with
    | false => simp only [hp, hb] at hc; exact absurd hc failO_no
    | true =>
      simp only [hp, hb] at hc ⊢
      intro rr D ν a w hs hrd
      refine wpIn_mono (h hc rr D ν a w hs hrd) fun e a' w' ⟨ex', fm', T', ν', e1, ⟨e2, e3, e4⟩, ⟨ms, s', mk⟩, n', f'⟩ => ?_
      simp only at e2 e3 e4
      subst e2 e3 e4
      exact ⟨ex', f, gcT keep T', nuG keep ν', e1, ⟨rfl, rfl, rfl⟩, ⟨ms, s'.gc hb hp, mk⟩, n'.gc hb, f'.sub fun b hb => hb.gc⟩
theorem To.ofG {E : Env} (hE : EnvOk E) (hm : E.P.follows .mixedOrders = true) {n k : Nat} {keep : List Nat} {orc : Orc} (hk : k ≤ orc.kb) {c : Code} (hO : OrcOk E n orc c) {f : Nat} {fm : Fm} {T : Tab} {ds : List (Option Bool)} {slots : List Nat} {o : Out}
    (ho : trimG k keep slots (run E n orc f c fm T ds) = o) (h : Ok o) {ex : AExit} {fm' : Fm} {T' : Tab} (e1 : o.ex = ex) (e2 : o.fm = fm') (e3 : o.tab = T') : To E n k c fm T ex fm' T' := by
  subst e1 e2 e3 ho
  exact AWp.trimG h.h fun h => (run_sound hE hm hk hO f (fun _ _ h => h) h).1
/-- a function's outcome, with only some objects, moved together -/
theorem small_gc {fin : Value → Ending} {P : Program} {gl : Nat → Option AVal} {f : FuncId} {args : List AVal} {T0 T1 : Tab} {v : AVal} (keep : List Nat) (h : SmallE fin P gl f args T0 v T1) {v' : AVal} {T' : Tab} (hk : okG T0.length keep T1 = true) (hv : idsIn (hasG keep) v = true) (e1 : ren (sigG keep) v = v') (e2 : gcT keep T1 = T') :
    SmallE fin P gl f args T0 v' T' := by
  subst e1 e2
  intro ν w vs hr hvs
  refine (h ν w vs hr hvs).mono ?_
  rintro e w' ⟨x, ν', rfl, h1, h2, h3, h4⟩
  exact ⟨x, nuG keep ν', rfl, h1.ren nuG_key hv, h2.gc hk, h3.gc hk, h4.sub fun b hb => hb.gc⟩
/-- a function's run, with only some objects, moved together -/
def resG (k : Nat) (keep : List Nat) (r : Res) : Res :=
  match r with
  | ⟨cs, v, T⟩ => match idsIn (hasG keep) v && okG k keep T with
    | true => ⟨cs, ren (sigG keep) v, gcT keep T⟩
    | false => fail
theorem small_ofG {E : Env} (hE : EnvOk E) (hm : E.P.follows .mixedOrders = true) {f : FuncId} {fn : Func} (hf : E.P.funcs[f]? = some fn) (hb : fn.body.isSome = true) {orc : OrcL} (hO : FnOrc E fn orc) {fuel : Nat} {args : List AVal} {T : Tab} {ds : List (Option Bool)} {R : Res} {keep : List Nat}
    (hR : resG T.length keep (runF E fn orc fuel args T ds) = R) (h : OkR R) {v : AVal} {T1 : Tab} (hv : R.val = v) (ht : R.tab = T1) : Small E.P E.gl f args T v T1 := by
  subst hv ht hR
  have hS := runF_small hE hm hf hb orc hO fuel (args := args) (T := T) ds
  generalize runF E fn orc fuel args T ds = r at h hS ⊢
  obtain ⟨cs, v, T1⟩ := r
  obtain ⟨h⟩ := h
  unfold resG at h ⊢
  simp only at h ⊢
  cases hb : idsIn (hasG keep) v && okG T.length keep T1 with
  | false => simp only [hb] at h; exact absurd h nofail
  | true =>
    simp only [hb] at h ⊢
    simp only [Bool.and_eq_true] at hb
    exact small_gc keep (hS h) hb.2 hb.1 rfl rfl
attribute [irreducible] resG trimG
end Go.Abs

set_option linter.unusedVariables false
set_option linter.unusedSimpArgs false
namespace Go.Abs
open Go.RowKit Go.WideShapes Go.ChangeShapes Go.ChangeAt
/-! ## Rows whose laws read tables of the program -/
section
variable {P : Program}
end
end Go.Abs

set_option linter.unusedVariables false
namespace Go.Abs
/-! ## What stands in a table or a list of values, taken out -/
def vAt : List AVal → Nat → AVal
  | [], _ => un
  | v :: _, 0 => v
  | _ :: r, i + 1 => vAt r i
def dAt (T : Tab) (p : Nat) : AVal := match nth T p with | some o => o.data | none => un
def gAt (T : Tab) (p : Nat) : Nat := match nth T p with | some o => o.g | none => 0
def owAt (T : Tab) (p : Nat) : Bool := match nth T p with | some o => o.own | none => false
def xsOf : AVal → List Int | .ints _ xs => xs | _ => []
def vsOf : AVal → List AVal | .agg vs => vs | _ => []
def iOf : AVal → Int | .int _ n => n | _ => 0
def offOf : AVal → Nat | .slice _ _ _ off _ _ => off | .ptr _ _ off => off | _ => 0
def lenOf : AVal → Nat | .slice _ _ _ _ len _ => len | _ => 0
def capOf : AVal → Option Nat | .slice _ _ _ _ _ cap => cap | _ => none
def xsAt (T : Tab) (p : Nat) : List Int := xsOf (dAt T p)
def cAt (T : Tab) (p i : Nat) : AVal := vAt (vsOf (dAt T p)) i
end Go.Abs
namespace Go.Abs
/-- flags, out of a number's bits -/
def bitsF : Nat → Nat → List Bool
  | 0, _ => []
  | k + 1, n => Nat.beq (n % 2) 1 :: bitsF k (n / 2)
end Go.Abs

set_option linter.unusedVariables false
set_option linter.unusedSimpArgs false
namespace Go.Abs
end Go.Abs

set_option linter.unusedVariables false
set_option linter.unusedSimpArgs false
namespace Go.Abs
/-! ## Range over a function: code that runs beside the loops' records -/
/-- what a record is of: its loop, as text, and what is known of the temporaries at its entry -/
structure Host where
  ps : Array Tmp
  assign : Code
  body : Code
  fm : Fm
  n : Nat
abbrev St := LoopState × Option Code
abbrev Amb := List (Nat × Host)

theorem VR.monoB {k : Nat} {ν ν' : Nu} {v : AVal} {x : Value} (hm : NuLeB k ν ν') (hv : idsIn (fun i => Nat.blt i k) v = true) (h : VR ν v x) : VR ν' v x := by
  let ν2 : Nu := fun p => if p < k then ν' p else ν p
  have h1 : NuLe ν ν2 := fun p l hl => by
    by_cases hp : p < k
    · obtain ⟨l', g1, g2⟩ := hm p hp l hl
      exact ⟨l', by simp only [ν2, if_pos hp]; exact g1, g2⟩
    · exact ⟨l, by simp only [ν2, if_neg hp]; exact hl, .inr ⟨rfl, rfl, rfl, rfl⟩⟩
  have h2 := (h.mono h1).ren (ν' := ν') (r := fun i => i) (live := fun i => Nat.blt i k) (fun i l hi hl => by
    have hp : i < k := by simpa using hi
    simpa only [ν2, if_pos hp] using hl) hv
  rwa [ren_id] at h2
def fmIn (k : Nat) (fm : Fm) : Prop := ∀ t v, look fm t = some v → idsIn (fun i => Nat.blt i k) v = true
def ambIn (k : Nat) (A : Amb) : Prop := ∀ x ∈ A, fmIn k x.2.fm
def RecOk (ν : Nu) (l : Nat) (H : Host) (st : St) (w : World) : Prop :=
  ∃ rc : Loop, w.heap[l]? = some (.loop rc) ∧ rc.state = st.1 ∧ rc.pending = st.2 ∧ rc.params = H.ps ∧ rc.assign = H.assign ∧ rc.body = H.body ∧ H.n ≤ rc.tmps.size ∧ ∀ t v, look H.fm t = some v → VR ν v (rc.tmps.getD t undef)
def RecsOk (ν : Nu) : Amb → List St → World → Prop
  | [], [], _ => True
  | (l, H) :: A, st :: σ, w => RecOk ν l H st w ∧ RecsOk ν A σ w ∧ ∀ x ∈ A, x.1 ≠ l
  | _, _, _ => False
theorem RecOk.keep {k : Nat} {ν ν' : Nu} {l : Nat} {H : Host} {st : St} {w w' : World} (h : RecOk ν l H st w) (hin : fmIn k H.fm) (hm : NuLeB k ν ν') (hw : w'.heap[l]? = w.heap[l]?) : RecOk ν' l H st w' := by
  obtain ⟨rc, h1, h2, h3, h4, h5, h6, h7, h8⟩ := h
  exact ⟨rc, by rw [hw]; exact h1, h2, h3, h4, h5, h6, h7, fun t v hl => (h8 t v hl).monoB hm (hin t v hl)⟩
theorem RecsOk.keep {k : Nat} {ν ν' : Nu} {w w' : World} (hm : NuLeB k ν ν') : ∀ {A : Amb} {σ : List St}, RecsOk ν A σ w → ambIn k A → (∀ x ∈ A, w'.heap[x.1]? = w.heap[x.1]?) → RecsOk ν' A σ w'
  | [], [], _, _, _ => trivial
  | [], _ :: _, h, _, _ => h.elim
  | _ :: _, [], h, _, _ => h.elim
  | (l, H) :: A, st :: σ, ⟨h1, h2, h3⟩, hin, hw => ⟨h1.keep (hin _ (.head _)) hm (hw _ (.head _)), RecsOk.keep hm h2 (fun x hx => hin x (.tail _ hx)) (fun x hx => hw x (.tail _ hx)), h3⟩
theorem RecsOk.loop {ν : Nu} {w : World} : ∀ {A : Amb} {σ : List St}, RecsOk ν A σ w → ∀ x ∈ A, ∃ rc, w.heap[x.1]? = some (.loop rc)
  | (l, H) :: A, st :: σ, ⟨h1, h2, h3⟩, x, hx => by
    rcases List.mem_cons.1 hx with rfl | hx
    · obtain ⟨rc, h, _⟩ := h1; exact ⟨rc, h⟩
    · exact RecsOk.loop h2 x hx
/-- the blocks that may change -/
def OwnA (A : Amb) (ν : Nu) (T : Tab) (b : Nat) : Prop := Own ν T b ∨ ∃ x ∈ A, x.1 = b
theorem size_of {w : World} {b : Nat} {o : Obj} (h : w.heap[b]? = some o) : b < w.heap.size := by
  rcases Nat.lt_or_ge b w.heap.size with h' | h'
  · exact h'
  · rw [Array.getElem?_eq_none h'] at h; cases h
theorem Fr.amb {A : Amb} {ν ν' : Nu} {T T' : Tab} {w w' : World} (h : Fr (Own ν T) w (Own ν' T') w') : Fr (OwnA A ν T) w (OwnA A ν' T') w' :=
  ⟨h.os, h.tape, h.output, h.size, fun b hb hO => h.block b hb (fun h => hO (.inl h)), fun b hb => by
    rcases hb with hb | hb
    · exact (h.own b hb).imp .inl id
    · exact .inl (.inr hb)⟩
/-- a block that is neither cells nor a record stays -/
theorem Fr.other {gl : Nat → Option AVal} {A : Amb} {σ : List St} {ν : Nu} {T : Tab} {O : Nat → Prop} {w w' : World} (hf : Fr (OwnA A ν T) w O w') (hr : HR gl ν T w) (hA : RecsOk ν A σ w) {b : Nat} {o : Obj} (ho : w.heap[b]? = some o) (h1 : ∀ c t z, o ≠ .cells c t z) (h2 : ∀ r, o ≠ .loop r) : w'.heap[b]? = some o := by
  rw [hf.block b (size_of ho) (fun h => ?_)]
  · exact ho
  · rcases h with h | ⟨x, hx, rfl⟩
    · exact hr.notOwn ho h1 h
    · obtain ⟨rc, hrc⟩ := hA.loop x hx
      rw [hrc] at ho; injection ho with ho; exact h2 rc ho.symm
theorem RdOk.amb {rr : Option Nat} {gl : Nat → Option AVal} {A : Amb} {σ σ' : List St} {ν ν' : Nu} {T : Tab} {O : Nat → Prop} {w w' : World} (h : RdOk rr w) (hr : HR gl ν T w) (hA : RecsOk ν A σ w) (hA' : RecsOk ν' A σ' w') (hf : Fr (OwnA A ν T) w O w') : RdOk rr w' := fun l hl => by
  obtain ⟨r, h1⟩ := h l hl
  by_cases hx : ∃ x ∈ A, x.1 = l
  · obtain ⟨x, hx, rfl⟩ := hx
    exact hA'.loop x hx
  · refine ⟨r, ?_⟩
    rw [hf.block l (size_of h1) (fun h => ?_)]
    · exact h1
    · rcases h with h | h
      · exact hr.notOwn h1 (fun _ _ _ h => by cases h) h
      · exact hx h
theorem MarksOk.trans2 {ms ms2 : List Deferred} {w w1 w2 : World} (h : MarksOk ms w w1) (h2 : MarksOk ms2 w1 w2) (hs : w.heap.size ≤ w1.heap.size) (hk : ∀ (b : Nat) x, w1.heap[b]? = some (.deferred x) → w2.heap[b]? = some (.deferred x)) : MarksOk (ms2 ++ ms) w w2 := by
  have lt : ∀ d ∈ ms, ∃ r, d = { target := .collected r, args := #[] } ∧ w.heap.size ≤ r ∧ r < w1.heap.size ∧ w2.heap[r]? = some (.deferred (some [])) := fun d hd => by
    obtain ⟨r, e, g1, g2⟩ := h.1 d hd
    exact ⟨r, e, g1, size_of g2, hk _ _ g2⟩
  refine ⟨fun d hd => ?_, List.nodup_append.2 ⟨h2.2, h.2, fun a ha b hb e => ?_⟩⟩
  · rcases List.mem_append.1 hd with hd | hd
    · obtain ⟨r, e, g1, g2⟩ := h2.1 d hd
      exact ⟨r, e, by omega, g2⟩
    · obtain ⟨r, e, g1, _, g2⟩ := lt d hd
      exact ⟨r, e, g1, g2⟩
  · obtain ⟨r, e1, g1, _⟩ := h2.1 a ha
    obtain ⟨r', e2, _, g2, _⟩ := lt b hb
    rw [e, e2] at e1
    injection e1 with e1; injection e1 with e1
    omega

def AExit.calm : AExit → Bool
  | .panic _ _ _ => false
  | _ => true
def YPost (E : Env) (n k : Nat) (A : Amb) (post : AExit → Fm → Tab → List St → Prop) (D : List Deferred) (ν : Nu) (T : Tab) (w : World) (e : Exit) (a' : Act) (w' : World) : Prop :=
  ∃ ex fm' T' σ' ν', (e = AExit.to ex ∧ ex.calm = true) ∧ post ex fm' T' σ' ∧ SRelM E D w ν' fm' T' n a' w' ∧ RecsOk ν' A σ' w' ∧ NuLeB k ν ν' ∧ Fr (OwnA A ν T) w (OwnA A ν' T') w'
/-- code that runs beside records -/
def YWp (E : Env) (n k : Nat) (A : Amb) (c : Code) (fm : Fm) (T : Tab) (σ : List St) (post : AExit → Fm → Tab → List St → Prop) : Prop :=
  ∀ (rr : Option Nat) D ν a w, SRel E D ν fm T n a w → RdOk rr w → RecsOk ν A σ w → c.wpIn (Fc rr) 0 E.P (YPost E n k A post D ν T w) a w

section
variable {E : Env} {n k : Nat} {A : Amb} {fm : Fm} {T : Tab} {σ : List St} {post : AExit → Fm → Tab → List St → Prop}
theorem YWp.mono {c : Code} {post' : AExit → Fm → Tab → List St → Prop} (h : YWp E n k A c fm T σ post) (hp : ∀ ex fm T σ, post ex fm T σ → post' ex fm T σ) : YWp E n k A c fm T σ post' :=
  fun rr D ν a w hs hrd hA => wpIn_mono (h rr D ν a w hs hrd hA) fun e a' w' ⟨ex, fm', T', σ', ν', h1, h2, h3⟩ => ⟨ex, fm', T', σ', ν', h1, hp _ _ _ _ h2, h3⟩
/-- code that knows nothing of records -/
theorem YWp.lift {c : Code} (hin : ambIn k A) (h : AWp E n k c fm T fun ex fm' T' => ex.calm = true ∧ post ex fm' T' σ) : YWp E n k A c fm T σ post := by
  intro rr D ν a w hs hrd hA
  refine wpIn_mono (h rr D ν a w hs hrd) fun e a' w' ⟨ex, fm', T', ν', h1, ⟨h0, h2⟩, h3, h4, h5⟩ => ⟨ex, fm', T', σ, ν', ⟨h1, h0⟩, h2, h3, hA.keep h4 hin fun x hx => ?_, h4, h5.amb⟩
  obtain ⟨rc, hrc⟩ := hA.loop x hx
  exact h5.block _ (size_of hrc) (hs.hr.notOwn hrc (fun _ _ _ h => by cases h))
theorem YPost.trans {D ms : List Deferred} {ν ν1 : Nu} {w w1 : World} {T1 : Tab} {fm1 : Fm} {a1 : Act} {σ1 : List St} {e : Exit} {a' : Act} {w' : World} (h : YPost E n k A post (ms ++ D) ν1 T1 w1 e a' w') (s1 : SRel E (ms ++ D) ν1 fm1 T1 n a1 w1) (m1 : MarksOk ms w w1) (A1 : RecsOk ν1 A σ1 w1) (hm : NuLeB k ν ν1) (hf : Fr (OwnA A ν T) w (OwnA A ν1 T1) w1) : YPost E n k A post D ν T w e a' w' := by
  obtain ⟨ex, fm', T', σ', ν', h1, h2, ⟨ms2, h3, m2⟩, h6, h4, h5⟩ := h
  exact ⟨ex, fm', T', σ', ν', h1, h2, ⟨ms2 ++ ms, by rw [List.append_assoc]; exact h3, m1.trans2 m2 hf.size fun b x hb => h5.other s1.hr A1 hb (fun _ _ _ h => by cases h) (fun _ h => by cases h)⟩, h6, hm.trans h4, hf.trans h5⟩
theorem YWp.seq {x y : Code} (h : YWp E n k A x fm T σ fun ex fm' T' σ' => match ex with | .normal => YWp E n k A y fm' T' σ' post | ex => post ex fm' T' σ') : YWp E n k A (.seq x y) fm T σ post := by
  intro rr D ν a w hs hrd hA
  refine wpIn_seq (wpIn_mono (h rr D ν a w hs hrd hA) fun e a' w' ⟨ex, fm', T', σ', ν', h1, h2, h3, h6, h4, h5⟩ => ?_)
  obtain ⟨rfl, hcalm⟩ := h1
  cases ex with
  | normal =>
    obtain ⟨ms, h3, hm⟩ := h3
    exact wpIn_mono (h2 rr _ ν' a' w' h3 (hrd.amb hs.hr hA h6 h5) h6) fun e a2 w2 hp => hp.trans h3 hm h6 h4 h5
  | exit id => exact ⟨.exit id, fm', T', σ', ν', ⟨rfl, rfl⟩, h2, h3, h6, h4, h5⟩
  | goto l => exact ⟨.goto l, fm', T', σ', ν', ⟨rfl, rfl⟩, h2, h3, h6, h4, h5⟩
  | ret => exact ⟨.ret, fm', T', σ', ν', ⟨rfl, rfl⟩, h2, h3, h6, h4, h5⟩
  | panic t0 k0 n0 => cases hcalm
theorem YWp.block {id : Nat} {c : Code} (h : YWp E n k A c fm T σ fun ex fm' T' σ' => match ex with | .exit id' => if id' = id then post .normal fm' T' σ' else post (.exit id') fm' T' σ' | ex => post ex fm' T' σ') : YWp E n k A (.block id c) fm T σ post := by
  intro rr D ν a w hs hrd hA
  refine wpIn_block (wpIn_mono (h rr D ν a w hs hrd hA) fun e a' w' ⟨ex, fm', T', σ', ν', h1, h2, h3, h6, h4, h5⟩ => ?_)
  obtain ⟨rfl, hcalm⟩ := h1
  cases ex with
  | normal => exact ⟨.normal, fm', T', σ', ν', ⟨rfl, rfl⟩, h2, h3, h6, h4, h5⟩
  | exit id' =>
    simp only [AExit.to, Exit.inBlock]
    simp only at h2
    split
    · rename_i e
      rw [if_pos e] at h2
      exact ⟨.normal, fm', T', σ', ν', ⟨rfl, rfl⟩, h2, h3, h6, h4, h5⟩
    · rename_i e
      rw [if_neg e] at h2
      exact ⟨.exit id', fm', T', σ', ν', ⟨rfl, rfl⟩, h2, h3, h6, h4, h5⟩
  | goto l => exact ⟨.goto l, fm', T', σ', ν', ⟨rfl, rfl⟩, h2, h3, h6, h4, h5⟩
  | ret => exact ⟨.ret, fm', T', σ', ν', ⟨rfl, rfl⟩, h2, h3, h6, h4, h5⟩
  | panic t0 k0 n0 => cases hcalm
theorem YWp.cond {c : Operand} {x y : Code} {b : Bool} (hb : evOf fm c = some (.bool b)) (ht : b = true → YWp E n k A x fm T σ post) (hf : b = false → YWp E n k A y fm T σ post) : YWp E n k A (.cond c x y) fm T σ post := by
  intro rr D ν a w hs hrd hA
  have h1 := (evOf_rel hs c _ hb).bool_inv
  exact wpIn_cond_split h1 (fun e => ht e rr D ν a w hs hrd hA) (fun e => hf e rr D ν a w hs hrd hA)
theorem YWp.loop {c : Code} (I : Fm → Tab → List St → Nat → Prop) (m0 : Nat) (h0 : I fm T σ m0)
    (round : ∀ fm T σ m, I fm T σ m → YWp E n k A c fm T σ fun ex fm' T' σ' => match ex with | .normal => ∃ m', m' < m ∧ I fm' T' σ' m' | ex => post ex fm' T' σ') : YWp E n k A (.loop c) fm T σ post := by
  intro rr D ν a w hs hrd hA b kk cs hro hbb hrm
  have key : ∀ (m : Nat) (fm1 : Fm) (T1 : Tab) (σ1 : List St) (ν1 : Nu) (a1 : Act) (w1 : World) (ms : List Deferred), I fm1 T1 σ1 m → SRel E (ms ++ D) ν1 fm1 T1 n a1 w1 → MarksOk ms w w1 → RecsOk ν1 A σ1 w1 → NuLeB k ν ν1 → Fr (OwnA A ν T) w (OwnA A ν1 T1) w1 →
      ∃ e a' w', YPost E n k A post D ν T w e a' w' ∧ ArrivesIn (Machine.fenced E.P (Fc rr)) E.P (lone (b.atR a1 (.code c :: .inLoop c :: kk)) cs w1) b kk cs e a' w' := by
    intro m
    induction m using Nat.strongRecOn with
    | _ m ih =>
      intro fm1 T1 σ1 ν1 a1 w1 ms hI hs1 mk hA1 hm hf
      obtain ⟨e, a2, w2, hP, harr⟩ := round fm1 T1 σ1 m hI rr _ ν1 a1 w1 hs1 (hrd.amb hs.hr hA hA1 hf) hA1 b (.inLoop c :: kk) cs hro hbb hrm
      obtain ⟨ex, fm2, T2, σ2, ν2, h1, h2, ⟨ms2, h3, mk2⟩, h6, h4, h5⟩ := hP.trans hs1 mk hA1 hm hf
      obtain ⟨rfl, hcalm⟩ := h1
      cases ex with
      | normal =>
        obtain ⟨m', hlt, hI'⟩ := h2
        obtain ⟨e3, a3, w3, hp3, harr3⟩ := ih m' hlt fm2 T2 σ2 ν2 a2 w2 ms2 hI' h3 mk2 h6 h4 h5
        exact ⟨e3, a3, w3, hp3, .of_steps (StepsIn.trans harr (.one (fenced_calm hbb hrm rfl) stepR_inLoop)) harr3⟩
      | exit id => exact ⟨_, a2, w2, ⟨.exit id, fm2, T2, σ2, ν2, ⟨rfl, rfl⟩, h2, ⟨ms2, h3, mk2⟩, h6, h4, h5⟩, .pass (x := .inLoop c) rfl (fun _ _ => .inl (by simp [AExit.to])) harr⟩
      | goto l => exact ⟨_, a2, w2, ⟨.goto l, fm2, T2, σ2, ν2, ⟨rfl, rfl⟩, h2, ⟨ms2, h3, mk2⟩, h6, h4, h5⟩, .pass (x := .inLoop c) rfl (fun _ _ => .inl (by simp [AExit.to])) harr⟩
      | ret => exact ⟨_, a2, w2, ⟨.ret, fm2, T2, σ2, ν2, ⟨rfl, rfl⟩, h2, ⟨ms2, h3, mk2⟩, h6, h4, h5⟩, .pass (x := .inLoop c) rfl (fun _ _ => .inl (by simp [AExit.to])) harr⟩
      | panic t0 k0 n0 => cases hcalm
  obtain ⟨e, a', w', hp, harr⟩ := key m0 fm T σ ν a w [] h0 hs (MarksOk.nil _ _) hA (NuLeB.refl _ _) (Fr.refl _ _)
  exact ⟨e, a', w', hp, .of_steps (.one (fenced_calm hbb hrm rfl) stepR_loop) harr⟩
end
end Go.Abs

set_option linter.unusedVariables false
set_option linter.unusedSimpArgs false
namespace Go.Abs
theorem Oper.wpIn_mono2 {F : Fence} {n : Nat} {P : Program} {o : Oper} {a : Act} {w : World} {K K' : Act → World → Prop} {Q Q' : Exit → Act → World → Prop} (hk : ∀ a w, K a w → K' a w) (hq : ∀ ch a w, Q (.panic ch) a w → Q' (.panic ch) a w) (ho : ∀ a w, Q .outgrown a w → Q' .outgrown a w)
    (h : o.wpIn F n P a w K Q) : o.wpIn F n P a w K' Q' := by
  have hl : LetsOut Q → LetsOut Q' := fun ⟨a, w, h⟩ => ⟨a, w, ho a w h⟩
  unfold Oper.wpIn at *
  refine ⟨h.1, ?_⟩
  have h := h.2
  generalize (o.semAt F.round a.eval).run P w = r at *
  cases r with
  | ok nx w' =>
    cases nx with
    | value v => exact hk _ _ h
    | skip => exact hk _ _ h
    | defer d => exact hk _ _ h
    | enter f args =>
      refine ⟨h.1, h.2.mono fun e w2 he => ?_⟩
      cases e with
      | returned v => exact hk _ _ he
      | panicked ch => exact hq _ _ _ he
      | outgrown => exact hl he
    | row row args => exact ⟨h.1, h.2.mono fun v w2 he => hk _ _ he⟩
    | round l f tm s b =>
      refine ⟨h.1, h.2.mono fun e w2 he => ?_⟩
      cases e with
      | returned v => exact hk _ _ he
      | panicked ch => exact hq _ _ _ he
      | outgrown => exact hl he
    | _ => exact h.elim
  | halt t w' =>
    cases t with
    | panic v => exact hq _ _ _ h
    | _ => exact h.elim
/-- what follows in a list of operations -/
def thenQ (K : Act → World → Prop) (Q : Exit → Act → World → Prop) : Exit → Act → World → Prop
  | .normal, a, w => K a w
  | e, a, w => Q e a w
theorem wpListIn_app {F : Fence} {n : Nat} {P : Program} {ops : Array Oper} {Q : Exit → Act → World → Prop} {l2 : List Oper} : ∀ (l1 : List Oper) (a : Act) (w : World), wpListIn F n P ops (thenQ (wpListIn F n P ops Q l2) Q) l1 a w → wpListIn F n P ops Q (l1 ++ l2) a w
  | [], a, w, h => h
  | o :: r, a, w, h => by
    show wpListIn F n P ops Q (o :: (r ++ l2)) a w
    unfold wpListIn at h ⊢
    split at h
    · rename_i hw
      rw [if_pos hw]
      exact Oper.wpIn_mono2 (fun a w h => wpListIn_app r a w h) (fun _ _ _ h => h) (fun _ _ h => h) h
    · rename_i hw
      rw [if_neg hw]
      exact ⟨h.1, wpListIn_app r _ _ h.2⟩
theorem putObj_self {w : World} {l : Nat} {o o' : Obj} (h : w.heap[l]? = some o) : (w.putObj l o').heap[l]? = some o' := by
  simp only [World.putObj]
  rw [Array.getElem?_setIfInBounds_self_of_lt (size_of h)]
theorem putObj_ne {w : World} {l b : Nat} {o' : Obj} (h : l ≠ b) : (w.putObj l o').heap[b]? = w.heap[b]? := by
  simp only [World.putObj]
  rw [Array.getElem?_setIfInBounds_ne h]
theorem RecsOk.same {ν : Nu} {w w' : World} : ∀ {A : Amb} {σ : List St}, RecsOk ν A σ w → (∀ x ∈ A, w'.heap[x.1]? = w.heap[x.1]?) → RecsOk ν A σ w'
  | [], [], _, _ => trivial
  | [], _ :: _, h, _ => h.elim
  | _ :: _, [], h, _ => h.elim
  | (l, H) :: A, st :: σ, ⟨⟨rc, h1, h1'⟩, h2, h3⟩, hw => ⟨⟨rc, by rw [hw _ (.head _)]; exact h1, h1'⟩, RecsOk.same h2 (fun x hx => hw x (.tail _ hx)), h3⟩
/-- a record is written -/
theorem RecsOk.put {ν : Nu} {w : World} : ∀ {A : Amb} {σ : List St}, RecsOk ν A σ w → ∀ {i l : Nat} {H : Host}, A[i]? = some (l, H) → ∀ {st : St}, σ[i]? = some st →
    ∃ rc : Loop, w.heap[l]? = some (.loop rc) ∧ rc.state = st.1 ∧ rc.pending = st.2 ∧ rc.params = H.ps ∧ rc.assign = H.assign ∧ rc.body = H.body ∧ H.n ≤ rc.tmps.size ∧ (∀ t v, look H.fm t = some v → VR ν v (rc.tmps.getD t undef)) ∧
      ∀ (s : LoopState) (pd : Option Code), RecsOk ν A (σ.set i (s, pd)) (w.putObj l (.loop { rc with state := s, pending := pd }))
  | (l0, H0) :: A, st0 :: σ, ⟨h1, h2, h3⟩, 0, l, H, hi, st, hs => by
    simp at hi hs
    obtain ⟨rfl, rfl⟩ := hi
    subst hs
    obtain ⟨rc, g1, g2, g3, g4, g5, g6, g7, g8⟩ := h1
    exact ⟨rc, g1, g2, g3, g4, g5, g6, g7, g8, fun s pd => ⟨⟨{ rc with state := s, pending := pd }, putObj_self g1, rfl, rfl, g4, g5, g6, g7, g8⟩, h2.same fun x hx => putObj_ne (Ne.symm (h3 x hx)), h3⟩⟩
  | (l0, H0) :: A, st0 :: σ, ⟨h1, h2, h3⟩, i + 1, l, H, hi, st, hs => by
    obtain ⟨rc, g1, g2, g3, g4, g5, g6, g7, g8, g9⟩ := h2.put (i := i) (by simpa using hi) (by simpa using hs)
    have hmem : (l, H) ∈ A := List.mem_of_getElem? (i := i) (by simpa using hi)
    refine ⟨rc, g1, g2, g3, g4, g5, g6, g7, g8, fun s pd => ⟨?_, g9 s pd, h3⟩⟩
    obtain ⟨r0, k1, k2⟩ := h1
    exact ⟨r0, by rw [putObj_ne (h3 _ hmem)]; exact k1, k2⟩
theorem cell_put {w : World} {l : Nat} {r r' : Loop} (h : w.heap[l]? = some (.loop r)) {a : Addr} {x : Value} (hc : w.cell? a = some x) : (w.putObj l (.loop r')).cell? a = some x := by
  unfold World.cell? at hc ⊢
  by_cases e : l = a.block
  · subst e; rw [h] at hc; cases hc
  · rw [putObj_ne e]; exact hc
theorem HR.putLoop {gl : Nat → Option AVal} {ν : Nu} {T : Tab} {w : World} (hr : HR gl ν T w) {l : Nat} {r r' : Loop} (h : w.heap[l]? = some (.loop r)) : HR gl ν T (w.putObj l (.loop r')) := by
  have hsz : (w.putObj l (.loop r')).heap.size = w.heap.size := by simp [World.putObj]
  refine ⟨fun p o l1 ho hl => ?_, hr.lt, hr.hole, fun p l1 hl h0 => by rw [hsz]; exact hr.blk p l1 hl h0, hr.sep, fun b d hb => ?_, fun p o l1 ho hl => (hr.fam p o l1 ho hl).cells (by rw [hsz]; exact Nat.le_refl _) (fun _ _ h => h) (fun a x hx => cell_put h hx)⟩
  · obtain ⟨h1, h2, h3⟩ := hr.obj p o l1 ho hl
    refine ⟨h1, h2, ?_⟩
    rcases h3 with ⟨h3, h4⟩ | ⟨h3, h4, h5⟩ | h3
    · obtain ⟨cur, g1, g2⟩ := h4.row
      refine .inl ⟨h3, ⟨cur, ?_, g2⟩, h4.spot, h4.room⟩
      rw [putObj_ne (fun e => by rw [← e, h] at g1; injection g1 with g1; cases g1)]; exact g1
    · exact .inr (.inl ⟨h3, h4, fun i hi => let ⟨x, g1, g2⟩ := h5 i hi; ⟨x, cell_put h g1, g2⟩⟩)
    · exact .inr (.inr h3)
  · obtain ⟨h1, h2, h3, h4⟩ := hr.glob b d hb
    exact ⟨h1, by rw [hsz]; exact h2, h3, fun i hi => let ⟨x, g1, g2⟩ := h4 i hi; ⟨x, cell_put h g1, g2⟩⟩
theorem Fr.putLoop {A : Amb} {ν : Nu} {T : Tab} {w : World} {l : Nat} {o : Obj} (hl : ∃ x ∈ A, x.1 = l) : Fr (OwnA A ν T) w (OwnA A ν T) (w.putObj l o) := by
  refine ⟨rfl, rfl, rfl, by simp [World.putObj], fun b hb hO => putObj_ne (fun e => ?_), fun b hb => .inl hb⟩
  subst e
  exact hO (.inr hl)
/-- how a round ends -/
def endOf : AExit → Bool × St
  | .normal => (true, (.ready, none))
  | .ret => (false, (.done, some .ret))
  | .exit id => (false, (.done, some (.exit id)))
  | .goto l => (false, (.done, some (.goto l)))
  | .panic _ _ _ => (false, (.done, none))

section
variable {E : Env} {n k : Nat} {A : Amb} {fm : Fm} {T : Tab} {σ : List St} {post : AExit → Fm → Tab → List St → Prop}
/-- a region that calls yield, once -/
theorem YWp.yieldRegion (hE : EnvOk E) {id : Nat} {opsA : Array Oper} {l1 l2 : List Oper} {oy : Oper} (hsp : opsA.toList = l1 ++ oy :: l2) {ds1 : List (Option Bool)} {o1 : Out}
    (ho1 : runOps E opsA.toList n l1 fm (T ++ holes (cntA E l1)) T.length ds1 = o1) (hc1 : Ok o1)
    {f x : Operand} {t : Nat} {c : Call} (hop : oy.op = .call c) (hcal : c.callee = .value f) (hargs : c.args = #[x]) (hg : oy.guard = none) (hdst : oy.dst = some t) (htn : t < n)
    {i l : Nat} {H : Host} (hf : evOf o1.fm f = some (.func (.yield l) [] [])) {v : AVal} (hx : evOf o1.fm x = some v) (hi : A[i]? = some (l, H)) (hσ : σ[i]? = some (.ready, none)) {p : Nat} (hps : H.ps = #[p]) (hpn : p < H.n)
    {kk : Nat} (hkk : k ≤ kk) (hfm : fmIn kk o1.fm) (hamb : ambIn k A)
    (host : YWp E H.n kk A H.assign ((p, v) :: H.fm) o1.tab σ fun ex fB TB σB => ex = .normal ∧ σB[i]? = some (.ready, none) ∧
      YWp E H.n kk A H.body fB TB (σB.set i (.busy, none)) fun ex f' T' σ' => i < σ'.length ∧ ∃ ds2 o2, runOps E opsA.toList n l2 ((t, .bool (endOf ex).1) :: o1.fm) (T' ++ holes (cntA E l2)) T'.length ds2 = o2 ∧ Ok o2 ∧ post .normal o2.fm o2.tab (σ'.set i (endOf ex).2)) :
    YWp E n k A (.region id opsA false) fm T σ post := by
  intro rr D ν a w hs hrd hA
  refine wpIn_region_list ?_
  rw [hsp]
  refine wpListIn_app l1 a w ?_
  obtain ⟨g1, g2, g3⟩ := Holes_holes hs.hr (cntA E l1)
  rw [← show opsA.toList.toArray = opsA by simp]
  refine runOps_sound hE l1 ⟨g1, hs.fm, hs.size, hs.defers⟩ g3 (by rw [ho1]; exact hc1.h) fun ν1 a1 w1 s1 n1 f1 => ?_
  rw [ho1] at s1 f1
  have f1' : Fr (Own ν T) w (Own ν1 o1.tab) w1 := ⟨f1.os, f1.tape, f1.output, f1.size, fun b hb ho => f1.block b hb (fun h => ho (g2 b h)), fun b hb => (f1.own b hb).imp (g2 b) (fun h => h)⟩
  have A1 : RecsOk ν1 A σ w1 := hA.keep (n1.b k) hamb fun x hx => by
    obtain ⟨rc, hrc⟩ := hA.loop x hx
    exact f1'.block _ (size_of hrc) (hs.hr.notOwn hrc (fun _ _ _ h => by cases h))
  have rd1 : RdOk rr w1 := hrd.fr hs.hr f1'
  show wpListIn _ _ _ _ _ (oy :: l2) a1 w1
  unfold wpListIn
  rw [if_pos (by simp [Region.wanted, hg])]
  refine ⟨fun _ _ => trivial, ?_⟩
  have hsem : oy.semAt (Fc rr).round a1.eval = execOp a1.eval oy := by
    cases rr with
    | none => exact Oper.semAt_none _ _
    | some l => exact Oper.semAt_some l _ _ (fun c h => by rw [hop] at h; cases h)
  obtain ⟨rc, r1, r2, r3, r4, r5, r6, r7, r8, r9⟩ := A1.put hi hσ
  have hfe := evOf_rel s1 f _ hf
  have hxe := evOf_rel s1 x _ hx
  have hfv : a1.eval f = .func (.yield l) #[] #[] := by
    generalize a1.eval f = y at hfe
    cases hfe with
    | func fn h1 h2 h3 h4 =>
      rename_i xs ys
      have e1 : xs = #[] := by apply Array.eq_empty_of_size_eq_zero; simpa using h1.symm
      have e2 : ys = #[] := by apply Array.eq_empty_of_size_eq_zero; simpa using h3.symm
      rw [e1, e2]
  have hrun : (oy.semAt (Fc rr).round a1.eval).run E.P w1 = .ok (.round l rc.fn (rc.tmps.setIfInBounds p (a1.eval x)) rc.assign rc.body) w1 := by
    rw [hsem]
    have hy := run_yield (P := E.P) (args := #[a1.eval x]) r1 (by rw [r4, hps]; rfl)
    simp only [r4, hps] at hy
    simp [execOp, hop, resolve, hcal, hargs, hfv, Deferred.ofValue, invoke]
    simpa using hy
  rw [hrun]
  refine ⟨fun h => (Fc.depth h).elim, ?_⟩
  refine roundIn_of_wpIn Fc.fn ?_
  have hfence : (Fc rr).inRound l = Fc (some l) := rfl
  rw [hfence]
  -- the round's frame
  have sR : SRel E [] ν1 ((p, v) :: H.fm) o1.tab H.n { tmps := rc.tmps.setIfInBounds p (a1.eval x), defers := [] } w1 := by
    refine ⟨s1.hr, fun t' u hu => ?_, by simpa using r7, rfl⟩
    by_cases e : p = t'
    · subst e
      simp only [look, Nat.beq_refl] at hu
      injection hu with hu; subst hu
      have : p < rc.tmps.size := by omega
      simpa [Array.getD, this] using hxe
    · rw [look_cons_ne e] at hu
      have := r8 t' u hu
      simpa [Array.getElem?_setIfInBounds_ne e] using this
  have rdl : ∀ w2 : World, (∃ r, w2.heap[l]? = some (.loop r)) → RdOk (some l) w2 := fun w2 h l' hl' => by injection hl' with hl'; subst hl'; exact h
  rw [r5, r6]
  refine wpIn_mono (host (some l) [] ν1 _ w1 sR (rdl w1 ⟨rc, r1⟩) A1) fun e2 a2 w2 ⟨ex, fB, TB, σB, ν2, h1, ⟨hn1, hn2, hbody⟩, ⟨ms2, s2, mk2⟩, A2, m2, f2⟩ => ?_
  subst hn1
  obtain ⟨rfl, hcalm1⟩ := h1
  obtain ⟨rc2, q1, q2, q3, q4, q5, q6, q7, q8, q9⟩ := A2.put hi hn2
  refine ⟨_, run_beginRound q1 q2, ?_⟩
  have hmem : ∃ x ∈ A, x.1 = l := ⟨(l, H), List.mem_of_getElem? hi, rfl⟩
  have A3 : RecsOk ν2 A (σB.set i (.busy, none)) (w2.putObj l (.loop { rc2 with state := .busy })) := by
    have := q9 .busy none
    rwa [show ({ rc2 with state := .busy, pending := none } : Loop) = { rc2 with state := .busy } by rw [show (none : Option Code) = rc2.pending from q3.symm]] at this
  have s3 : SRel E (ms2 ++ []) ν2 fB TB H.n a2 (w2.putObj l (.loop { rc2 with state := .busy })) := ⟨s2.hr.putLoop q1, s2.fm, s2.size, s2.defers⟩
  have f3 : Fr (OwnA A ν2 TB) w2 (OwnA A ν2 TB) (w2.putObj l (.loop { rc2 with state := .busy })) := Fr.putLoop hmem
  refine wpIn_mono (hbody (some l) _ ν2 a2 _ s3 (rdl _ ⟨_, putObj_self q1⟩) A3) fun e4 a4 w4 ⟨ex, f', T', σ', ν4, h1, ⟨hlen, ds2, o2, ho2, hc2, hpost⟩, ⟨ms4, s4, mk4⟩, A4, m4, f4⟩ => ?_
  obtain ⟨rfl, hcalm⟩ := h1
  obtain ⟨st4, hst4⟩ : ∃ st, σ'[i]? = some st := ⟨σ'[i], List.getElem?_eq_getElem hlen⟩
  obtain ⟨rc4, z1, z2, z3, z4, z5, z6, z7, z8, z9⟩ := A4.put hi hst4
  -- what follows yield
  have after : ∀ (b : Bool) (st : St), (b, st) = endOf ex → wpListIn (Fc rr) 0 E.P opsA.toList.toArray (YPost E n k A post D ν T w) l2 (a1.put oy.dst (.bool b)) (w4.putObj l (.loop { rc4 with state := st.1, pending := st.2 })) := by
    intro b st he
    rw [← he] at ho2 hpost
    simp only at ho2 hpost
    have A5 := z9 st.1 st.2
    have f5 : Fr (OwnA A ν4 T') w4 (OwnA A ν4 T') (w4.putObj l (.loop { rc4 with state := st.1, pending := st.2 })) := Fr.putLoop hmem
    have fall := f2.trans (f3.trans (f4.trans f5))
    have mm : NuLeB kk ν1 ν4 := m2.trans m4
    have s5 : SRel E D ν4 ((t, .bool b) :: o1.fm) T' n (a1.put oy.dst (.bool b)) (w4.putObj l (.loop { rc4 with state := st.1, pending := st.2 })) := by
      have h0 : SRel E D ν4 o1.fm T' n a1 (w4.putObj l (.loop { rc4 with state := st.1, pending := st.2 })) := ⟨s4.hr.putLoop z1, fun t' u hu => (s1.fm t' u hu).monoB mm (hfm t' u hu), s1.size, s1.defers⟩
      have := h0.put (d := oy.dst) (v := .bool b) (x := .bool b) (NuLe.refl ν4) h0.hr (by rw [hdst]; simpa [dstOk] using htn) (.bool b)
      rw [hdst] at this ⊢
      exact this
    obtain ⟨y1, y2, y3⟩ := Holes_holes s5.hr (cntA E l2)
    refine runOps_sound hE l2 ⟨y1, s5.fm, s5.size, s5.defers⟩ y3 (by rw [ho2]; exact hc2.h) fun ν6 a6 w6 s6 n6 f6 => ?_
    rw [ho2] at s6 f6
    have f6' : Fr (Own ν4 T') (w4.putObj l (.loop { rc4 with state := st.1, pending := st.2 })) (Own ν6 o2.tab) w6 := ⟨f6.os, f6.tape, f6.output, f6.size, fun b hb ho => f6.block b hb (fun h => ho (y2 b h)), fun b hb => (f6.own b hb).imp (y2 b) (fun h => h)⟩
    have A6 : RecsOk ν6 A (σ'.set i st) w6 := A5.keep (n6.b k) hamb fun x hx => by
      obtain ⟨rc, hrc⟩ := A5.loop x hx
      exact f6'.block _ (size_of hrc) (s5.hr.notOwn hrc (fun _ _ _ h => by cases h))
    refine ⟨.normal, o2.fm, o2.tab, σ'.set i st, ν6, ⟨rfl, rfl⟩, hpost, s6.m, A6, ?_, f1'.amb.trans (fall.trans f6'.amb)⟩
    exact (n1.b k).trans ((show NuLeB k ν1 ν4 from fun p hp => mm p (by omega)).trans (n6.b k))
  cases ex with
  | normal => exact ⟨_, _, run_endRound none z1, after true _ rfl⟩
  | ret => exact ⟨_, _, run_endRound (some .ret) z1, after false _ rfl⟩
  | exit id => exact ⟨_, _, run_endRound (some (.exit id)) z1, after false _ rfl⟩
  | goto l' => exact ⟨_, _, run_endRound (some (.goto l')) z1, after false _ rfl⟩
  | panic t0 k0 n0 => cases hcalm
end
end Go.Abs

set_option linter.unusedVariables false
set_option linter.unusedSimpArgs false
namespace Go.Abs
/-- blocks were laid at the end; nothing else -/
structure Gr (w w' : World) : Prop where
  os : w'.os = w.os
  tape : w'.tape = w.tape
  output : w'.output = w.output
  size : w.heap.size ≤ w'.heap.size
  low : ∀ b : Nat, b < w.heap.size → w'.heap[b]? = w.heap[b]?
theorem Gr.alloc (w : World) (o : Obj) : Gr w (w.alloc o) :=
  ⟨rfl, rfl, rfl, by simp, fun b hb => by
    simp only [World.alloc]
    rw [Array.getElem?_push, if_neg (by omega)]⟩
theorem Gr.trans {a b c : World} (h : Gr a b) (k : Gr b c) : Gr a c :=
  ⟨k.os.trans h.os, k.tape.trans h.tape, k.output.trans h.output, Nat.le_trans h.size k.size, fun x hx => (k.low x (Nat.lt_of_lt_of_le hx h.size)).trans (h.low x hx)⟩
theorem HR.gr {gl : Nat → Option AVal} {ν : Nu} {T : Tab} {w w' : World} (hr : HR gl ν T w) (h : Gr w w') : HR gl ν T w' := by
  have hc : ∀ {a : Addr} {x : Value}, w.cell? a = some x → w'.cell? a = some x := fun {a x} hc => by
    unfold World.cell? at hc ⊢
    cases ho : w.heap[a.block]? with
    | none => rw [ho] at hc; cases hc
    | some o => rw [ho] at hc; rw [h.low _ (size_of ho), ho]; exact hc
  refine ⟨fun p o l ho hl => ?_, hr.lt, hr.hole, fun p l hl h0 => Nat.lt_of_lt_of_le (hr.blk p l hl h0) h.size, hr.sep, fun b d hb => ?_, fun p o l ho hl => (hr.fam p o l ho hl).cells h.size (fun _ _ h => h) (fun a x hx => hc hx)⟩
  · obtain ⟨h1, h2, h3⟩ := hr.obj p o l ho hl
    refine ⟨h1, h2, ?_⟩
    rcases h3 with ⟨h3, h4⟩ | ⟨h3, h4, h5⟩ | h3
    · obtain ⟨cur, g1, g2⟩ := h4.row
      exact .inl ⟨h3, ⟨cur, by rw [h.low _ (size_of g1)]; exact g1, g2⟩, h4.spot, h4.room⟩
    · exact .inr (.inl ⟨h3, h4, fun i hi => let ⟨x, g1, g2⟩ := h5 i hi; ⟨x, hc g1, g2⟩⟩)
    · exact .inr (.inr h3)
  · obtain ⟨h1, h2, h3, h4⟩ := hr.glob b d hb
    exact ⟨h1, Nat.lt_of_lt_of_le h2 h.size, h3, fun i hi => let ⟨x, g1, g2⟩ := h4 i hi; ⟨x, hc g1, g2⟩⟩
theorem Gr.fr {A : Amb} {ν : Nu} {T : Tab} {w w' : World} (h : Gr w w') : Fr (OwnA A ν T) w (OwnA A ν T) w' := ⟨h.os, h.tape, h.output, h.size, fun b hb _ => h.low b hb, fun b hb => .inl hb⟩
section
variable {E : Env} {n k : Nat} {A : Amb} {fm : Fm} {T : Tab} {σ : List St} {post : AExit → Fm → Tab → List St → Prop}
theorem World.alloc_heap_new' (w : World) (o : Obj) {n : Nat} (h : w.heap.size = n) : (w.alloc o).heap[n]? = some o := by subst h; exact World.alloc_heap_new w o
/-- entering -/
theorem enter_any {P : Program} {rr : Option Nat} {w : World} (hrd : RdOk rr w) (fn : FuncId) (tmps : Array Value) (ps : Array Tmp) (assign body : Code) :
    ∃ (l : Nat) (mark : List Deferred) (w1 : World) (rc : Loop), (Instr.enterLoop fn tmps ps assign body rr).run P w = .ok (l, mark) w1 ∧ w1.heap[l]? = some (.loop rc) ∧ rc.state = .ready ∧ rc.pending = none ∧ rc.params = ps ∧ rc.assign = assign ∧ rc.body = body ∧ rc.tmps = tmps ∧
      w.heap.size ≤ l ∧ Gr w w1 ∧ MarksOk mark w w1 := by
  cases rr with
  | none =>
    refine ⟨_, _, _, _, run_enterLoop_outer fn tmps ps assign body, World.alloc_heap_new' _ _ (World.size_alloc _ _), rfl, rfl, rfl, rfl, rfl, rfl, by omega, (Gr.alloc _ _).trans (Gr.alloc _ _), ?_, by simp⟩
    intro d hd
    simp at hd; subst hd
    refine ⟨_, rfl, Nat.le_refl _, ?_⟩
    rw [(Gr.alloc _ _).low _ (by simp)]
    exact World.alloc_heap_new w _
  | some l0 =>
    obtain ⟨r0, h0⟩ := hrd l0 rfl
    exact ⟨_, _, _, _, run_enterLoop_inner h0 fn tmps ps assign body, World.alloc_heap_new w _, rfl, rfl, rfl, rfl, rfl, rfl, Nat.le_refl _, Gr.alloc _ _, MarksOk.nil _ _⟩

/-- THE STATEMENT -/
theorem YWp.rangeFunc (hE : EnvOk E) {g : Operand} {p : Tmp} {assign body : Code} {gf : Nat} {first caps : List AVal} {gfn : Func} {c : Code}
    (hg : evOf fm g = some (.func (.func gf) first caps)) (hfn : E.P.funcs[gf]? = some gfn) (hb : gfn.body = some c) (hext : (gfn.name == "runtime.NumGoroutine") = false)
    {kk : Nat} (hkk : k ≤ kk) (hin : fmIn kk fm) (hsz : Nat.ble (first.length + (1 + caps.length)) gfn.ntmps = true)
    (callee : ∀ l, YWp E gfn.ntmps kk ((l, ⟨#[p], assign, body, fm, n⟩) :: A) c (argF (first ++ (.func (.yield l) [] [] :: caps)) 0) T ((.ready, none) :: σ) fun ex fm' T' σ' =>
      (ex = .normal ∨ ex = .ret) ∧ (∃ cs us, aRes E fm' T' gfn.results.toList = some (cs, us) ∧ allP cs) ∧ ∃ st σ2, σ' = st :: σ2 ∧ st.1 ≠ .busy ∧
        match st.2 with | none => post .normal fm T' σ2 | some (.exit id) => post (.exit id) fm T' σ2 | some .ret => post .ret fm T' σ2 | _ => False) :
    YWp E n k A (.rangeFunc g #[p] assign body) fm T σ post := by
  intro rr D ν a w hs hrd hA
  refine wpIn_rangeFunc fun fn _ => ?_
  obtain ⟨l, mark, w1, rc, he, e1, e2, e3, e4, e5, e6, e7, e8, e9, e10⟩ := enter_any (P := E.P) hrd fn a.tmps #[p] assign body
  have hgv := evOf_rel hs g _ hg
  generalize hfe : a.eval g = fe at hgv
  cases hgv with
  | func fnn h1 h2 h3 h4 =>
  rename_i xs ys
  have vf : VRs ν first xs.toList := ⟨by simpa using h1, fun i hi => by simpa using h2 i hi⟩
  have vc : VRs ν caps ys.toList := ⟨by simpa using h3, fun i hi => by simpa using h4 i hi⟩
  have vy : VR ν (AVal.func (.yield l) [] []) (Value.func (.yield l) #[] #[]) := .func _ (by simp) (by intro i hi; simp at hi) (by simp) (by intro i hi; simp at hi)
  have vall : VRs ν (first ++ (AVal.func (.yield l) [] [] :: caps)) ((xs ++ #[Value.func (.yield l) #[] #[]]) ++ ys).toList := by
    have := vf.append (VRs.cons vy vc)
    simpa [List.append_assoc] using this
  have hle : (first ++ (AVal.func (.yield l) [] [] :: caps)).length ≤ gfn.ntmps := by
    have := Nat.le_of_ble_eq_true hsz
    simp; omega
  refine ⟨l, mark, w1, { target := .fn (.func gf) ys, args := xs ++ #[Value.func (.yield l) #[] #[]] }, w1, gf, (xs ++ #[Value.func (.yield l) #[] #[]]) ++ ys, w1, he, ?_, fun _ _ => trivial, ?_, fun h => (Fc.depth h).elim, ?_⟩
  · simp only [resolve, hfe]
    simp [Deferred.ofValue]
    rfl
  · have g2 : ¬ gfn.name = "runtime.NumGoroutine" := by simpa using hext
    have g3 : ¬ gfn.body = none := by rw [hb]; simp
    simp [invoke, callFunc, hfn, g2, g3]
  -- the callee
  have hwide : CallsIn Fence.wide 0 E.P gf ((xs ++ #[.func (.yield l) #[] #[]]) ++ ys) w1 (rangePost (Fc rr) 0 E.P l (YPost E n k A post D ν T w) { a with defers := mark ++ a.defers }) := by
    refine callsIn_of_wp_marks (F := Fence.wide) (n := 0) hfn hb trivial ?_
    generalize hvs : (xs ++ #[Value.func (.yield l) #[] #[]]) ++ ys = vs at vall
    generalize hav : first ++ (AVal.func (.yield l) [] [] :: caps) = av at vall hle
    have hcal := callee l
    rw [hav] at hcal
    have s1 : SRel E [] ν (argF av 0) T gfn.ntmps { tmps := vs ++ Array.replicate (gfn.ntmps - vs.size) undef, defers := [] } w1 := by
      refine ⟨hs.hr.gr e9, fun t v hl => ?_, by simp; omega, rfl⟩
      obtain ⟨h1, h2, h3⟩ := argF_look vall hl
      simp only [Nat.sub_zero] at h2 h3
      have : (vs ++ Array.replicate (gfn.ntmps - vs.size) undef).getD t undef = vs.toList.getD t undef := by
        have h2' : t < vs.size := by simpa using h2
        simp [Array.getElem?_append_left h2', List.getD]
      rw [this]; exact h3
    have A1 : RecsOk ν ((l, ⟨#[p], assign, body, fm, n⟩) :: A) ((.ready, none) :: σ) w1 := by
      refine ⟨⟨rc, e1, e2, e3, e4, e5, e6, by rw [e7]; exact hs.size, fun t v hl => by rw [e7]; exact hs.fm t v hl⟩, hA.same fun x hx => ?_, fun x hx e => ?_⟩
      · obtain ⟨r, hr⟩ := hA.loop x hx
        exact e9.low _ (size_of hr)
      · obtain ⟨r, hr⟩ := hA.loop x hx
        have := size_of hr
        omega
    refine wpIn_mono (hcal none [] ν _ w1 s1 (fun l h => by cases h) A1) fun e a' w' ⟨ex, fm', T', σ', ν', h1, ⟨hex, ⟨cs, us, hres, hcs⟩, st, σ2, hσ, hbusy, hpost⟩, ⟨ms, s', mk⟩, A', n', f'⟩ => ?_
    obtain ⟨rfl, hcalm⟩ := h1
    subst hσ
    have post : LeavesInM Fence.wide 0 E.P gfn a'.tmps (rangePost (Fc rr) 0 E.P l (YPost E n k A post D ν T w) { a with defers := mark ++ a.defers }) a'.defers .returning w' := by
      have hd : a'.defers = ms := by rw [s'.defers, List.append_nil]
      rw [hd]
      refine leaves_marks ms w' mk.1 mk.2 (Sh.refl w1.heap.size w') fun w2 hsh => ?_
      have s2 : SRel E (ms ++ []) ν' fm' T' gfn.ntmps a' w2 := ⟨s'.hr.sh hsh, s'.fm, s'.size, s'.defers⟩
      obtain ⟨xs, g1, g2⟩ := aRes_sound hE s2 hres hcs
      have hres : (results gfn a'.tmps).run E.P w2 = .ok (if h : xs.toArray.size = 1 then xs.toArray[0] else .tuple xs.toArray) w2 := by
        have : (gfn.results.mapM (resF a'.tmps)).run E.P w2 = .ok xs.toArray w2 := by
          rw [Array.mapM_eq_mapM_toList]
          simp [g1]
        unfold results
        rw [Sem.run_bind]
        refine (congrArg (fun r => Result.andThen r _) ((congrArg (fun g => Sem.run E.P (Array.mapM g gfn.results) w2) (funext fun x => ?_)).trans this)).trans rfl
        cases x <;> rfl
      refine ⟨_, hres, ?_⟩
      have A2 : RecsOk ν' ((l, ⟨#[p], assign, body, fm, n⟩) :: A) (st :: σ2) w2 := A'.same fun x hx => by
        obtain ⟨r, hr⟩ := A'.loop x hx
        rw [hr, hsh.block _ _ hr (fun _ h => by cases h)]
      obtain ⟨⟨rc2, q1, q2, q3, q4⟩, A3, hne⟩ := A2
      have f2 : Fr (OwnA ((l, ⟨#[p], assign, body, fm, n⟩) :: A) ν T) w1 (OwnA ((l, ⟨#[p], assign, body, fm, n⟩) :: A) ν' T') w2 := f'.sh rfl hsh
      obtain ⟨jp, hjp⟩ : ∃ jp, jp = rc2.pending := ⟨_, rfl⟩
      refine ⟨jp, _, by rw [hjp]; exact run_endLoop q1 (by rw [q2]; exact hbusy), ?_⟩
      have hj2 : jp = st.2 := hjp.trans q3
      clear hjp
      subst hj2
      have hmark : MarksOk mark w (w2.putObj l (.loop { rc2 with state := .exhausted })) := by
        refine ⟨fun d hd => ?_, e10.2⟩
        obtain ⟨r, g1, g2, g3⟩ := e10.1 d hd
        have hlt := size_of g3
        have g4 : w'.heap[r]? = some (.deferred (some [])) := f'.other (hs.hr.gr e9) A1 g3 (fun _ _ _ h => by cases h) (fun _ h => by cases h)
        refine ⟨r, g1, g2, ?_⟩
        rw [putObj_ne (fun e => by rw [← e, e1] at g3; injection g3 with g3; cases g3), hsh.low r hlt]
        exact g4
      have s4 : SRelM E D w ν' fm T' n { a with defers := mark ++ a.defers } (w2.putObj l (.loop { rc2 with state := .exhausted })) :=
        ⟨mark, ⟨s2.hr.putLoop q1, fun t v hl => (hs.fm t v hl).monoB n' (hin t v hl), hs.size, by rw [hs.defers]⟩, hmark⟩
      have A4 : RecsOk ν' A σ2 (w2.putObj l (.loop { rc2 with state := .exhausted })) := A3.same fun x hx => putObj_ne (Ne.symm (hne x hx))
      have n4 : NuLeB k ν ν' := fun p hp => n' p (by omega)
      have f4 : Fr (OwnA A ν T) w (OwnA A ν' T') (w2.putObj l (.loop { rc2 with state := .exhausted })) := by
        have hs2 : w.heap.size ≤ w2.heap.size := Nat.le_trans e9.size f2.size
        refine ⟨f2.os.trans e9.os, f2.tape.trans e9.tape, f2.output.trans e9.output, by simpa [World.putObj] using hs2, fun b hb hO => ?_, fun b hb => ?_⟩
        · rw [putObj_ne (by omega), f2.block b (Nat.lt_of_lt_of_le hb e9.size) (fun h => ?_)]
          · exact e9.low b hb
          · rcases h with h | ⟨x, hx, rfl⟩
            · exact hO (.inl h)
            · rcases List.mem_cons.1 hx with rfl | hx
              · simp at hb; omega
              · exact hO (.inr ⟨x, hx, rfl⟩)
        · have : OwnA ((l, ⟨#[p], assign, body, fm, n⟩) :: A) ν' T' b := hb.imp id fun ⟨x, hx, e⟩ => ⟨x, .tail _ hx, e⟩
          rcases f2.own b this with h | h
          · rcases h with h | ⟨x, hx, rfl⟩
            · exact .inl (.inl h)
            · rcases List.mem_cons.1 hx with rfl | hx
              · exact .inr e8
              · exact .inl (.inr ⟨x, hx, rfl⟩)
          · exact .inr (Nat.le_trans e9.size h)
      obtain ⟨st1, st2⟩ := st
      cases st2 with
      | none => exact ⟨.normal, fm, T', σ2, ν', ⟨rfl, rfl⟩, hpost, s4, A4, n4, f4⟩
      | some j =>
        cases j with
        | exit id => exact wpIn_exit ⟨.exit id, fm, T', σ2, ν', ⟨rfl, rfl⟩, hpost, s4, A4, n4, f4⟩
        | ret => exact wpIn_ret ⟨.ret, fm, T', σ2, ν', ⟨rfl, rfl⟩, hpost, s4, A4, n4, f4⟩
        | _ => exact hpost.elim
    rcases hex with rfl | rfl
    · exact post
    · exact post
  exact hwide
theorem AWp.ofY {c : Code} {post : AExit → Fm → Tab → Prop} (h : YWp E n k [] c fm T [] fun ex fm' T' _ => post ex fm' T') : AWp E n k c fm T post := by
  intro rr D ν a w hs hrd
  refine wpIn_mono (h rr D ν a w hs hrd trivial) fun e a' w' ⟨ex, fm', T', σ', ν', h1, h2, h3, h6, h4, h5⟩ => ⟨ex, fm', T', ν', h1.1, h2, h3, h4, ?_⟩
  have hO : ∀ (ν : Nu) (T : Tab) b, OwnA [] ν T b ↔ Own ν T b := fun ν T b => ⟨fun h => h.elim id (fun ⟨x, hx, _⟩ => by cases hx), .inl⟩
  exact ⟨h5.os, h5.tape, h5.output, h5.size, fun b hb hO' => h5.block b hb (fun h => hO' ((hO _ _ _).1 h)), fun b hb => (h5.own b ((hO _ _ _).2 hb)).imp (hO _ _ _).1 (fun h => h)⟩
theorem YWp.ofTo {c : Code} {ex : AExit} {fm' : Fm} {T' : Tab} (h : To E n k c fm T ex fm' T') (hin : ambIn k A) (hp : post ex fm' T' σ) (hcm : ex.calm = true := by rfl) : YWp E n k A c fm T σ post :=
  YWp.lift hin (AWp.mono h fun e f t hP => by obtain ⟨e1, e2, e3⟩ := hP; subst e1 e2 e3; exact ⟨hcm, hp⟩)
theorem fmIn_of {k : Nat} {fm : Fm} (h : fm.all (fun x => idsIn (fun i => Nat.blt i k) x.2) = true) : fmIn k fm := by
  intro t v hl
  induction fm with
  | nil => cases hl
  | cons x r ih =>
    obtain ⟨s, u⟩ := x
    simp only [List.all_cons, Bool.and_eq_true] at h
    simp only [look] at hl
    split at hl
    · injection hl with hl; subst hl; exact h.1
    · exact ih h.2 hl
theorem ambIn_one {k l : Nat} {H : Host} (h : H.fm.all (fun x => idsIn (fun i => Nat.blt i k) x.2) = true) : ambIn k [(l, H)] := fun x hx => by
  rcases List.mem_cons.1 hx with rfl | hx
  · exact fmIn_of h
  · cases hx
end
end Go.Abs

set_option linter.unusedVariables false
set_option linter.unusedSimpArgs false
namespace Go.Abs
/-! ## a function's contract from its body's walk; bytes of whatever kind -/
theorem small_of_awp {E : Env} (hE : EnvOk E) {f : FuncId} {fn : Func} {c : Code} (hf : E.P.funcs[f]? = some fn) (hb : fn.body = some c) {args : List AVal} {T0 : Tab} {v : AVal} {T1 : Tab} (hle : Nat.ble args.length fn.ntmps = true)
    (h : AWp E fn.ntmps T0.length c (argF args 0) T0 fun ex fm T => (ex = .normal ∨ ex = .ret) ∧ T = T1 ∧ ∃ cs us, aRes E fm T fn.results.toList = some (cs, us) ∧ allP cs ∧ retV us = v) : Small E.P E.gl f args T0 v T1 := by
  intro ν w vs hr hv
  refine callsIn_wide.1 (callsIn_of_wp_marks (F := Fence.wide) (n := 0) hf hb trivial ?_)
  have hs : SRel E [] ν (argF args 0) T0 fn.ntmps { tmps := vs ++ Array.replicate (fn.ntmps - vs.size) undef, defers := [] } w := by
    refine ⟨hr, fun t v hl => ?_, by simp; omega, rfl⟩
    obtain ⟨h1, h2, h3⟩ := argF_look hv hl
    simp only [Nat.sub_zero] at h2 h3
    have : (vs ++ Array.replicate (fn.ntmps - vs.size) undef).getD t undef = vs.toList.getD t undef := by
      have h2' : t < vs.size := by simpa using h2
      simp [Array.getElem?_append_left h2', List.getD]
    rw [this]; exact h3
  refine wpIn_mono (h none [] ν _ w hs (fun l h => by cases h)) fun e a' w' hP => ?_
  obtain ⟨ex, fm', T', ν', e1, ⟨hex, hT, cs2, us, h2, h3, hu⟩, ⟨ms, s', mk⟩, n', f'⟩ := hP
  subst e1 hT hu
  have post : LeavesInM Fence.wide 0 E.P fn a'.tmps (fun e w' => ∃ x ν', e = .returned x ∧ VR ν' (retV us) x ∧ HR E.gl ν' T' w' ∧ NuLeB T0.length ν ν' ∧ Fr (Own ν T0) w (Own ν' T') w') a'.defers .returning w' := by
    have hd : a'.defers = ms := by rw [s'.defers, List.append_nil]
    rw [hd]
    refine leaves_marks ms w' mk.1 mk.2 (Sh.refl w.heap.size w') fun w2 hsh => ?_
    have s2 : SRel E (ms ++ []) ν' fm' T' fn.ntmps a' w2 := ⟨s'.hr.sh hsh, s'.fm, s'.size, s'.defers⟩
    obtain ⟨xs, g1, g2⟩ := aRes_sound hE s2 h2 h3
    have hres : (results fn a'.tmps).run E.P w2 = .ok (if h : xs.toArray.size = 1 then xs.toArray[0] else .tuple xs.toArray) w2 := by
      have : (fn.results.mapM (resF a'.tmps)).run E.P w2 = .ok xs.toArray w2 := by
        rw [Array.mapM_eq_mapM_toList]
        simp [g1]
      unfold results
      rw [Sem.run_bind]
      refine (congrArg (fun r => Result.andThen r _) ((congrArg (fun g => Sem.run E.P (Array.mapM g fn.results) w2) (funext fun x => ?_)).trans this)).trans rfl
      cases x <;> rfl
    exact ⟨_, hres, _, ν', rfl, retV_VR g2, s2.hr, n', f'.sh rfl hsh⟩
  rcases hex with rfl | rfl
  · exact post
  · exact post

section
variable {E : Env} {n k : Nat} {fm : Fm} {T : Tab} {post : AExit → Fm → Tab → Prop}
end
end Go.Abs

set_option linter.unusedVariables false
namespace Go.Abs
/-! ## a chain of codes -/
def chn : List Code → Code → Code
  | [], r => r
  | c :: l, r => .seq c (chn l r)
def runs (E : Env) (n : Nat) (orc : Orc) (f : Nat) : List Code → Fm → Tab → List (Option Bool) → Out
  | [], fm, T, ds => ⟨[], .normal, fm, T, ds⟩
  | c :: l, fm, T, ds => seqO (run E n orc f c fm T ds) (runs E n orc f l)
theorem AWp.chn {E : Env} (hE : EnvOk E) (hm : E.P.follows .mixedOrders = true) {n k : Nat} {orc : Orc} (hk : k ≤ orc.kb) {f : Nat} {post : AExit → Fm → Tab → Prop} {rest : Code} : ∀ {cs : List Code}, (∀ c ∈ cs, OrcOk E n orc c) → ∀ {fm : Fm} {T : Tab} {ds : List (Option Bool)} {o : Out}, runs E n orc f cs fm T ds = o → allP o.cs → o.ex = .normal → AWp E n k rest o.fm o.tab post → AWp E n k (Abs.chn cs rest) fm T post
  | [], _, fm, T, ds, o, ho, hc, hx, h => by subst ho; exact h
  | c :: l, hO, fm, T, ds, o, ho, hc, hx, h => by
    refine AWp.seq ?_
    simp only [runs] at ho
    have hrun := fun hh => (run_sound hE hm hk (hO c (.head _)) f (c := c) (fun _ _ h => h) (fm := fm) (T := T) (ds := ds) hh).1
    generalize run E n orc f c fm T ds = o1 at ho hrun
    obtain ⟨cs1, ex1, fm1, T1, ds1⟩ := o1
    cases ex1 with
    | normal =>
      simp only [seqO] at ho
      generalize hr : runs E n orc f l fm1 T1 ds1 = o2 at ho
      obtain ⟨cs2, ex2, fm2, T2, ds2⟩ := o2
      subst ho
      simp only at hc hx h
      rw [allP_append] at hc
      refine AWp.mono (hrun hc.1) fun ex fm' T' hP => ?_
      obtain ⟨e1, e2, e3⟩ := hP
      subst e1 e2 e3
      exact AWp.chn hE hm hk (fun c hc => hO c (.tail _ hc)) hr hc.2 hx h
    | exit id => subst ho; cases hx
    | goto l => subst ho; cases hx
    | panic t0 k0 n0 => subst ho; cases hx
    | ret => subst ho; cases hx
def frontC : Nat → Code → List Code
  | n + 1, .seq a b => a :: frontC n b
  | _, _ => []
def backC : Nat → Code → Code
  | n + 1, .seq a b => backC n b
  | _, c => c
theorem chn_split : ∀ (n : Nat) (c : Code), chn (frontC n c) (backC n c) = c
  | 0, c => by cases c <;> rfl
  | n + 1, c => by
    cases c with
    | seq a b => simp only [frontC, backC, chn, chn_split n b]
    | _ => rfl
theorem AWp.cut {E : Env} (hE : EnvOk E) (hm : E.P.follows .mixedOrders = true) {n k : Nat} {f : Nat} {post : AExit → Fm → Tab → Prop} {c : Code} (j : Nat) {fm : Fm} {T : Tab} {ds : List (Option Bool)} {o : Out} (ho : runs E n ⟨k, []⟩ f (frontC j c) fm T ds = o) (hc : Ok o) (hx : o.ex = .normal) (h : AWp E n k (backC j c) o.fm o.tab post) : AWp E n k c fm T post := by
  have := AWp.chn hE hm (orc := ⟨k, []⟩) (Nat.le_refl k) (cs := frontC j c) (fun c _ => OrcOk.nil) ho hc.h hx h
  rwa [chn_split] at this
end Go.Abs

set_option linter.unusedVariables false
set_option linter.unusedSimpArgs false
namespace Go.Abs
/-! ## A region that draws its order and ends in a call of yield -/
section
variable {c : Cfg} {vals : Fm} {ν0 : Nu} {T0 : Tab} {w0 : World} {D : List Deferred} {rr : Option Nat} {Q : Exit → Act → World → Prop}
structure Front (full : List Oper) (c : Cfg) (oy : Oper) (l2 : List Oper) : Prop where
  eq : full = c.ops ++ oy :: l2
  g : ∀ o ∈ c.ops, o.guard = none
  b : ∀ j, j < c.ops.length → bit (maskOf c.anc oy.after.toList) j = true
  e : ∀ e ∈ oy.after.toList, bindsB e = true → e.on < c.ops.length
  a : ∀ o ∈ l2, ∃ e ∈ o.after.toList, bindsB e = true ∧ c.ops.length ≤ e.on
theorem Front.lt {full : List Oper} {oy : Oper} {l2 : List Oper} (F : Front full c oy l2) {i : Nat} (h : i < c.ops.length) : full.toArray[i]? = c.ops[i]? := by
  rw [F.eq]; simp [List.getElem?_append_left h]
theorem Front.at {full : List Oper} {oy : Oper} {l2 : List Oper} (F : Front full c oy l2) : full.toArray[c.ops.length]? = some oy := by
  rw [F.eq]; simp
theorem Front.len {full : List Oper} {oy : Oper} {l2 : List Oper} (F : Front full c oy l2) : full.length = c.ops.length + (l2.length + 1) := by
  rw [F.eq]; simp
/-- nothing behind the front is ready before all of the front is listed -/
theorem Front.ready {full : List Oper} {oy : Oper} {l2 : List Oper} (F : Front full c oy l2) (g : Geo c) (hanc : c.anc = ancsGo c.ops []) {L Lf : Array Bool} (hfr : ∀ i, i < c.ops.length → (ls L i ↔ ls Lf i)) (hno : ∀ i, c.ops.length ≤ i → ¬ ls L i)
    (hcl : ∀ (i : Nat) (o : Oper), c.ops[i]? = some o → ls Lf i → ∀ e ∈ o.after.toList, bindsB e = true → ls Lf e.on) (hlf : ∀ i, ls Lf i → i < c.ops.length) {i : Nat} (hi : i ∈ Region.ready .any full.toArray L) (hge : c.ops.length ≤ i) : i = c.ops.length ∧ ∀ j, j < c.ops.length → ls Lf j := by
  obtain ⟨h1, o, h2, h3⟩ := mem_ready.1 hi
  have h2' : full[i]? = some o := by simpa using h2
  rw [F.eq, List.getElem?_append_right hge] at h2'
  have back : ∀ e ∈ o.after.toList, bindsB e = true → ls L e.on := fun e he hb => h3 e (by simpa using he) (by rw [bindsB_eq]; exact hb)
  cases hk : i - c.ops.length with
  | zero =>
    rw [hk] at h2'
    simp at h2'
    subst h2'
    refine ⟨by omega, fun j hj => ?_⟩
    have hb := F.b j hj
    obtain ⟨e, e1, e2, e3⟩ := maskOf_bit hb
    have hlt := F.e e e1 e2
    have hs := (hfr e.on hlt).1 (back e e1 e2)
    rcases e3 with rfl | e3
    · exact hs
    · have e4 : bit (c.an e.on) j = true := by
        unfold Cfg.an; rw [nthN_eq]; exact e3
      exact g.down (S := ls Lf) hcl e.on hs j e4
  | succ k =>
    rw [hk] at h2'
    simp at h2'
    obtain ⟨e, e1, e2, e3⟩ := F.a o (List.mem_of_getElem? h2')
    exact absurd (back e e1 e2) (hno e.on e3)
end
end Go.Abs

set_option linter.unusedVariables false
set_option linter.unusedSimpArgs false
namespace Go.Abs
section
variable {E : Env} {n k : Nat} {A : Amb} {fm : Fm} {T : Tab} {σ : List St} {post : AExit → Fm → Tab → List St → Prop}
end
end Go.Abs

set_option linter.unusedVariables false
set_option linter.unusedSimpArgs false
namespace Go.Abs
section
variable {E : Env} {n k : Nat} {fm : Fm} {T : Tab} {post : AExit → Fm → Tab → Prop}
theorem run_eqNil {P : Program} {w : World} {t e : TypeId} (hd : P.underlying t = some (.slice e)) (ao : Option Addr) (len c : Nat) (h0 : ao = none → len = 0 ∧ c = 0) (x y : Operand) :
    ∃ b : Bool, (eqGuard .eql t x y (.slice ao len c) (.slice none 0 0)).run P w = .ok () w ∧ (binOp .eql t (.slice ao len c) (.slice none 0 0)).run P w = .ok (.bool b) w := by
  cases ao with
  | none =>
    obtain ⟨rfl, rfl⟩ := h0 rfl
    have he : ∀ d, (Op.equalIn (d + 1) t (.slice none 0 0) (.slice none 0 0)).run P w = .ok true w := fun d => by simp [Op.equalIn, run_underlying hd]
    exact ⟨true, by rw [eqGuard_at_slice]; rfl, by simp only [binOp]; simp [Op.equal, Op.maxDepth, he 9999]⟩
  | some b =>
    have he : ∀ d, (Op.equalIn (d + 1) t (.slice (some b) len c) (.slice none 0 0)).run P w = .ok false w := fun d => by simp [Op.equalIn, run_underlying hd]
    exact ⟨false, by rw [eqGuard_at_slice]; rfl, by simp only [binOp]; simp [Op.equal, Op.maxDepth, he 9999]⟩
/-- a region whose last operation holds a slice against nil, of which it is not known whether it is nothing -/
theorem AWp.eqNil (hE : EnvOk E) {id : Nat} {opsA : Array Oper} {l1 : List Oper} {oy : Oper} (hsp : opsA.toList = l1 ++ [oy]) {ds1 : List (Option Bool)} {o1 : Out}
    (ho1 : runOps E opsA.toList n l1 fm (T ++ holes (cntA E l1)) T.length ds1 = o1) (hc1 : Ok o1)
    {x y : Operand} {t : Nat} {ty e yt : TypeId} (hop : oy.op = .binOp .eql ty x y yt) (hg : oy.guard = none) (hdst : oy.dst = some t) (htn : t < n) (hd : E.P.underlying ty = some (.slice e))
    {sz p g off len : Nat} {cap : Option Nat} {o : AObj} (hx : evOf o1.fm x = some (.slice sz p g off len cap)) (hy : evOf o1.fm y = some .nilSlice) (ho : nth o1.tab p = some o) (hgo : g = o.g)
    (rest : ∀ b : Bool, post .normal ((t, .bool b) :: o1.fm) o1.tab) : AWp E n k (.region id opsA false) fm T post := by
  intro rr D ν a w hs hrd
  refine wpIn_region_list ?_
  rw [hsp]
  refine wpListIn_app l1 a w ?_
  obtain ⟨g1, g2, g3⟩ := Holes_holes hs.hr (cntA E l1)
  rw [← show opsA.toList.toArray = opsA by simp]
  refine runOps_sound hE l1 ⟨g1, hs.fm, hs.size, hs.defers⟩ g3 (by rw [ho1]; exact hc1.h) fun ν1 a1 w1 s1 n1 f1 => ?_
  rw [ho1] at s1 f1
  have f1' : Fr (Own ν T) w (Own ν1 o1.tab) w1 := ⟨f1.os, f1.tape, f1.output, f1.size, fun b hb ho => f1.block b hb (fun h => ho (g2 b h)), fun b hb => (f1.own b hb).imp (g2 b) (fun h => h)⟩
  show wpListIn _ _ _ _ _ [oy] a1 w1
  unfold wpListIn
  rw [if_pos (by simp [Region.wanted, hg])]
  refine ⟨fun _ _ => trivial, ?_⟩
  have hsem : oy.semAt (Fc rr).round a1.eval = execOp a1.eval oy := by
    cases rr with
    | none => exact Oper.semAt_none _ _
    | some l => exact Oper.semAt_some l _ _ (fun c h => by rw [hop] at h; cases h)
  have hxe := evOf_rel s1 x _ hx
  have hye := evOf_rel s1 y _ hy
  have hyv : a1.eval y = .slice none 0 0 := hye.nilSlice_inv
  obtain ⟨ao, len', c', hxv, h0⟩ : ∃ ao len' c', a1.eval x = .slice ao len' c' ∧ (ao = none → len' = 0 ∧ c' = 0) := by
    rcases hxe.slice_inv s1.hr ho hgo with ⟨l, b, c, hl, hv, hsl⟩ | ⟨bo, l, rfl, hv, hl, hz'⟩
    · exact ⟨some b, _, c, hv, fun h => by cases h⟩
    · exact ⟨bo, 0, 0, hv, fun _ => ⟨rfl, rfl⟩⟩
  obtain ⟨b, e1, e2⟩ := run_eqNil (P := E.P) (w := w1) hd ao len' c' h0 x y
  have hrun : (oy.semAt (Fc rr).round a1.eval).run E.P w1 = .ok (.value (.bool b)) w1 := by
    rw [hsem]
    simp only [execOp, hop, hxv, hyv, Sem.run_bind, e1, e2, Result.andThen_ok, Sem.run_pure]
  rw [hrun]
  show wpListIn (Fc rr) 0 E.P opsA.toList.toArray (Post E n k post D ν T w) [] _ _
  unfold wpListIn
  have s2 : SRel E D ν1 ((t, .bool b) :: o1.fm) o1.tab n (a1.put oy.dst (.bool b)) w1 := by
    have := s1.put (d := oy.dst) (NuLe.refl ν1) s1.hr (by rw [hdst]; simpa [dstOk] using htn) (.bool b)
    rw [hdst] at this ⊢
    exact this
  exact ⟨.normal, _, _, ν1, rfl, rest b, s2.m, n1.b k, f1'⟩
end
end Go.Abs

set_option linter.unusedVariables false
set_option linter.unusedSimpArgs false
namespace Go.Abs
end Go.Abs

set_option linter.unusedVariables false
set_option linter.unusedSimpArgs false
namespace Go.Abs
/-! ## The table, told otherwise -/
def Conv (gl : Nat → Option AVal) (ids : List Nat) (T T' : Tab) : Prop := ∀ (ν : Nu) (w : World), HR gl ν T w → (∀ p ∈ ids, (ν p).isSome) → ∃ ν', HR gl ν' T' w ∧ NuLe ν ν' ∧ ∀ b, Own ν' T' b → Own ν T b
theorem NuLe.isSome {ν ν' : Nu} (h : NuLe ν ν') {p : Nat} (hp : (ν p).isSome) : (ν' p).isSome := by
  obtain ⟨l, hl⟩ := Option.isSome_iff_exists.1 hp
  obtain ⟨l', h1, _⟩ := h p l hl
  rw [h1]; rfl
theorem Conv.trans {gl : Nat → Option AVal} {ids : List Nat} {T T1 T2 : Tab} (h : Conv gl ids T T1) (k : Conv gl ids T1 T2) : Conv gl ids T T2 := by
  intro ν w hr hi
  obtain ⟨ν1, h1, h2, h3⟩ := h ν w hr hi
  obtain ⟨ν2, k1, k2, k3⟩ := k ν1 w h1 (fun p hp => h2.isSome (hi p hp))
  exact ⟨ν2, k1, h2.trans k2, fun b hb => h3 b (k3 b hb)⟩
theorem AWp.conv {E : Env} {n k : Nat} {c : Code} {fm : Fm} {ids : List Nat} {T T' : Tab} {post : AExit → Fm → Tab → Prop} (hc : Conv E.gl ids T T') (hi : ∀ p ∈ ids, ∃ t v, look fm t = some v ∧ hasId p v = true) (h : AWp E n k c fm T' post) : AWp E n k c fm T post := by
  intro rr D ν a w hs hrd
  obtain ⟨ν', h1, h2, h3⟩ := hc ν w hs.hr (fun p hp => by obtain ⟨t, v, e1, e2⟩ := hi p hp; exact (hs.fm t v e1).hasId e2)
  refine wpIn_mono (h rr D ν' a w ⟨h1, fun t v hv => (hs.fm t v hv).mono h2, hs.size, hs.defers⟩ hrd) fun e a' w' ⟨ex, f1, T1, ν1, g1, g2, g3, g4, g5⟩ => ⟨ex, f1, T1, ν1, g1, g2, g3, (h2.b k).trans g4, ?_⟩
  exact ⟨g5.os, g5.tape, g5.output, g5.size, fun b hb hO => g5.block b hb (fun h => hO (h3 b h)), fun b hb => (g5.own b hb).imp (h3 b) id⟩
theorem To.conv {E : Env} {n k : Nat} {c : Code} {fm : Fm} {T : Tab} {ex : AExit} {fm1 : Fm} {ids : List Nat} {T1 T2 : Tab} (h : To E n k c fm T ex fm1 T1) (hc : Conv E.gl ids T1 T2) (hi : ∀ p ∈ ids, ∃ t v, look fm1 t = some v ∧ hasId p v = true) : To E n k c fm T ex fm1 T2 := by
  intro rr D ν a w hs hrd
  refine wpIn_mono (h rr D ν a w hs hrd) fun e a' w' ⟨ex', f1, T', ν1, g1, ⟨e1, e2, e3⟩, ⟨ms, s', mk⟩, g4, g5⟩ => ?_
  subst e1 e2 e3
  obtain ⟨ν2, h1, h2, h3⟩ := hc ν1 w' s'.hr (fun p hp => by obtain ⟨t, v, e1, e2⟩ := hi p hp; exact (s'.fm t v e1).hasId e2)
  exact ⟨_, _, T2, ν2, g1, ⟨rfl, rfl, rfl⟩, ⟨ms, ⟨h1, fun t v hv => (s'.fm t v hv).mono h2, s'.size, s'.defers⟩, mk⟩, g4.trans (h2.b k), g5.sub h3⟩
theorem Small.conv {P : Program} {gl : Nat → Option AVal} {f : FuncId} {args : List AVal} {T : Tab} {v : AVal} {ids : List Nat} {T1 T2 : Tab} (h : Small P gl f args T v T1) (hc : Conv gl ids T1 T2) (hi : ∀ p ∈ ids, hasId p v = true) : Small P gl f args T v T2 := by
  intro ν w vs hr hvs
  refine (h ν w vs hr hvs).mono ?_
  rintro e w' ⟨x, ν', rfl, h1, h2, h3, h4⟩
  obtain ⟨ν2, k1, k2, k3⟩ := hc ν' w' h2 (fun p hp => h1.hasId (hi p hp))
  exact ⟨x, ν2, rfl, h1.mono k2, k1, h3.trans (k2.b _), h4.sub k3⟩

section
variable {gl : Nat → Option AVal} {ν : Nu} {T : Tab} {w : World}
end
/-- a slice of one slice, as a family begins -/
theorem Conv.first {gl : Nat → Option AVal} {T : Tab} {x gx : Nat} {v : AVal} {ex : TypeId} (eF : TypeId)
    (hx : T[x]? = some (some ⟨.agg [v], gx, true, ex⟩)) {T' : Tab} (e : T' = (T ++ [some (⟨.fam [], 0, true, eF⟩ : AObj)]).set x (some ⟨.frows T.length 0 [] [v], gx, true, ex⟩)) : Conv gl [x] T T' := by
  subst e
  intro ν w h hi
  obtain ⟨lx, hlx⟩ := Option.isSome_iff_exists.1 (hi x (.head _))
  have hxlt := (List.getElem?_eq_some_iff.1 hx).1
  have hn : ν T.length = none := by
    cases hν : ν T.length with
    | none => rfl
    | some l => have := h.lt _ l hν; omega
  obtain ⟨l0, hl0⟩ : ∃ l0 : Loc, l0 = ⟨⟨0, 0, none⟩, 0, 0⟩ := ⟨_, rfl⟩
  have hm : NuLe ν (upd ν T.length l0) := NuLe.upd_new (ν := ν) l0 hn
  have same : ∀ p, p ≠ T.length → upd ν T.length l0 p = ν p := fun p hp => upd_other ν l0 hp
  have self : upd ν T.length l0 T.length = some l0 := upd_same ν _ l0
  have getT : ∀ p o, (T ++ [some (⟨.fam [], 0, true, eF⟩ : AObj)])[p]? = some o → (p < T.length ∧ T[p]? = some o) ∨ (p = T.length ∧ o = some ⟨.fam [], 0, true, eF⟩) := by
    intro p o ho
    rcases Nat.lt_or_ge p T.length with hp | hp
    · rw [List.getElem?_append_left hp] at ho; exact .inl ⟨hp, ho⟩
    · rw [List.getElem?_append_right hp] at ho
      have hlt := (List.getElem?_eq_some_iff.1 ho).1
      have hp0 : p = T.length := by simp at hlt; omega
      subst hp0
      simp at ho
      exact .inr ⟨rfl, ho.symm⟩
  have hown : ∀ b, Own (upd ν T.length l0) (T ++ [some (⟨.fam [], 0, true, eF⟩ : AObj)]) b → Own ν T b := by
    rintro b ⟨p, o, l, h1, h2, h3, h4, h5⟩
    rcases getT p _ h1 with ⟨hp, h1⟩ | ⟨hp, h1⟩
    · rw [same p (by omega)] at h3; exact ⟨p, o, l, h1, h2, h3, h4, h5⟩
    · subst hp; rw [self] at h3; injection h3 with h3; subst h3; subst hl0; simp at h4
  have hr1 : HR gl (upd ν T.length l0) (T ++ [some (⟨.fam [], 0, true, eF⟩ : AObj)]) w := by
    refine ⟨fun p o l ho hl => ?_, fun p l hl => ?_, fun p hp => ?_, fun p l hl h0 => ?_, fun p q o o' l l' ho ho' hw hne hl hl' h0 h0' => ?_, fun b d hb => ?_, fun p o l ho hl => ?_⟩
    · rcases getT p _ ho with ⟨hp, h1⟩ | ⟨hp, h1⟩
      · rw [same p (by omega)] at hl
        obtain ⟨g1, g2⟩ := h.obj p o l h1 hl
        exact ⟨g1, g2.kept hm fun _ => rfl⟩
      · subst hp; rw [self] at hl; injection hl with hl; subst hl; subst hl0
        injection h1 with h1; subst h1
        exact ⟨rfl, .fam _, .inr (.inr ⟨rfl, rfl⟩)⟩
    · by_cases e : p = T.length
      · subst e; simp
      · rw [same p e] at hl; have := h.lt p l hl; simp; omega
    · rcases getT p _ hp with ⟨hp', h1⟩ | ⟨hp', h1⟩
      · rw [same p (by omega)]; exact h.hole p h1
      · cases h1
    · by_cases e : p = T.length
      · subst e; rw [self] at hl; injection hl with hl; subst hl; subst hl0; simp at h0
      · rw [same p e] at hl; exact h.blk p l hl h0
    · rcases getT p _ ho with ⟨hp, h1⟩ | ⟨hp, h1⟩
      · rcases getT q _ ho' with ⟨hq, h2⟩ | ⟨hq, h2⟩
        · rw [same p (by omega)] at hl; rw [same q (by omega)] at hl'
          exact h.sep p q o o' l l' h1 h2 hw hne hl hl' h0 h0'
        · subst hq; rw [self] at hl'; injection hl' with hl'; subst hl'; subst hl0; simp at h0'
      · subst hp; rw [self] at hl; injection hl with hl; subst hl; subst hl0; simp at h0
    · obtain ⟨h1, h2⟩ := h.glob b d hb
      exact ⟨fun h3 => h1 (hown b h3), h2⟩
    · rcases getT p _ ho with ⟨hp, h1⟩ | ⟨hp, h1⟩
      · rw [same p (by omega)] at hl
        exact (h.fam p o l h1 hl).sub hown
      · subst hp; rw [self] at hl; injection hl with hl; subst hl; subst hl0
        injection h1 with h1; subst h1
        intro Z hZ
        injection hZ with hZ; subst hZ
        exact ⟨rfl, fun i hi => by simp at hi⟩
  have hob := h.obj x _ lx hx hlx
  have hx1 : (T ++ [some (⟨.fam [], 0, true, eF⟩ : AObj)])[x]? = some (some ⟨.agg [v], gx, true, ex⟩) := by rw [List.getElem?_append_left hxlt]; exact hx
  have hlx1 : upd ν T.length l0 x = some lx := by rw [same x (by omega)]; exact hlx
  have hor : ObjRel (upd ν T.length l0) ⟨.frows T.length 0 [] [v], gx, true, ex⟩ lx w := by
    obtain ⟨_, h2, h3⟩ := hr1.obj x _ lx hx1 hlx1
    refine ⟨.frows _ _ _ _, ?_⟩
    rcases h3 with ⟨h3, h4⟩ | ⟨h3, _⟩ | ⟨h3, _⟩
    · obtain ⟨cur, c1, c2, c3⟩ := h4.row
      exact .inl ⟨rfl, ⟨⟨cur, c1, c2, c3⟩, h4.spot, h4.room⟩⟩
    · cases h3
    · simp [AVal.len] at h3
  obtain ⟨k1, k2⟩ := hr1.retell hx1 hlx1 (o' := ⟨.frows T.length 0 [] [v], gx, true, ex⟩) rfl id hor (FamOk.no rfl)
  exact ⟨_, k1, hm, fun b hb => hown b (k2 b hb)⟩
/-- the outcome, with only some objects, moved together -/
theorem To.gc {E : Env} {n k : Nat} {c : Code} {fm : Fm} {T : Tab} {ex : AExit} {fm1 : Fm} {T1 : Tab} (h : To E n k c fm T ex fm1 T1) (keep slots : List Nat) {f : Fm} (hb : okG k keep T1 = true) (hp : pickG keep fm1 slots = some f) {T2 : Tab} (e : gcT keep T1 = T2) : To E n k c fm T ex f T2 := by
  subst e
  intro rr D ν a w hs hrd
  refine wpIn_mono (h rr D ν a w hs hrd) fun e a' w' ⟨ex', fm', T', ν', e1, ⟨e2, e3, e4⟩, ⟨ms, s', mk⟩, n', f'⟩ => ?_
  subst e2 e3 e4
  exact ⟨_, f, Abs.gcT keep T', nuG keep ν', e1, ⟨rfl, rfl, rfl⟩, ⟨ms, s'.gc hb hp, mk⟩, n'.gc hb, f'.sub fun b hb => hb.gc⟩
end Go.Abs

set_option linter.unusedVariables false
set_option linter.unusedSimpArgs false
namespace Go.Abs
open Go.RowKit Go.WideShapes Go.ChangeShapes Go.ChangeAt
/-! ## Rows of laws: a slice of slices of bytes -/
section
variable {H : Type} {enc : TypeId × Value → H} {P : Program}
end
end Go.Abs

set_option linter.unusedVariables false
set_option linter.unusedSimpArgs false
namespace Go.Abs
/-! ## Nothing within an object, told as a slice of an empty object -/
theorem VRs.set1 {ν : Nu} {vs : List AVal} {xs : List Value} {j : Nat} {v : AVal} (h : VRs ν vs xs) (hv : ∀ x, VR ν (vs.getD j un) x → VR ν v x) : VRs ν (vs.set j v) xs := by
  refine ⟨by rw [List.length_set]; exact h.1, fun i hi => ?_⟩
  rw [List.length_set] at hi
  by_cases e : j = i
  · subst e
    rw [show (vs.set j v).getD j un = v by simp [List.getD, hi]]
    exact hv _ (h.2 j hi)
  · rw [show (vs.set j v).getD i un = vs.getD i un by simp [List.getD, List.getElem?_set, e]]
    exact h.2 i hi
theorem Conv.nilCell {gl : Nat → Option AVal} {T : Tab} {p g j sz : Nat} {ow : Bool} {et et2 : TypeId} {kk : IntKind} {vs : List AVal} (hp : T[p]? = some (some ⟨.agg vs, g, ow, et⟩)) (hj : vs[j]? = some .nilSlice)
    {T' : Tab} (e : T' = (T ++ [some (⟨.ints kk [], 0, true, et2⟩ : AObj)]).set p (some ⟨.agg (vs.set j (.slice sz T.length 0 0 0 none)), g, ow, et⟩)) : Conv gl [p] T T' := by
  subst e
  intro ν w h hi
  obtain ⟨lp, hlp⟩ := Option.isSome_iff_exists.1 (hi p (.head _))
  obtain ⟨l0, q1, q2, q3, q4, q5⟩ := h.pushEmpty kk et2
  have hplt := (List.getElem?_eq_some_iff.1 hp).1
  have hp1 : (T ++ [some (⟨.ints kk [], 0, true, et2⟩ : AObj)])[p]? = some (some ⟨.agg vs, g, ow, et⟩) := by rw [List.getElem?_append_left hplt]; exact hp
  have hlp1 : upd ν T.length l0 p = some lp := by rw [upd_other ν l0 (by omega)]; exact hlp
  have hd : vs.getD j un = .nilSlice := by simp [List.getD, hj]
  have hjlt : j < vs.length := (List.getElem?_eq_some_iff.1 hj).1
  have hv : ∀ x, VR (upd ν T.length l0) (vs.getD j un) x → VR (upd ν T.length l0) (.slice sz T.length 0 0 0 none) x := fun x hx => by
    rw [hd] at hx
    exact VR.nil_slice (upd_same _ _ _) q1 q2 (.inr rfl) hx
  have hor : ObjRel (upd ν T.length l0) ⟨.agg (vs.set j (.slice sz T.length 0 0 0 none)), g, ow, et⟩ lp w := by
    obtain ⟨_, h2, h3⟩ := q3.obj p _ lp hp1 hlp1
    refine ⟨.agg _, ?_⟩
    have hlen : (AVal.agg (vs.set j (.slice sz T.length 0 0 0 none))).len = (AVal.agg vs).len := by simp [AVal.len]
    rcases h3 with ⟨h3, h4⟩ | ⟨h3, h4, h5⟩ | ⟨h3, _⟩
    · obtain ⟨cur, c1, c2, c3⟩ := h4.row
      refine .inl ⟨h3, ⟨⟨cur, c1, c2, ?_⟩, h4.spot, by simp only [hlen]; exact h4.room⟩⟩
      simp only [hlen]
      exact VRs.set1 c3 hv
    · refine .inr (.inl ⟨h3, by simp only [hlen]; exact h4, fun i hi => ?_⟩)
      simp only [hlen] at hi
      obtain ⟨x, x1, x2⟩ := h5 i hi
      refine ⟨x, x1, ?_⟩
      show VR _ ((vs.set j (.slice sz T.length 0 0 0 none)).getD i un) x
      by_cases e : j = i
      · subst e
        rw [show (vs.set j (AVal.slice sz T.length 0 0 0 none)).getD j un = .slice sz T.length 0 0 0 none by simp [List.getD, hjlt]]
        exact hv x x2
      · rw [show (vs.set j (AVal.slice sz T.length 0 0 0 none)).getD i un = vs.getD i un by simp [List.getD, List.getElem?_set, e]]
        exact x2
    · simp [AVal.len] at h3; rw [h3] at hj; simp at hj
  obtain ⟨k1, k2⟩ := q3.retell hp1 hlp1 (o' := ⟨.agg (vs.set j (.slice sz T.length 0 0 0 none)), g, ow, et⟩) rfl id hor (FamOk.no rfl)
  exact ⟨_, k1, q4, fun b hb => q5 b (k2 b hb)⟩
end Go.Abs

set_option linter.unusedVariables false
set_option linter.unusedSimpArgs false
namespace Go.Abs
/-! ## a call that panics, a panic, a deferred call that recovers -/
def finP (x : Value) : Ending := .panicked [{ v := x, recovered := false }]
/-- a function that panics: its summary tells with what -/
def SumOkP (P : Program) (gl : Nat → Option AVal) (f : FuncId) (S : Summary) : Prop :=
  ∀ (args : List AVal) (T : Tab), allP (S args T).cs → ∀ (ν : Nu) (w : World) (vs : Array Value), HR gl ν T w → VRs ν args vs.toList →
    Calls P f vs w fun e w' => ∃ v, e = finP v ∧ OpPost gl ν T w T.length ⟨[], (S args T).val, (S args T).tab⟩ v w'
def SmOkP (P : Program) (gl : Nat → Option AVal) (f : FuncId) (sm : Summary) : Prop := ∀ args T0, allP (sm args T0).cs → SmallE finP P gl f args T0 (sm args T0).val (sm args T0).tab
theorem callR_okP {P : Program} {gl : Nat → Option AVal} {f : FuncId} {sm : Summary} (h : SmOkP P gl f sm) (wr : List Bool) : SumOkP P gl f (callR sm wr) := by
  intro args T hc ν w vs hr hv
  unfold callR at hc ⊢
  generalize reachGo T 1000 (idsVs [] args) [] = fps at hc ⊢
  unfold callF at hc ⊢
  cases hT0 : smallR T wr fps fps 0 with
  | none => rw [hT0] at hc; exact absurd hc (by simp [fail, allP, Con.h])
  | some T0 =>
    rw [hT0] at hc
    simp only at hc ⊢
    unfold callGoR at hc ⊢
    have h1 := h (rens (idxN fps) args) T0
    generalize sm (rens (idxN fps) args) T0 = r at h1 hc ⊢
    obtain ⟨cs, v, T1⟩ := r
    exact callGoN_ok hT0 h1 hc hr hv

def lookP : List (Nat × Summary) → Nat → Option Summary
  | [], _ => none
  | (g, S) :: r, f => match Nat.beq g f with
    | true => some S
    | false => lookP r f
def PsOk (P : Program) (gl : Nat → Option AVal) : List (Nat × Summary) → Prop
  | [] => True
  | (f, S) :: r => (SumOkP P gl f S ∧ ∃ fn, P.funcs[f]? = some fn ∧ (fn.name == "runtime.NumGoroutine") = false ∧ fn.body.isNone = false) ∧ PsOk P gl r
theorem PsOk.nil {P : Program} {gl : Nat → Option AVal} : PsOk P gl [] := trivial
theorem PsOk.cons {P : Program} {gl : Nat → Option AVal} {f : FuncId} {S : Summary} {l : List (Nat × Summary)} {fn : Func} (h : SumOkP P gl f S) (hf : P.funcs[f]? = some fn) (hn : (fn.name == "runtime.NumGoroutine") = false) (hb : fn.body.isNone = false) (hl : PsOk P gl l) : PsOk P gl ((f, S) :: l) := ⟨⟨h, fn, hf, hn, hb⟩, hl⟩
theorem PsOk.look {P : Program} {gl : Nat → Option AVal} : ∀ {l : List (Nat × Summary)}, PsOk P gl l → ∀ {f S}, lookP l f = some S → SumOkP P gl f S ∧ ∃ fn, P.funcs[f]? = some fn ∧ (fn.name == "runtime.NumGoroutine") = false ∧ fn.body.isNone = false
  | [], _, f, S, h => by cases h
  | (g, S') :: r, hl, f, S, h => by
    simp only [lookP] at h
    split at h
    · rename_i hb
      injection h with h; subst h
      rw [← Nat.eq_of_beq_eq_true hb]
      exact hl.1
    · exact hl.2.look h

def lastO : List Oper → Option (List Oper × Oper)
  | [] => none
  | o :: r => match lastO r with
    | some (l, x) => some (o :: l, x)
    | none => match r with
      | [] => some ([], o)
      | _ => none
theorem lastO_ok : ∀ {l a : List Oper} {x : Oper}, lastO l = some (a, x) → l = a ++ [x]
  | [], a, x, h => by cases h
  | o :: r, a, x, h => by
    simp only [lastO] at h
    split at h
    · rename_i l y hl
      injection h with h; injection h with h1 h2; subst h1 h2
      rw [lastO_ok hl]; rfl
    · split at h
      · injection h with h; injection h with h1 h2; subst h1 h2; rfl
      · cases h

/-- what the last operation comes to, if it panics -/
def panicLast (PS : List (Nat × Summary)) (o : Oper) (fm : Fm) (T : Tab) : Out :=
  match o.op with
  | .panic x => match evOf fm x with
    | some (.iface t (.int k m)) => ⟨[], .panic t k m, fm, T, []⟩
    | _ => failO
  | .call c => match c.callee, opts (evOf fm) c.args.toList with
    | .value f, some args => match evOf fm f with
      | some (.func (.func g) first captured) => match lookP PS g with
        | some S => match S (first ++ (args ++ captured)) T with
          | ⟨cs2, .iface t (.int k m), T2⟩ => ⟨cs2, .panic t k m, fm, T2, []⟩
          | _ => failO
        | none => failO
      | _ => failO
    | _, _ => failO
  | _ => failO
/-- a region whose last operation panics -/
def panicOps (E : Env) (PS : List (Nat × Summary)) (n : Nat) (ops : List Oper) (fm : Fm) (T : Tab) (ds : List (Option Bool)) : Out :=
  match lastO ops with
  | some (l1, o) => match o.guard with
    | none => seqO (runOps E ops n l1 fm (T ++ holes (cntA E l1)) T.length ds) (fun fm1 T1 _ => panicLast PS o fm1 T1)
    | some _ => failO
  | none => failO

section
variable {E : Env} {n k : Nat} {fm : Fm} {T : Tab} {post : AExit → Fm → Tab → Prop}
theorem panicOps_sound (hE : EnvOk E) {PS : List (Nat × Summary)} (hP : PsOk E.P E.gl PS) {id : Nat} {opsA : Array Oper} {ds : List (Option Bool)} (hc : allP (panicOps E PS n opsA.toList fm T ds).cs) :
    AWp E n k (.region id opsA false) fm T (Is (panicOps E PS n opsA.toList fm T ds)) := by
  generalize hR : panicOps E PS n opsA.toList fm T ds = R at hc ⊢
  unfold panicOps at hR
  split at hR
  rotate_left
  · subst hR; exact absurd hc failO_no
  rename_i l1 oy hl
  split at hR
  rotate_left
  · subst hR; exact absurd hc failO_no
  rename_i hg
  have hsp := lastO_ok hl
  intro rr D ν a w hs hrd
  refine wpIn_region_list ?_
  rw [hsp]
  refine wpListIn_app l1 a w ?_
  obtain ⟨g1, g2, g3⟩ := Holes_holes hs.hr (cntA E l1)
  rw [← show opsA.toList.toArray = opsA by simp]
  have hex := runOps_ex (E := E) (ops := opsA.toList) (n := n) l1 fm (T ++ holes (cntA E l1)) T.length ds
  rw [seqO_normal hex] at hR
  generalize ho : runOps E opsA.toList n l1 fm (T ++ holes (cntA E l1)) T.length ds = o1 at hR
  subst hR
  simp only [allP_append] at hc
  refine runOps_sound hE l1 ⟨g1, hs.fm, hs.size, hs.defers⟩ g3 (by rw [ho]; exact hc.1) fun ν1 a1 w1 s1 n1 f1 => ?_
  rw [ho] at s1 f1
  replace hc := hc.2
  have f1' : Fr (Own ν T) w (Own ν1 o1.tab) w1 := ⟨f1.os, f1.tape, f1.output, f1.size, fun b hb ho => f1.block b hb (fun h => ho (g2 b h)), fun b hb => (f1.own b hb).imp (g2 b) (fun h => h)⟩
  show wpListIn _ _ _ _ _ [oy] a1 w1
  unfold wpListIn
  rw [if_pos (by simp [Region.wanted, hg])]
  refine ⟨fun _ _ => trivial, ?_⟩
  generalize hQ : panicLast PS oy o1.fm o1.tab = Q at hc ⊢
  unfold panicLast at hQ
  split at hQ
  · -- a panic
    rename_i x hop
    split at hQ
    rotate_left
    · subst hQ; exact absurd hc failO_no
    rename_i t kk m hx
    subst hQ
    have hsem : oy.semAt (Fc rr).round a1.eval = execOp a1.eval oy := by
      cases rr with
      | none => exact Oper.semAt_none _ _
      | some l => exact Oper.semAt_some l _ _ (fun c h => by rw [hop] at h; cases h)
    have hxe : a1.eval x = .iface t (.int kk m) := by
      have := evOf_rel s1 x _ hx
      generalize a1.eval x = y at this
      cases this with
      | iface t h => cases h; rfl
    have hrun : (oy.semAt (Fc rr).round a1.eval).run E.P w1 = .halt (.panic (.iface t (.int kk m))) w1 := by
      rw [hsem]
      simp [execOp, hop, hxe, run_panic_iface]
    rw [hrun]
    exact ⟨.panic t kk m, o1.fm, o1.tab, ν1, rfl, ⟨rfl, rfl, rfl⟩, s1.m, n1.b k, f1'⟩
  · -- a call
    rename_i c hop
    split at hQ
    rotate_left
    · subst hQ; exact absurd hc failO_no
    rename_i f args hcal hargs
    split at hQ
    rotate_left
    · subst hQ; exact absurd hc failO_no
    rename_i g first captured hf
    split at hQ
    rotate_left
    · subst hQ; exact absurd hc failO_no
    rename_i S hS
    split at hQ
    rotate_left
    · subst hQ; exact absurd hc failO_no
    rename_i cs2 t kk m T2 hSr
    subst hQ
    obtain ⟨hSo, gfn, e1, e2, e3⟩ := hP.look hS
    have hsem : oy.semAt (Fc rr).round a1.eval = execOp a1.eval oy := by
      cases rr with
      | none => exact Oper.semAt_none _ _
      | some l => exact Oper.semAt_some l _ _ (fun c h => by rw [hop] at h; cases h)
    have hfv := evOf_rel s1 f _ hf
    have hargsV := opts_VRs (evOf_rel s1) hargs
    generalize hfe : a1.eval f = fe at hfv
    cases hfv with
    | func fnn h1 h2 h3 h4 =>
    rename_i xs ys
    have vf : VRs ν1 first xs.toList := ⟨by simpa using h1, fun i hi => by simpa using h2 i hi⟩
    have vc : VRs ν1 captured ys.toList := ⟨by simpa using h3, fun i hi => by simpa using h4 i hi⟩
    have vall : VRs ν1 (first ++ (args ++ captured)) (xs ++ (c.args.map a1.eval) ++ ys).toList := by
      have := vf.append (hargsV.append vc)
      simpa [List.append_assoc] using this
    have hcall := hSo (first ++ (args ++ captured)) o1.tab (by rw [hSr]; exact hc) ν1 w1 (xs ++ (c.args.map a1.eval) ++ ys) s1.hr vall
    have hrun : (oy.semAt (Fc rr).round a1.eval).run E.P w1 = .ok (.enter g (xs ++ (c.args.map a1.eval) ++ ys)) w1 := by
      rw [hsem]
      have g2' : ¬ gfn.name = "runtime.NumGoroutine" := by simpa using e2
      have g3' : ¬ gfn.body = none := by intro h; rw [h] at e3; cases e3
      simp [execOp, hop, resolve, hcal, hfe, Deferred.ofValue, invoke, callFunc, e1, g2', g3']
    rw [hrun]
    refine ⟨fun h => (Fc.depth h).elim, ?_⟩
    refine (calls_Fc hcall).mono ?_
    rintro e w' ⟨x, rfl, ⟨ν', p1, p2, p3, p4, p5⟩⟩
    rw [hSr] at p3 p4 p5
    simp only at p3 p4 p5
    have hx : x = .iface t (.int kk m) := by
      cases p3 with
      | iface t h => cases h; rfl
    subst hx
    have s2 : SRel E D ν' o1.fm T2 n a1 w' := ⟨p4, fun t' u hu => (s1.fm t' u hu).mono p1, s1.size, s1.defers⟩
    exact ⟨.panic t kk m, o1.fm, T2, ν', rfl, ⟨rfl, rfl, rfl⟩, s2.m, (n1.b k).trans (p1.b k), f1'.trans p5⟩
  · subst hQ; exact absurd hc failO_no

/-- a piece of code that panics at once -/
def panicCode (E : Env) (PS : List (Nat × Summary)) (n : Nat) : Code → Fm → Tab → List (Option Bool) → Out
  | .region _ ops false, fm, T, ds => panicOps E PS n ops.toList fm T ds
  | .seq a _, fm, T, ds => panicCode E PS n a fm T ds
  | .block _ a, fm, T, ds => panicCode E PS n a fm T ds
  | .cond x a b, fm, T, ds => match evOf fm x with
    | some (.bool true) => panicCode E PS n a fm T ds
    | some (.bool false) => panicCode E PS n b fm T ds
    | _ => failO
  | _, _, _, _ => failO
def isP : AExit → Bool
  | .panic _ _ _ => true
  | _ => false
theorem panicCode_sound (hE : EnvOk E) {PS : List (Nat × Summary)} (hP : PsOk E.P E.gl PS) : ∀ (c : Code) {fm : Fm} {T : Tab} {ds : List (Option Bool)}, allP (panicCode E PS n c fm T ds).cs → isP (panicCode E PS n c fm T ds).ex = true →
    AWp E n k c fm T (Is (panicCode E PS n c fm T ds)) := by
  intro c
  induction c with
  | region id ops dr =>
    intro fm T ds hc hx
    cases dr with
    | true => exact absurd hc failO_no
    | false => exact panicOps_sound hE hP hc
  | seq a b iha ihb =>
    intro fm T ds hc hx
    refine AWp.seq ((iha hc hx).mono fun ex fm' T' ⟨h1, h2, h3⟩ => ?_)
    subst h1 h2 h3
    simp only [panicCode] at hx ⊢
    generalize panicCode E PS n a fm T ds = o at hx
    obtain ⟨cs, ex, fm1, T1, ds1⟩ := o
    cases ex with
    | panic t0 k0 n0 => exact ⟨rfl, rfl, rfl⟩
    | _ => cases hx
  | block id a iha =>
    intro fm T ds hc hx
    refine AWp.block ((iha hc hx).mono fun ex fm' T' ⟨h1, h2, h3⟩ => ?_)
    subst h1 h2 h3
    simp only [panicCode] at hx ⊢
    generalize panicCode E PS n a fm T ds = o at hx
    obtain ⟨cs, ex, fm1, T1, ds1⟩ := o
    cases ex with
    | panic t0 k0 n0 => exact ⟨rfl, rfl, rfl⟩
    | _ => cases hx
  | cond x a b iha ihb =>
    intro fm T ds hc hx
    simp only [panicCode] at hc hx ⊢
    generalize hv : evOf fm x = ev at hc hx ⊢
    match ev, hv, hc, hx with
    | some (.bool true), hv, hc, hx => exact AWp.cond hv (fun _ => iha hc hx) (fun h => by cases h)
    | some (.bool false), hv, hc, hx => exact AWp.cond hv (fun h => by cases h) (fun _ => ihb hc hx)
  | _ => intro fm T ds hc hx; exact absurd hc failO_no

/-- the first codes of a body, and then a panic -/
def panicRun (E : Env) (PS : List (Nat × Summary)) (n kb f j : Nat) (c : Code) (fm : Fm) (T : Tab) (ds : List (Option Bool)) : Out :=
  match runs E n ⟨kb, []⟩ f (frontC j c) fm T ds with
  | ⟨cs, .normal, fm1, T1, ds1⟩ => match panicCode E PS n (backC j c) fm1 T1 ds1 with
    | ⟨cs2, ex, fm2, T2, ds2⟩ => ⟨cs ++ cs2, ex, fm2, T2, ds2⟩
  | _ => failO
theorem AWp.panics (hE : EnvOk E) (hm : E.P.follows .mixedOrders = true) {PS : List (Nat × Summary)} (hP : PsOk E.P E.gl PS) {f j : Nat} {c : Code} {ds : List (Option Bool)} {o : Out} (ho : panicRun E PS n k f j c fm T ds = o) (hc : Ok o) (hx : isP o.ex = true) (hp : post o.ex o.fm o.tab) : AWp E n k c fm T post := by
  unfold panicRun at ho
  generalize hr : runs E n ⟨k, []⟩ f (frontC j c) fm T ds = r at ho
  obtain ⟨cs, ex, fm1, T1, ds1⟩ := r
  cases ex with
  | normal =>
    simp only at ho
    generalize hq : panicCode E PS n (backC j c) fm1 T1 ds1 = q at ho
    obtain ⟨cs2, ex2, fm2, T2, ds2⟩ := q
    subst ho
    have hc := hc.h
    rw [allP_append] at hc
    refine AWp.cut hE hm j hr ⟨hc.1⟩ rfl ?_
    have := panicCode_sound (k := k) hE hP (backC j c) (fm := fm1) (T := T1) (ds := ds1) (by rw [hq]; exact hc.2) (by rw [hq]; exact hx)
    rw [hq] at this
    refine this.mono fun ex fm' T' ⟨h1, h2, h3⟩ => ?_
    subst h1 h2 h3
    exact hp
  | _ => subst ho; exact absurd hc.h failO_no
end

/-- a contract: the function panics -/
theorem smallP_of_awp {E : Env} (hE : EnvOk E) {f : FuncId} {fn : Func} {c : Code} (hf : E.P.funcs[f]? = some fn) (hb : fn.body = some c) {args : List AVal} {T0 : Tab} {t : TypeId} {kk : IntKind} {m : Int} {T1 : Tab} (hle : Nat.ble args.length fn.ntmps = true)
    (h : AWp E fn.ntmps T0.length c (argF args 0) T0 fun ex fm T => ex = .panic t kk m ∧ T = T1) : SmallE finP E.P E.gl f args T0 (.iface t (.int kk m)) T1 := by
  intro ν w vs hr hv
  refine callsIn_wide.1 (callsIn_of_wp_marks (F := Fence.wide) (n := 0) hf hb trivial ?_)
  have hs : SRel E [] ν (argF args 0) T0 fn.ntmps { tmps := vs ++ Array.replicate (fn.ntmps - vs.size) undef, defers := [] } w := by
    refine ⟨hr, fun t v hl => ?_, by simp; omega, rfl⟩
    obtain ⟨h1, h2, h3⟩ := argF_look hv hl
    simp only [Nat.sub_zero] at h2 h3
    have : (vs ++ Array.replicate (fn.ntmps - vs.size) undef).getD t undef = vs.toList.getD t undef := by
      have h2' : t < vs.size := by simpa using h2
      simp [Array.getElem?_append_left h2', List.getD]
    rw [this]; exact h3
  refine wpIn_mono (h none [] ν _ w hs (fun l h => by cases h)) fun e a' w' hP => ?_
  obtain ⟨ex, fm', T', ν', e1, ⟨hex, hT⟩, ⟨ms, s', mk⟩, n', f'⟩ := hP
  subst e1 hT hex
  show LeavesInM Fence.wide 0 E.P fn a'.tmps _ a'.defers (.panicking _) w'
  have hd : a'.defers = ms := by rw [s'.defers, List.append_nil]
  rw [hd]
  have key : ∀ (ms : List Deferred) (w2 : World), (∀ d ∈ ms, ∃ r, d = { target := .collected r, args := #[] } ∧ w.heap.size ≤ r ∧ w2.heap[r]? = some (.deferred (some []))) → ms.Nodup → Sh w.heap.size w' w2 →
      LeavesInM Fence.wide 0 E.P fn a'.tmps (fun e w' => ∃ x ν', e = finP x ∧ VR ν' (.iface t (.int kk m)) x ∧ HR E.gl ν' T' w' ∧ NuLeB T0.length ν ν' ∧ Fr (Own ν T0) w (Own ν' T') w') ms (.panicking [{ v := .iface t (.int kk m), recovered := false }]) w2 := by
    intro ms
    induction ms with
    | nil =>
      intro w2 _ _ hsh
      exact ⟨.iface t (.int kk m), ν', rfl, .iface t (.int kk m), s'.hr.sh hsh, n', f'.sh rfl hsh⟩
    | cons d ms ih =>
      intro w2 h hn hsh
      obtain ⟨hn1, hn2⟩ := List.nodup_cons.1 hn
      obtain ⟨r, rfl, h1, h2⟩ := h d (.head _)
      refine ⟨by simp, .inl ⟨r, w2.putObj r (.deferred none), rfl, run_takeDeferred h2, ih _ (fun d hd => ?_) hn2 (hsh.put h1 h2)⟩⟩
      obtain ⟨r', e, g1, g2⟩ := h d (.tail _ hd)
      refine ⟨r', e, g1, ?_⟩
      simp only [World.putObj]
      rw [Array.getElem?_setIfInBounds_ne (fun he => hn1 (by rw [he, ← e]; exact hd))]
      exact g2
  exact key ms w' mk.1 mk.2 (Sh.refl _ _)

/-- a function's panicking run, as a summary -/
def fnRunP (E : Env) (PS : List (Nat × Summary)) (fn : Func) (f j : Nat) (args : List AVal) (T0 : Tab) (ds : List (Option Bool)) : Res :=
  match Nat.ble args.length fn.ntmps, fn.body with
  | true, some c => match panicRun E PS fn.ntmps T0.length f j c (argF args 0) T0 ds with
    | ⟨cs, .panic t k m, _, T, _⟩ => ⟨cs, .iface t (.int k m), T⟩
    | _ => fail
  | _, _ => fail
theorem fnRunP_small {E : Env} (hE : EnvOk E) (hm : E.P.follows .mixedOrders = true) {PS : List (Nat × Summary)} (hP : PsOk E.P E.gl PS) {f : FuncId} {fn : Func} (hf : E.P.funcs[f]? = some fn) {fu j : Nat} {args : List AVal} {T0 : Tab} {ds : List (Option Bool)} (hc : allP (fnRunP E PS fn fu j args T0 ds).cs) :
    SmallE finP E.P E.gl f args T0 (fnRunP E PS fn fu j args T0 ds).val (fnRunP E PS fn fu j args T0 ds).tab := by
  generalize hR : fnRunP E PS fn fu j args T0 ds = R at hc ⊢
  unfold fnRunP at hR
  split at hR
  rotate_left
  · subst hR; exact absurd hc (by simp [fail, allP, Con.h])
  rename_i c hle hb
  split at hR
  rotate_left
  · subst hR; exact absurd hc (by simp [fail, allP, Con.h])
  rename_i cs t kk m fm T ds' hrun
  subst hR
  exact smallP_of_awp hE hf hb hle (AWp.panics hE hm hP hrun ⟨hc⟩ rfl ⟨rfl, rfl⟩)
end Go.Abs

set_option linter.unusedVariables false
set_option linter.unusedSimpArgs false
namespace Go.Abs
/-! ## a function that defers, at its beginning, the call of one that recovers -/
/-- the deferred function: it does nothing when nothing was given up; else it lays the error where it was told to -/
structure CaughtOk (P : Program) (g : FuncId) (t : TypeId) (kk : IntKind) : Prop where
  ret : ∀ (p : Value) (w : World), CallsDIn Fence.wide 0 P g #[p] .returning w fun e u' w' => e = .returned (.tuple #[]) ∧ u' = .returning ∧ w' = w
  pan : ∀ (a : Addr) (m : Int) (w w' : World), (Instr.storeAt t (.pointer (some a)) (.int kk m)).run P w = .ok () w' →
    CallsDIn Fence.wide 0 P g #[.pointer (some a)] (.panicking [{ v := .iface t (.int kk m), recovered := false }]) w fun e u' w'' => e = .returned (.tuple #[]) ∧ u' = .panicking [{ v := .iface t (.int kk m), recovered := true }] ∧ w'' = w'

theorem leaves_marksT {P : Program} {fn : Func} {tmps : Array Value} {R : Ending → World → Prop} {B : Nat} {w0 : World} {ds : List Deferred} {u : FrameMode} (hu : u ≠ .run) : ∀ (ms : List Deferred) (w : World), (∀ d ∈ ms, ∃ r, d = { target := .collected r, args := #[] } ∧ B ≤ r ∧ w.heap[r]? = some (.deferred (some []))) → ms.Nodup → Sh B w0 w →
    (∀ w', Sh B w0 w' → LeavesInM Fence.wide 0 P fn tmps R ds u w') → LeavesInM Fence.wide 0 P fn tmps R (ms ++ ds) u w
  | [], w, h, hn, hs, hR => hR w hs
  | d :: ms, w, h, hn, hs, hR => by
    obtain ⟨hn1, hn2⟩ := List.nodup_cons.1 hn
    obtain ⟨r, rfl, h1, h2⟩ := h d (.head _)
    refine ⟨hu, .inl ⟨r, w.putObj r (.deferred none), rfl, run_takeDeferred h2, leaves_marksT hu ms _ (fun d hd => ?_) hn2 (hs.put h1 h2) hR⟩⟩
    obtain ⟨r', e, g1, g2⟩ := h d (.tail _ hd)
    refine ⟨r', e, g1, ?_⟩
    simp only [World.putObj]
    rw [Array.getElem?_setIfInBounds_ne (fun he => hn1 (by rw [he, ← e]; exact hd))]
    exact g2

/-- what is left of the two exits -/
def DefEnd (E : Env) (rs : List ResultVar) (t : TypeId) (kk : IntKind) (pv : AVal) (v : AVal) (T1 : Tab) (ex : AExit) (fm : Fm) (T : Tab) : Prop :=
  ((ex = .normal ∨ ex = .ret) ∧ ∃ cs us, aRes E fm T rs = some (cs, us) ∧ allP cs ∧ retV us = v ∧ T = T1) ∨
  (∃ m cs us, ex = .panic t kk m ∧ allP (aStore E t pv (.int kk m) T).cs ∧ aRes E fm (aStore E t pv (.int kk m) T).tab rs = some (cs, us) ∧ allP cs ∧ retV us = v ∧ (aStore E t pv (.int kk m) T).tab = T1)

theorem small_of_defer {E : Env} (hE : EnvOk E) {f : FuncId} {fn : Func} (hf : E.P.funcs[f]? = some fn) {id0 id1 : Nat} {ops0 ops1 : Array Oper} {rest : Code} (hb : fn.body = some (.seq (.region id0 ops0 false) (.seq (.region id1 ops1 false) rest)))
    {args : List AVal} {T0 : Tab} {v : AVal} {T1 : Tab} (hle : Nat.ble args.length fn.ntmps = true)
    {ds : List (Option Bool)} {o : Out} (ho : runOps E ops0.toList fn.ntmps ops0.toList (argF args 0) (T0 ++ holes (cntA E ops0.toList)) T0.length ds = o) (hc : Ok o)
    {od : Oper} {cd : Call} (hops : ops1.toList = [od]) (hod : od.op = .defer cd) (hg : od.guard = none) (hdst : od.dst = none) {g : FuncId} (hcal : cd.callee = .value (.func g)) {s : Tmp} (hca : cd.args = #[.tmp s])
    {gfn : Func} (hgf : E.P.funcs[g]? = some gfn) (hgn : (gfn.name == "runtime.NumGoroutine") = false) (hgb : gfn.body.isNone = false)
    {pe ge : Nat} (hs0 : look o.fm s = some (.var pe ge)) (hlt : Nat.blt pe o.tab.length = true) (hoe : (match nth o.tab pe with | some o => Nat.beq o.g ge | none => false) = true)
    {t : TypeId} {kk : IntKind} (hC : CaughtOk E.P g t kk)
    (h : AWp E fn.ntmps o.tab.length rest o.fm o.tab (DefEnd E fn.results.toList t kk (.var pe ge) v T1)) : Small E.P E.gl f args T0 v T1 := by
  intro ν w vs hr hv
  refine callsIn_wide.1 (callsIn_of_wp_marks (F := Fence.wide) (n := 0) hf hb trivial ?_)
  have hs : SRel E [] ν (argF args 0) T0 fn.ntmps { tmps := vs ++ Array.replicate (fn.ntmps - vs.size) undef, defers := [] } w := by
    refine ⟨hr, fun t v hl => ?_, by simp; omega, rfl⟩
    obtain ⟨h1, h2, h3⟩ := argF_look hv hl
    simp only [Nat.sub_zero] at h2 h3
    have : (vs ++ Array.replicate (fn.ntmps - vs.size) undef).getD t undef = vs.toList.getD t undef := by
      have h2' : t < vs.size := by simpa using h2
      simp [Array.getElem?_append_left h2', List.getD]
    rw [this]; exact h3
  refine wpIn_seq (wpIn_region_list (F := Fc none) ?_)
  obtain ⟨g1, g2, g3⟩ := Holes_holes hs.hr (cntA E ops0.toList)
  rw [← show ops0.toList.toArray = ops0 by simp]
  refine runOps_sound hE ops0.toList (ds := ds) ⟨g1, hs.fm, hs.size, hs.defers⟩ g3 (by rw [ho]; exact hc.h) fun ν1 a1 w1 s1 n1 f1 => ?_
  rw [ho] at s1 f1
  have f1' : Fr (Own ν T0) w (Own ν1 o.tab) w1 := ⟨f1.os, f1.tape, f1.output, f1.size, fun b hb ho => f1.block b hb (fun h => ho (g2 b h)), fun b hb => (f1.own b hb).imp (g2 b) (fun h => h)⟩
  refine wpIn_seq (wpIn_region_list (F := Fc none) ?_)
  rw [hops]
  unfold wpListIn
  rw [if_pos (by simp [Region.wanted, hg])]
  refine ⟨fun _ _ => trivial, ?_⟩
  have hrun : (od.semAt (Fc none).round a1.eval).run E.P w1 = .ok (.defer { target := .fn (.func g) #[], args := #[a1.eval (.tmp s)] }) w1 := by
    show (od.semAt none a1.eval).run E.P w1 = _
    rw [Oper.semAt_none]
    have hfe : a1.eval (.func g) = .func (.func g) #[] #[] := rfl
    simp [execOp, hod, resolve, hcal, hca, hfe, Deferred.ofValue]
  rw [hrun]
  rw [Oper.uponIn_defer, hdst]
  show wpListIn _ _ _ _ _ [] _ _
  unfold wpListIn
  generalize hd : ({ target := .fn (.func g) #[], args := #[a1.eval (.tmp s)] } : Deferred) = d
  -- the rest
  have s2 : SRel E [d] ν1 o.fm o.tab fn.ntmps { a1 with defers := d :: a1.defers } w1 := ⟨s1.hr, s1.fm, s1.size, by show d :: a1.defers = [d]; rw [s1.defers]⟩
  refine wpIn_mono (h none [d] ν1 _ w1 s2 (fun l h => by cases h)) fun e a' w' hP => ?_
  obtain ⟨ex, fm', T', ν', e1, hend, ⟨ms, s', mk⟩, n', f'⟩ := hP
  have hlt' : pe < o.tab.length := by simpa using hlt
  have hx1 : VR ν1 (.var pe ge) (a1.eval (.tmp s)) := s1.fm s _ hs0
  have hdef : a'.defers = ms ++ [d] := s'.defers
  have n2 : NuLeB T0.length ν ν' := by
    intro p hp l hl
    obtain ⟨l1, h1, r1⟩ := n1 p l hl
    have hpo : p < o.tab.length := s1.hr.lt p l1 h1
    obtain ⟨l2, h2, r2⟩ := n' p hpo l1 h1
    refine ⟨l2, h2, ?_⟩
    rcases r1 with r1 | ⟨r1, r1', r1'', r1'''⟩ <;> rcases r2 with r2 | ⟨r2, r2', r2'', r2'''⟩
    · exact .inl (by omega)
    · exact .inl (by omega)
    · exact .inl (by omega)
    · exact .inr ⟨r1.trans r2, r1'.trans r2', r1''.trans r2'', r1'''.trans r2'''⟩
  have invk : ∀ w2 : World, (invoke d.target d.args).run E.P w2 = .ok (.enter g #[a1.eval (.tmp s)]) w2 := by
    intro w2
    subst hd
    have g2' : ¬ gfn.name = "runtime.NumGoroutine" := by simpa using hgn
    have g3' : ¬ gfn.body = none := by intro h; rw [h] at hgb; cases hgb
    simp [invoke, callFunc, hgf, g2', g3']
  have resOf : ∀ (w2 : World) (T2 : Tab) (cs : List Con) (us : List AVal), HR E.gl ν' T2 w2 → aRes E fm' T2 fn.results.toList = some (cs, us) → allP cs →
      ∃ x, (results fn a'.tmps).run E.P w2 = .ok x w2 ∧ VR ν' (retV us) x := by
    intro w2 T2 cs us hr2 h2 h3
    have s2 : SRel E (ms ++ [d]) ν' fm' T2 fn.ntmps a' w2 := ⟨hr2, s'.fm, s'.size, s'.defers⟩
    obtain ⟨xs, q1, q2⟩ := aRes_sound hE s2 h2 h3
    refine ⟨_, ?_, retV_VR q2⟩
    have : (fn.results.mapM (resF a'.tmps)).run E.P w2 = .ok xs.toArray w2 := by
      rw [Array.mapM_eq_mapM_toList]
      simp [q1]
    unfold results
    rw [Sem.run_bind]
    refine (congrArg (fun r => Result.andThen r _) ((congrArg (fun g => Sem.run E.P (Array.mapM g fn.results) w2) (funext fun x => ?_)).trans this)).trans rfl
    cases x <;> rfl
  rcases hend with ⟨hex, cs, us, h2, h3, hu, hT⟩ | ⟨m, cs, us, hex, h1, h2, h3, hu, hT⟩
  · have key : LeavesInM Fence.wide 0 E.P fn a'.tmps (fun e w' => ∃ x ν', e = .returned x ∧ VR ν' v x ∧ HR E.gl ν' T1 w' ∧ NuLeB T0.length ν ν' ∧ Fr (Own ν T0) w (Own ν' T1) w') a'.defers .returning w' := by
      rw [hdef]
      refine leaves_marksT (w0 := w') (B := w1.heap.size) (by simp) ms w' mk.1 mk.2 (Sh.refl w1.heap.size w') fun w2 hsh => ?_
      refine ⟨by simp, .inr ⟨fun h => (Fc.depth (r := none) h).elim, .func g, #[], g, _, by subst hd; rfl, invk w2, fun _ _ => trivial, ?_⟩⟩
      refine (hC.ret _ w2).mono ?_
      rintro e u' w3 ⟨rfl, rfl, rfl⟩
      show LeavesInM Fence.wide 0 E.P fn a'.tmps _ [] (Go.settle .returning) w3
      subst hT hu
      obtain ⟨x, q1, q2⟩ := resOf w3 T' cs us (s'.hr.sh hsh) h2 h3
      exact ⟨x, q1, x, ν', rfl, q2, s'.hr.sh hsh, n2, f1'.trans (f'.sh rfl hsh)⟩
    subst e1
    rcases hex with rfl | rfl
    · exact key
    · exact key
  · subst hex e1
    show LeavesInM Fence.wide 0 E.P fn a'.tmps _ a'.defers (.panicking _) w'
    rw [hdef]
    refine leaves_marksT (w0 := w') (B := w1.heap.size) (by simp) ms w' mk.1 mk.2 (Sh.refl w1.heap.size w') fun w2 hsh => ?_
    refine ⟨by simp, .inr ⟨fun h => (Fc.depth (r := none) h).elim, .func g, #[], g, _, by subst hd; rfl, invk w2, fun _ _ => trivial, ?_⟩⟩
    -- the pointer, once more
    have hr2 := s'.hr.sh hsh
    have hx2 : VR ν' (.var pe ge) (a1.eval (.tmp s)) := by
      generalize a1.eval (.tmp s) = y at hx1
      cases hx1 with
      | var hl hg =>
        obtain ⟨l', hl', r⟩ := n' pe hlt' _ hl
        rcases r with r | ⟨r, ra, _, _⟩
        · exact .varOld _ rfl hl' (by omega)
        · rw [ra]; exact .var hl' (by omega)
      | varOld x hx hl hg =>
        obtain ⟨l', hl', r⟩ := n' pe hlt' _ hl
        exact .varOld _ hx hl' (by rcases r with r | ⟨r, _⟩ <;> omega)
    -- it is a pointer
    have hadr : ∃ a, a1.eval (.tmp s) = .pointer (some a) := by
      generalize a1.eval (.tmp s) = y at hx1
      cases hx1 with
      | var hl hg => exact ⟨_, rfl⟩
      | varOld x hx hl hg =>
        rename_i l
        exfalso
        split at hoe
        · rename_i oo hoo
          have := (s1.hr.obj pe oo l (nth_some hoo) hl).1
          have := Nat.eq_of_beq_eq_true hoe
          omega
        · cases hoe
    obtain ⟨ad, had⟩ := hadr
    rw [had] at hx2 ⊢
    obtain ⟨w3, q1, q2, q3, q4⟩ := aStore_sound hE h1 hr2 hx2 (.int kk m)
    refine (hC.pan ad m w2 w3 q1).mono ?_
    rintro e u' w4 ⟨rfl, rfl, rfl⟩
    show LeavesInM Fence.wide 0 E.P fn a'.tmps _ [] (Go.settle (.panicking [{ v := .iface t (.int kk m), recovered := true }])) w4
    have hset : Go.settle (.panicking [{ v := .iface t (.int kk m), recovered := true }]) = .returning := rfl
    rw [hset]
    subst hT hu
    obtain ⟨x, y1, y2⟩ := resOf w4 _ cs us q3 h2 h3
    exact ⟨x, y1, x, ν', rfl, y2, q3, n2, f1'.trans ((f'.sh rfl hsh).trans q4)⟩
end Go.Abs

set_option linter.unusedVariables false
set_option linter.unusedSimpArgs false
namespace Go.Abs
/-! ## a deferring function's run, as one result -/
def deferParts : Code → Option (List Oper × List Oper × Code)
  | .seq (.region _ o0 false) (.seq (.region _ o1 false) rest) => some (o0.toList, o1.toList, rest)
  | _ => none
def deferSlot : List Oper → Option (Nat × Nat)
  | [⟨none, .defer c, _, _, _, none⟩] => match c.callee, c.args.toList with
    | .value (.func g), [.tmp s] => some (g, s)
    | _, _ => none
  | _ => none
def varG (T : Tab) : Option AVal → Option (Nat × Nat)
  | some (.var p g) => match nth T p with
    | some o => match Nat.beq o.g g with
      | true => some (p, g)
      | false => none
    | none => none
  | _ => none
/-- what the body's rest comes to, the deferred call behind it -/
def endD (E : Env) (rs : List ResultVar) (t : TypeId) (pv : AVal) (o : Out) : Res :=
  match o with
  | ⟨cs, .normal, fm, T, _⟩ => match aRes E fm T rs with
    | some (cs2, us) => ⟨cs ++ cs2, retV us, T⟩
    | none => fail
  | ⟨cs, .ret, fm, T, _⟩ => match aRes E fm T rs with
    | some (cs2, us) => ⟨cs ++ cs2, retV us, T⟩
    | none => fail
  | ⟨cs, .panic t' .i64 m, fm, T, _⟩ => match Nat.beq t' t with
    | true => match aStore E t pv (.int .i64 m) T with
      | ⟨cs3, _, T3⟩ => match aRes E fm T3 rs with
        | some (cs2, us) => ⟨cs ++ (cs3 ++ cs2), retV us, T3⟩
        | none => fail
    | false => fail
  | _ => fail
def fnRunD (E : Env) (PS : List (Nat × Summary)) (fn : Func) (orc : OrcL) (fu : Nat) (j : Option Nat) (g t : Nat) (args : List AVal) (T0 : Tab) (ds : List (Option Bool)) : Res :=
  match Nat.ble args.length fn.ntmps, deferParts (bodyOf fn) with
  | true, some (l0, l1, rest) => match deferSlot l1, runOps E l0 fn.ntmps l0 (argF args 0) (T0 ++ holes (cntA E l0)) T0.length ds with
    | some (g', s), ⟨cs0, .normal, fm0, To, ds0⟩ => match Nat.beq g' g, varG To (look fm0 s) with
      | true, some (pe, ge) => match endD E fn.results.toList t (.var pe ge) (match j with
          | none => run E fn.ntmps ⟨To.length, orc⟩ fu rest fm0 To ds0
          | some j => panicRun E PS fn.ntmps To.length fu j rest fm0 To ds0) with
        | ⟨cs, v, T⟩ => ⟨cs0 ++ cs, v, T⟩
      | _, _ => fail
    | _, _ => fail
  | _, _ => fail

theorem deferParts_ok {c rest : Code} {l0 l1 : List Oper} (h : deferParts c = some (l0, l1, rest)) : ∃ i0 a0 i1 a1, c = .seq (.region i0 a0 false) (.seq (.region i1 a1 false) rest) ∧ a0.toList = l0 ∧ a1.toList = l1 := by
  unfold deferParts at h
  split at h
  · rename_i i0 o0 i1 o1 r
    injection h with h; injection h with h1 h2; injection h2 with h2 h3
    subst h1 h2 h3
    exact ⟨i0, o0, i1, o1, rfl, rfl, rfl⟩
  · cases h
theorem deferSlot_ok {l : List Oper} {g s : Nat} (h : deferSlot l = some (g, s)) : ∃ od cd, l = [od] ∧ od.op = .defer cd ∧ od.guard = none ∧ od.dst = none ∧ cd.callee = .value (.func g) ∧ cd.args = #[.tmp s] := by
  unfold deferSlot at h
  split at h
  · rename_i c a b d
    split at h
    · rename_i g' s' h1 h2
      injection h with h; injection h with e1 e2; subst e1 e2
      refine ⟨_, c, rfl, rfl, rfl, rfl, h1, ?_⟩
      rw [← show c.args.toList.toArray = c.args by simp, h2]
    · cases h
  · cases h
theorem varG_ok {T : Tab} {v : Option AVal} {p g : Nat} (h : varG T v = some (p, g)) : v = some (.var p g) ∧ ∃ o, nth T p = some o ∧ Nat.beq o.g g = true := by
  unfold varG at h
  split at h
  · rename_i p' g'
    split at h
    · rename_i o ho
      split at h
      · rename_i hb
        injection h with h; injection h with e1 e2; subst e1 e2
        exact ⟨rfl, o, ho, hb⟩
      · cases h
    · cases h
  · cases h
theorem endD_ok {E : Env} {rs : List ResultVar} {t : TypeId} {pv : AVal} {o : Out} (h : allP (endD E rs t pv o).cs) :
    allP o.cs ∧ DefEnd E rs t .i64 pv (endD E rs t pv o).val (endD E rs t pv o).tab o.ex o.fm o.tab := by
  generalize hR : endD E rs t pv o = R at h ⊢
  unfold endD at hR
  split at hR
  · split at hR
    · rename_i cs2 us h2
      subst hR
      simp only [allP_append] at h
      exact ⟨h.1, .inl ⟨.inl rfl, cs2, us, h2, h.2, rfl, rfl⟩⟩
    · subst hR; exact absurd h nofail
  · split at hR
    · rename_i cs2 us h2
      subst hR
      simp only [allP_append] at h
      exact ⟨h.1, .inl ⟨.inr rfl, cs2, us, h2, h.2, rfl, rfl⟩⟩
    · subst hR; exact absurd h nofail
  · rename_i cs t' m fm T ds
    split at hR
    · rename_i hb
      split at hR
      rename_i cs3 v3 T3 hst
      split at hR
      · rename_i cs2 us h2
        subst hR
        simp only [allP_append] at h
        rw [Nat.eq_of_beq_eq_true hb]
        refine ⟨h.1, .inr ⟨m, cs2, us, rfl, by rw [hst]; exact h.2.1, by rw [hst]; exact h2, h.2.2, rfl, by rw [hst]⟩⟩
      · subst hR; exact absurd h nofail
    · subst hR; exact absurd h nofail
  · subst hR; exact absurd h nofail

theorem fnRunD_small {E : Env} (hE : EnvOk E) (hm : E.P.follows .mixedOrders = true) {PS : List (Nat × Summary)} (hP : PsOk E.P E.gl PS) {f : FuncId} {fn : Func} (hf : E.P.funcs[f]? = some fn) (hb : fn.body.isSome = true) {orc : OrcL} (hO : FnOrc E fn orc)
    {g : FuncId} {gfn : Func} (hgf : E.P.funcs[g]? = some gfn) (hgn : (gfn.name == "runtime.NumGoroutine") = false) (hgb : gfn.body.isNone = false) {t : TypeId} (hC : CaughtOk E.P g t .i64)
    {fu : Nat} {j : Option Nat} {args : List AVal} {T0 : Tab} {ds : List (Option Bool)} (hc : allP (fnRunD E PS fn orc fu j g t args T0 ds).cs) :
    Small E.P E.gl f args T0 (fnRunD E PS fn orc fu j g t args T0 ds).val (fnRunD E PS fn orc fu j g t args T0 ds).tab := by
  generalize hR : fnRunD E PS fn orc fu j g t args T0 ds = R at hc ⊢
  unfold fnRunD at hR
  split at hR
  rotate_left
  · subst hR; exact absurd hc nofail
  rename_i l0 l1 rest hle hparts
  split at hR
  rotate_left
  · subst hR; exact absurd hc nofail
  rename_i g' s cs0 fm0 To ds0 hslot hrun
  split at hR
  rotate_left
  · subst hR; exact absurd hc nofail
  rename_i pe ge hgg hvar
  have hgg := Nat.eq_of_beq_eq_true hgg
  subst hgg
  obtain ⟨i0, a0, i1, a1, hbody, ha0, ha1⟩ := deferParts_ok hparts
  obtain ⟨od, cd, k1, k2, k3, k4, k5, k6⟩ := deferSlot_ok hslot
  obtain ⟨v1, oo, v2, v3⟩ := varG_ok hvar
  subst ha0
  have hin := nth_some v2
  have hlt : Nat.blt pe To.length = true := by
    have := (List.getElem?_eq_some_iff.1 hin).1
    simpa using this
  have hb2 := bodyOf_some hb
  rw [hbody] at hb2
  generalize hend : (match j with
          | none => run E fn.ntmps ⟨To.length, orc⟩ fu rest fm0 To ds0
          | some j => panicRun E PS fn.ntmps To.length fu j rest fm0 To ds0) = oE at hR
  have hE2 : allP (endD E fn.results.toList t (.var pe ge) oE).cs → Small E.P E.gl f args T0 (endD E fn.results.toList t (.var pe ge) oE).val (endD E fn.results.toList t (.var pe ge) oE).tab ∨ ¬ allP cs0 := by
    intro hce
    by_cases hc0 : allP cs0
    rotate_left
    · exact .inr hc0
    left
    obtain ⟨q1, q2⟩ := endD_ok hce
    refine small_of_defer hE hf hb2 hle hrun ⟨hc0⟩ (ha1.trans k1) k2 k3 k4 k5 k6 hgf hgn hgb v1 hlt (by simp only [v2]; exact v3) hC ?_
    cases j with
    | none =>
      simp only at hend
      refine (run_sound hE hm (Nat.le_refl _) (hO To.length) fu (c := rest) (fun id c' h => by rw [hbody]; exact .seqR (.seqR h)) (fm := fm0) (T := To) (ds := ds0) (by rw [hend]; exact q1)).1.mono fun ex fm' T' hIs => ?_
      obtain ⟨h1, h2, h3⟩ := hIs
      subst h1 h2 h3
      rw [hend]
      exact q2
    | some j =>
      simp only at hend
      by_cases hx : isP oE.ex = true
      · exact AWp.panics hE hm hP hend ⟨q1⟩ hx q2
      · exfalso
        have hx2 : isP (panicRun E PS fn.ntmps To.length fu j rest fm0 To ds0).ex = false := by rw [hend]; simpa using hx
        rcases q2 with ⟨hex, _⟩ | ⟨m, cs, us, hex, _⟩
        · -- a run that ends otherwise
          have : ∀ o : Out, o = panicRun E PS fn.ntmps To.length fu j rest fm0 To ds0 → allP o.cs → o.ex = .normal ∨ o.ex = .ret → False := by
            intro o ho hco hxo
            unfold panicRun at ho
            split at ho
            · rename_i csr fm1 T1 ds1 hr
              split at ho
              rename_i cs2 ex2 fm2 T2 ds2 hq
              subst ho
              simp only at hxo
              rw [allP_append] at hco
              have hpc : ∀ (c : Code) (fm : Fm) (T : Tab) (ds : List (Option Bool)), allP (panicCode E PS fn.ntmps c fm T ds).cs → isP (panicCode E PS fn.ntmps c fm T ds).ex = true := by
                intro c
                induction c with
                | region id ops dr =>
                  intro fm T ds hc
                  cases dr with
                  | true => exact absurd hc failO_no
                  | false =>
                    simp only [panicCode] at hc ⊢
                    unfold panicOps at hc ⊢
                    split at hc
                    · split at hc
                      · rename_i l1 o _ _ hg
                        rw [seqO_normal (runOps_ex _ _ _ _ _)] at hc
                        rw [seqO_normal (runOps_ex _ _ _ _ _)]
                        simp only [allP_append] at hc
                        have hc := hc.2
                        generalize hq : panicLast PS o _ _ = q at hc ⊢
                        unfold panicLast at hq
                        split at hq
                        · split at hq <;> subst hq
                          · rfl
                          · exact absurd hc failO_no
                        · split at hq
                          · split at hq
                            · split at hq
                              · split at hq <;> subst hq
                                · rfl
                                · exact absurd hc failO_no
                              · subst hq; exact absurd hc failO_no
                            · subst hq; exact absurd hc failO_no
                          · subst hq; exact absurd hc failO_no
                        · subst hq; exact absurd hc failO_no
                      · exact absurd hc failO_no
                    · exact absurd hc failO_no
                | seq a b iha ihb => intro fm T ds hc; exact iha _ _ _ hc
                | block id a iha => intro fm T ds hc; exact iha _ _ _ hc
                | cond x a b iha ihb =>
                  intro fm T ds hc
                  simp only [panicCode] at hc ⊢
                  split at hc
                  · exact iha _ _ _ hc
                  · exact ihb _ _ _ hc
                  · exact absurd hc failO_no
                | _ => intro fm T ds hc; exact absurd hc failO_no
              have := hpc (backC j rest) fm1 T1 ds1 (by rw [hq]; exact hco.2)
              rw [hq] at this
              rcases hxo with h | h <;> (rw [h] at this; cases this)
            · subst ho; exact failO_no hco
          exact this oE hend.symm q1 hex
        · rw [hend, hex] at hx2; cases hx2
  generalize hq : endD E fn.results.toList t (.var pe ge) oE = q at hR hE2
  obtain ⟨cs, v, T⟩ := q
  subst hR
  simp only [allP_append] at hc
  rcases hE2 hc.2 with h | h
  · exact h
  · exact absurd hc.1 h
theorem small_ofP {E : Env} (hE : EnvOk E) (hm : E.P.follows .mixedOrders = true) {PS : List (Nat × Summary)} (hP : PsOk E.P E.gl PS) {f : FuncId} {fn : Func} (hf : E.P.funcs[f]? = some fn) {fu j : Nat} {args : List AVal} {T0 : Tab} {ds : List (Option Bool)} {R : Res} (hR : fnRunP E PS fn fu j args T0 ds = R) (h : OkR R) {v : AVal} {T1 : Tab} (hv : R.val = v) (ht : R.tab = T1) :
    SmallE finP E.P E.gl f args T0 v T1 := by
  subst hv ht hR
  exact fnRunP_small hE hm hP hf h.h
theorem small_resG {fin : Value → Ending} {P : Program} {gl : Nat → Option AVal} {f : FuncId} {args : List AVal} {T : Tab} {keep : List Nat} {r : Res} (hS : allP r.cs → SmallE fin P gl f args T r.val r.tab) (h : OkR (resG T.length keep r)) : SmallE fin P gl f args T (resG T.length keep r).val (resG T.length keep r).tab := by
  obtain ⟨cs, v, T1⟩ := r
  obtain ⟨h⟩ := h
  unfold resG at h ⊢
  simp only at h ⊢
  cases hb : idsIn (hasG keep) v && okG T.length keep T1 with
  | false => simp only [hb] at h; exact absurd h nofail
  | true =>
    simp only [hb] at h ⊢
    simp only [Bool.and_eq_true] at hb
    exact small_gc keep (hS h) hb.2 hb.1 rfl rfl
theorem small_ofDG {E : Env} (hE : EnvOk E) (hm : E.P.follows .mixedOrders = true) {PS : List (Nat × Summary)} (hP : PsOk E.P E.gl PS) {f : FuncId} {fn : Func} (hf : E.P.funcs[f]? = some fn) (hb : fn.body.isSome = true) {orc : OrcL} (hO : FnOrc E fn orc)
    {g : FuncId} {gfn : Func} (hgf : E.P.funcs[g]? = some gfn) (hgn : (gfn.name == "runtime.NumGoroutine") = false) (hgb : gfn.body.isNone = false) {t : TypeId} (hC : CaughtOk E.P g t .i64)
    {fu : Nat} {j : Option Nat} {args : List AVal} {T0 : Tab} {ds : List (Option Bool)} {keep : List Nat} {R : Res} (hR : resG T0.length keep (fnRunD E PS fn orc fu j g t args T0 ds) = R) (h : OkR R) {v : AVal} {T1 : Tab} (hv : R.val = v) (ht : R.tab = T1) : Small E.P E.gl f args T0 v T1 := by
  subst hv ht hR
  exact small_resG (fun hc => fnRunD_small hE hm hP hf hb hO hgf hgn hgb hC hc) h
/-- a panicking function's summary: its body, run at the call -/
def sumP (m : Mode) (E : Env) (PS : List (Nat × Summary)) (fn : Func) (fu j : Nat) (ds : List (Option Bool)) (wr : List Bool) : Summary := callR (fun args T0 => settled m (fnRunP E PS fn fu j args T0 ds)) wr
theorem sumP_ok {m : Mode} {E : Env} (hE : EnvOk E) (hm : E.P.follows .mixedOrders = true) {PS : List (Nat × Summary)} (hP : PsOk E.P E.gl PS) {f : FuncId} {fn : Func} (hf : E.P.funcs[f]? = some fn) (fu j : Nat) (ds : List (Option Bool)) (wr : List Bool) : SumOkP E.P E.gl f (sumP m E PS fn fu j ds wr) := by
  refine callR_okP (fun args T0 hc => ?_) wr
  obtain ⟨h1, h2, h3⟩ := settled_ok hc
  rw [h2, h3]
  exact fnRunP_small hE hm hP hf h1
end Go.Abs

set_option linter.unusedVariables false
set_option linter.unusedSimpArgs false
namespace Go.Abs
/-! ## Families that a function makes: its rows lie in new blocks -/
def FreshF (B : Nat) (ν : Nu) (T : Tab) : Prop := ∀ (p : Nat) (o : AObj) (l : Loc) (Z : List (List Int)), T[p]? = some (some o) → ν p = some l → o.data = .fam Z → ∀ (i : Nat) (b : Addr) (n c : Nat), l.rw[i]? = some (.slice (some b) n c) → 0 < c → B ≤ b.block
structure RF (B : Nat) (ν : Nu) (T : Tab) (w : World) : Prop where
  size : B ≤ w.heap.size
  own : ∀ b, Own ν T b → B ≤ b
  fresh : FreshF B ν T
  here : ∀ (p : Nat) (o : AObj) (z : List Int) (Z : List (List Int)), T[p]? = some (some o) → o.data = .fam (z :: Z) → (ν p).isSome
def PostF (B : Nat) (E : Env) (n k : Nat) (post : AExit → Fm → Tab → Prop) (D : List Deferred) (ν : Nu) (T : Tab) (w : World) (e : Exit) (a' : Act) (w' : World) : Prop :=
  ∃ ex fm' T' ν', e = AExit.to ex ∧ post ex fm' T' ∧ SRelM E D w ν' fm' T' n a' w' ∧ NuLeB k ν ν' ∧ Fr (Own ν T) w (Own ν' T') w' ∧ RF B ν' T' w'
def AWpF (E : Env) (n k : Nat) (c : Code) (fm : Fm) (T : Tab) (post : AExit → Fm → Tab → Prop) : Prop :=
  ∀ (B : Nat) (rr : Option Nat) D ν a w, SRel E D ν fm T n a w → RdOk rr w → RF B ν T w → c.wpIn (Fc rr) 0 E.P (PostF B E n k post D ν T w) a w
def ToF (E : Env) (n k : Nat) (c : Code) (fm : Fm) (T : Tab) (ex : AExit) (fm' : Fm) (T' : Tab) : Prop := AWpF E n k c fm T fun e f t => e = ex ∧ f = fm' ∧ t = T'
section
variable {E : Env} {n k : Nat} {fm : Fm} {T : Tab} {post : AExit → Fm → Tab → Prop}
theorem AWpF.mono {c : Code} {post' : AExit → Fm → Tab → Prop} (h : AWpF E n k c fm T post) (hp : ∀ ex fm T, post ex fm T → post' ex fm T) : AWpF E n k c fm T post' :=
  fun B rr D ν a w hs hrd hR => wpIn_mono (h B rr D ν a w hs hrd hR) fun e a' w' ⟨ex, fm', T', ν', h1, h2, h3⟩ => ⟨ex, fm', T', ν', h1, hp _ _ _ h2, h3⟩
theorem PostF.trans {B : Nat} {D ms : List Deferred} {ν ν1 : Nu} {w w1 : World} {T1 : Tab} {fm1 : Fm} {a1 : Act} {e : Exit} {a' : Act} {w' : World} (h : PostF B E n k post (ms ++ D) ν1 T1 w1 e a' w') (s1 : SRel E (ms ++ D) ν1 fm1 T1 n a1 w1) (m1 : MarksOk ms w w1) (hm : NuLeB k ν ν1) (hf : Fr (Own ν T) w (Own ν1 T1) w1) : PostF B E n k post D ν T w e a' w' := by
  obtain ⟨ex, fm', T', ν', h1, h2, ⟨ms2, h3, m2⟩, h4, h5, h6⟩ := h
  exact ⟨ex, fm', T', ν', h1, h2, ⟨ms2 ++ ms, by rw [List.append_assoc]; exact h3, m1.trans m2 hf.size s1.hr h5⟩, hm.trans h4, hf.trans h5, h6⟩
theorem AWpF.ret (h : post .ret fm T) : AWpF E n k .ret fm T post := fun B rr D ν a w hs hrd hR => wpIn_ret ⟨.ret, fm, T, ν, rfl, h, hs.m, NuLeB.refl _ _, Fr.refl _ _, hR⟩
theorem AWpF.seq {x y : Code} (h : AWpF E n k x fm T fun ex fm' T' => match ex with | .normal => AWpF E n k y fm' T' post | ex => post ex fm' T') : AWpF E n k (.seq x y) fm T post := by
  intro B rr D ν a w hs hrd hR
  refine wpIn_seq (wpIn_mono (h B rr D ν a w hs hrd hR) fun e a' w' ⟨ex, fm', T', ν', h1, h2, h3, h4, h5, h6⟩ => ?_)
  subst h1
  cases ex with
  | normal =>
    obtain ⟨ms, h3, hm⟩ := h3
    exact wpIn_mono (h2 B rr _ ν' a' w' h3 (hrd.fr hs.hr h5) h6) fun e a2 w2 hp => hp.trans h3 hm h4 h5
  | exit id => exact ⟨.exit id, fm', T', ν', rfl, h2, h3, h4, h5, h6⟩
  | goto l => exact ⟨.goto l, fm', T', ν', rfl, h2, h3, h4, h5, h6⟩
  | ret => exact ⟨.ret, fm', T', ν', rfl, h2, h3, h4, h5, h6⟩
  | panic t0 k0 n0 => exact ⟨.panic t0 k0 n0, fm', T', ν', rfl, h2, h3, h4, h5, h6⟩
theorem AWpF.block {id : Nat} {c : Code} (h : AWpF E n k c fm T fun ex fm' T' => match ex with | .exit id' => if id' = id then post .normal fm' T' else post (.exit id') fm' T' | ex => post ex fm' T') : AWpF E n k (.block id c) fm T post := by
  intro B rr D ν a w hs hrd hR
  refine wpIn_block (wpIn_mono (h B rr D ν a w hs hrd hR) fun e a' w' ⟨ex, fm', T', ν', h1, h2, h3, h4, h5, h6⟩ => ?_)
  subst h1
  cases ex with
  | normal => exact ⟨.normal, fm', T', ν', rfl, h2, h3, h4, h5, h6⟩
  | exit id' =>
    simp only [AExit.to, Exit.inBlock]
    simp only at h2
    split
    · rename_i e
      rw [if_pos e] at h2
      exact ⟨.normal, fm', T', ν', rfl, h2, h3, h4, h5, h6⟩
    · rename_i e
      rw [if_neg e] at h2
      exact ⟨.exit id', fm', T', ν', rfl, h2, h3, h4, h5, h6⟩
  | goto l => exact ⟨.goto l, fm', T', ν', rfl, h2, h3, h4, h5, h6⟩
  | ret => exact ⟨.ret, fm', T', ν', rfl, h2, h3, h4, h5, h6⟩
  | panic t0 k0 n0 => exact ⟨.panic t0 k0 n0, fm', T', ν', rfl, h2, h3, h4, h5, h6⟩
theorem AWpF.loop {c : Code} (I : Fm → Tab → Nat → Prop) (m0 : Nat) (h0 : I fm T m0)
    (round : ∀ fm T m, I fm T m → AWpF E n k c fm T fun ex fm' T' => match ex with | .normal => ∃ m', m' < m ∧ I fm' T' m' | ex => post ex fm' T') : AWpF E n k (.loop c) fm T post := by
  intro B rr D ν a w hs hrd hR b kk cs hro hbb hrm
  have key : ∀ (m : Nat) (fm1 : Fm) (T1 : Tab) (ν1 : Nu) (a1 : Act) (w1 : World) (ms : List Deferred), I fm1 T1 m → SRel E (ms ++ D) ν1 fm1 T1 n a1 w1 → MarksOk ms w w1 → NuLeB k ν ν1 → Fr (Own ν T) w (Own ν1 T1) w1 → RF B ν1 T1 w1 →
      ∃ e a' w', PostF B E n k post D ν T w e a' w' ∧ ArrivesIn (Machine.fenced E.P (Fc rr)) E.P (lone (b.atR a1 (.code c :: .inLoop c :: kk)) cs w1) b kk cs e a' w' := by
    intro m
    induction m using Nat.strongRecOn with
    | _ m ih =>
      intro fm1 T1 ν1 a1 w1 ms hI hs1 mk hm hf hR1
      obtain ⟨e, a2, w2, hP, harr⟩ := round fm1 T1 m hI B rr _ ν1 a1 w1 hs1 (hrd.fr hs.hr hf) hR1 b (.inLoop c :: kk) cs hro hbb hrm
      obtain ⟨ex, fm2, T2, ν2, h1, h2, ⟨ms2, h3, mk2⟩, h4, h5, h6⟩ := hP.trans hs1 mk hm hf
      subst h1
      cases ex with
      | normal =>
        obtain ⟨m', hlt, hI'⟩ := h2
        obtain ⟨e3, a3, w3, hp3, harr3⟩ := ih m' hlt fm2 T2 ν2 a2 w2 ms2 hI' h3 mk2 h4 h5 h6
        exact ⟨e3, a3, w3, hp3, .of_steps (StepsIn.trans harr (.one (fenced_calm hbb hrm rfl) stepR_inLoop)) harr3⟩
      | exit id => exact ⟨_, a2, w2, ⟨.exit id, fm2, T2, ν2, rfl, h2, ⟨ms2, h3, mk2⟩, h4, h5, h6⟩, .pass (x := .inLoop c) rfl (fun _ _ => .inl (by simp [AExit.to])) harr⟩
      | goto l => exact ⟨_, a2, w2, ⟨.goto l, fm2, T2, ν2, rfl, h2, ⟨ms2, h3, mk2⟩, h4, h5, h6⟩, .pass (x := .inLoop c) rfl (fun _ _ => .inl (by simp [AExit.to])) harr⟩
      | ret => exact ⟨_, a2, w2, ⟨.ret, fm2, T2, ν2, rfl, h2, ⟨ms2, h3, mk2⟩, h4, h5, h6⟩, .pass (x := .inLoop c) rfl (fun _ _ => .inl (by simp [AExit.to])) harr⟩
      | panic t0 k0 n0 => exact ⟨_, a2, w2, ⟨.panic t0 k0 n0, fm2, T2, ν2, rfl, h2, ⟨ms2, h3, mk2⟩, h4, h5, h6⟩, .pass (x := .inLoop c) rfl (fun _ _ => .inl (by simp [AExit.to])) harr⟩
  obtain ⟨e, a', w', hp, harr⟩ := key m0 fm T ν a w [] h0 hs (MarksOk.nil _ _) (NuLeB.refl _ _) (Fr.refl _ _) hR
  exact ⟨e, a', w', hp, .of_steps (.one (fenced_calm hbb hrm rfl) stepR_loop) harr⟩
theorem AWpF.base {kb : Nat} {c : Code} (hk : k ≤ kb) (h : AWpF E n kb c fm T post) : AWpF E n k c fm T post :=
  fun B rr D ν a w hs hrd hR => wpIn_mono (h B rr D ν a w hs hrd hR) fun e a' w' ⟨ex, fm', T', ν', h1, h2, h3, h4, h5⟩ => ⟨ex, fm', T', ν', h1, h2, h3, fun p hp => h4 p (Nat.lt_of_lt_of_le hp hk), h5⟩
theorem ToF.rounds {id : Nat} {c : Code} (F : Nat → Fm) (T : Nat → Tab) (N : Nat) {fm' : Fm} {T' : Tab}
    (round : ∀ i, i < N → ToF E n k c (F i) (T i) .normal (F (i + 1)) (T (i + 1))) (last : ToF E n k c (F N) (T N) (.exit id) fm' T') : ToF E n k (.block id (.loop c)) (F 0) (T 0) .normal fm' T' := by
  refine AWpF.block ?_
  refine AWpF.loop (fun fm T' m => ∃ i, i ≤ N ∧ m = N - i ∧ fm = F i ∧ T' = T i) N ⟨0, Nat.zero_le _, rfl, rfl, rfl⟩ ?_
  rintro fm T1 m ⟨i, hi, rfl, rfl, rfl⟩
  rcases Nat.lt_or_ge i N with hlt | hge
  · refine (round i hlt).mono fun ex fm1 T1 ⟨e1, e2, e3⟩ => ?_
    subst e1 e2 e3
    exact ⟨N - (i + 1), by omega, i + 1, hlt, rfl, rfl, rfl⟩
  · have : i = N := by omega
    subst this
    refine last.mono fun ex fm1 T1 ⟨e1, e2, e3⟩ => ?_
    subst e1 e2 e3
    simp
end
/-- families stay in their places -/
def famK : Nat → Tab → Tab → Prop
  | _, _, [] => True
  | k, x :: T, y :: T' => (∀ o', y = some o' → o'.data.noFam = true ∨ (0 < k ∧ ∃ o z Z, x = some o ∧ o.data = .fam (z :: Z) ∧ o.g = o'.g)) ∧ famK (k - 1) T T'
  | k, [], y :: T' => (∀ o', y = some o' → o'.data.noFam = true) ∧ famK k [] T'
theorem famK_get : ∀ {k : Nat} {T T' : Tab}, famK k T T' → ∀ (p : Nat) (o' : AObj), T'[p]? = some (some o') → o'.data.noFam = true ∨ (p < k ∧ ∃ o z Z, T[p]? = some (some o) ∧ o.data = .fam (z :: Z) ∧ o.g = o'.g)
  | _, _, [], _, p, o', h => by simp at h
  | k, x :: T, y :: T', hf, 0, o', h => by
    simp at h; subst h
    rcases hf.1 o' rfl with h1 | ⟨h1, o, z, Z, rfl, h2, h3⟩
    · exact .inl h1
    · exact .inr ⟨h1, o, z, Z, by simp, h2, h3⟩
  | k, x :: T, y :: T', hf, p + 1, o', h => by
    rcases famK_get hf.2 p o' (by simpa using h) with h1 | ⟨h1, o, z, Z, h2, h3⟩
    · exact .inl h1
    · exact .inr ⟨by omega, o, z, Z, by simpa using h2, h3⟩
  | k, [], y :: T', hf, 0, o', h => by simp at h; subst h; exact .inl (hf.1 o' rfl)
  | k, [], y :: T', hf, p + 1, o', h => by
    rcases famK_get hf.2 p o' (by simpa using h) with h1 | ⟨h1, o, z, Z, h2, h3⟩
    · exact .inl h1
    · simp at h2
theorem RF.step {gl : Nat → Option AVal} {B k : Nat} {ν ν' : Nu} {T T' : Tab} {w w' : World} (h : RF B ν T w) (hr : HR gl ν T w) (hr' : HR gl ν' T' w') (hm : NuLeB k ν ν') (hf : Fr (Own ν T) w (Own ν' T') w') (hk : famK k T T') : RF B ν' T' w' := by
  refine ⟨Nat.le_trans h.size hf.size, fun b hb => ?_, fun p o' l' Z hT hl hZ i b n c hi hc => ?_, fun p o' z Z hT hZ => ?_⟩
  · rcases hf.own b hb with h1 | h1
    · exact h.own b h1
    · exact Nat.le_trans h.size h1
  · rcases famK_get hk p o' hT with h1 | ⟨h1, o, z0, Z0, h2, hZ0, h4⟩
    · rw [hZ] at h1; cases h1
    · obtain ⟨l, hν⟩ := Option.isSome_iff_exists.1 (h.here p o z0 Z0 h2 hZ0)
      obtain ⟨l1, g1, g2⟩ := hm p h1 l hν
      rw [hl] at g1; injection g1 with g1; subst g1
      have e1 := (hr.obj p o l h2 hν).1
      have e2 := (hr'.obj p o' l' hT hl).1
      rcases g2 with g2 | ⟨_, _, _, g2⟩
      · omega
      · rw [← g2] at hi
        exact h.fresh p o l (z0 :: Z0) h2 hν hZ0 i b n c hi hc
  · rcases famK_get hk p o' hT with h1 | ⟨h1, o, z0, Z0, h2, hZ0, h4⟩
    · rw [hZ] at h1; cases h1
    · obtain ⟨l, hν⟩ := Option.isSome_iff_exists.1 (h.here p o z0 Z0 h2 hZ0)
      obtain ⟨l1, g1, g2⟩ := hm p h1 l hν
      rw [g1]; rfl
theorem ToF.of {E : Env} {n k : Nat} {c : Code} {fm : Fm} {T : Tab} {ex : AExit} {fm' : Fm} {T' : Tab} (h : To E n k c fm T ex fm' T') (hk : famK k T T') : ToF E n k c fm T ex fm' T' := by
  intro B rr D ν a w hs hrd hR
  refine wpIn_mono (h rr D ν a w hs hrd) fun e a' w' ⟨ex', f1, T1, ν1, g1, ⟨e1, e2, e3⟩, ⟨ms, s', mk⟩, g4, g5⟩ => ?_
  subst e1 e2 e3
  exact ⟨_, _, T1, ν1, g1, ⟨rfl, rfl, rfl⟩, ⟨ms, s', mk⟩, g4, g5, hR.step hs.hr s'.hr g4 g5 hk⟩
theorem ToF.base {E : Env} {n k kb : Nat} {c : Code} {fm : Fm} {T : Tab} {ex : AExit} {fm' : Fm} {T' : Tab} (hk : k ≤ kb) (h : ToF E n kb c fm T ex fm' T') : ToF E n k c fm T ex fm' T' := AWpF.base hk h
/-! the table, told otherwise -/
def ConvF (gl : Nat → Option AVal) (ids : List Nat) (T T' : Tab) : Prop := ∀ (B : Nat) (ν : Nu) (w : World), HR gl ν T w → (∀ p ∈ ids, (ν p).isSome) → RF B ν T w → ∃ ν', HR gl ν' T' w ∧ NuLe ν ν' ∧ (∀ b, Own ν' T' b → Own ν T b) ∧ RF B ν' T' w
theorem ConvF.trans {gl : Nat → Option AVal} {ids : List Nat} {T T1 T2 : Tab} (h : ConvF gl ids T T1) (k : ConvF gl ids T1 T2) : ConvF gl ids T T2 := by
  intro B ν w hr hi hR
  obtain ⟨ν1, h1, h2, h3, h4⟩ := h B ν w hr hi hR
  obtain ⟨ν2, k1, k2, k3, k4⟩ := k B ν1 w h1 (fun p hp => h2.isSome (hi p hp)) h4
  exact ⟨ν2, k1, h2.trans k2, fun b hb => h3 b (k3 b hb), k4⟩
theorem ToF.conv {E : Env} {n k : Nat} {c : Code} {fm : Fm} {T : Tab} {ex : AExit} {fm1 : Fm} {ids : List Nat} {T1 T2 : Tab} (h : ToF E n k c fm T ex fm1 T1) (hc : ConvF E.gl ids T1 T2) (hi : ∀ p ∈ ids, ∃ t v, look fm1 t = some v ∧ hasId p v = true) : ToF E n k c fm T ex fm1 T2 := by
  intro B rr D ν a w hs hrd hR
  refine wpIn_mono (h B rr D ν a w hs hrd hR) fun e a' w' ⟨ex', f1, T', ν1, g1, ⟨e1, e2, e3⟩, ⟨ms, s', mk⟩, g4, g5, g6⟩ => ?_
  subst e1 e2 e3
  obtain ⟨ν2, h1, h2, h3, h4⟩ := hc B ν1 w' s'.hr (fun p hp => by obtain ⟨t, v, e1, e2⟩ := hi p hp; exact (s'.fm t v e1).hasId e2) g6
  exact ⟨_, _, T2, ν2, g1, ⟨rfl, rfl, rfl⟩, ⟨ms, ⟨h1, fun t v hv => (s'.fm t v hv).mono h2, s'.size, s'.defers⟩, mk⟩, g4.trans (h2.b k), g5.sub h3, h4⟩
theorem RF.gc {B k : Nat} {ν : Nu} {T : Tab} {w : World} {keep : List Nat} (h : RF B ν T w) (hb : okG k keep T = true) : RF B (nuG keep ν) (gcT keep T) w := by
  have unfam : ∀ {o : AObj} {Z : List (List Int)}, (renO (sigG keep) o).data = .fam Z → o.data = .fam Z := by
    intro o Z hZ
    simp only [renO] at hZ
    cases hd : o.data <;> rw [hd] at hZ <;> simp only [Abs.ren] at hZ <;> cases hZ
    rfl
  refine ⟨h.size, fun b hb => h.own b hb.gc, fun j o' l Z hT hl hZ i b n c hi hc => ?_, fun j o' z Z hT hZ => ?_⟩
  · obtain ⟨p, o, e1, e2, rfl⟩ := gcT_some hT
    obtain ⟨p', e3, e4⟩ := nuG_some hl
    rw [e1] at e3; injection e3 with e3; subst e3
    exact h.fresh p o l Z e2 e4 (unfam hZ) i b n c hi hc
  · obtain ⟨p, o, e1, e2, rfl⟩ := gcT_some hT
    have := h.here p o z Z e2 (unfam hZ)
    unfold nuG; rw [e1]; exact this
theorem ToF.gc {E : Env} {n k : Nat} {c : Code} {fm : Fm} {T : Tab} {ex : AExit} {fm1 : Fm} {T1 : Tab} (h : ToF E n k c fm T ex fm1 T1) (keep slots : List Nat) {f : Fm} (hb : okG k keep T1 = true) (hp : pickG keep fm1 slots = some f) {T2 : Tab} (e : gcT keep T1 = T2) : ToF E n k c fm T ex f T2 := by
  subst e
  intro B rr D ν a w hs hrd hR
  refine wpIn_mono (h B rr D ν a w hs hrd hR) fun e a' w' ⟨ex', fm', T', ν', e1, ⟨e2, e3, e4⟩, ⟨ms, s', mk⟩, n', f', r'⟩ => ?_
  subst e2 e3 e4
  exact ⟨_, f, Abs.gcT keep T', nuG keep ν', e1, ⟨rfl, rfl, rfl⟩, ⟨ms, s'.gc hb hp, mk⟩, n'.gc hb, f'.sub (fun b hb => hb.gc), r'.gc hb⟩
/-- a table told otherwise, whose families are as they were -/
theorem ConvF.of {gl : Nat → Option AVal} {ids : List Nat} {T T' : Tab} (h : Conv gl ids T T') (hf : ∀ (p : Nat) (o' : AObj), T'[p]? = some (some o') → o'.data.noFam = true ∨ o'.data = .fam [] ∨ ∃ o z Z, T[p]? = some (some o) ∧ o.data = .fam (z :: Z) ∧ o.g = o'.g) : ConvF gl ids T T' := by
  intro B ν w hr hi hR
  obtain ⟨ν', h1, h2, h3⟩ := h ν w hr hi
  refine ⟨ν', h1, h2, h3, hR.size, fun b hb => hR.own b (h3 b hb), fun p o' l' Z hT hl hZ i b n c hii hc => ?_, fun p o' z Z hT hZ => ?_⟩
  · rcases hf p o' hT with g | g | ⟨o, z0, Z0, g2, hZ0, g4⟩
    · rw [hZ] at g; cases g
    · obtain ⟨f1, _⟩ := h1.fam p o' l' hT hl [] g
      have : l'.rw = [] := List.eq_nil_of_length_eq_zero (by simpa using f1)
      rw [this] at hii; simp at hii
    · obtain ⟨l, hν⟩ := Option.isSome_iff_exists.1 (hR.here p o z0 Z0 g2 hZ0)
      obtain ⟨l1, k1, k2⟩ := h2 p l hν
      rw [hl] at k1; injection k1 with k1; subst k1
      have e1 := (hr.obj p o l g2 hν).1
      have e2 := (h1.obj p o' l' hT hl).1
      rcases k2 with k2 | ⟨_, _, _, k2⟩
      · omega
      · rw [← k2] at hii
        exact hR.fresh p o l (z0 :: Z0) g2 hν hZ0 i b n c hii hc
  · rcases hf p o' hT with g | g | ⟨o, z0, Z0, g2, hZ0, g4⟩
    · rw [hZ] at g; cases g
    · rw [hZ] at g; cases g
    · exact h2.isSome (hR.here p o z0 Z0 g2 hZ0)
section
variable {P : Program} {gl : Nat → Option AVal} {k : Nat} {T0 T1 T T' : Tab} {fp r1 : Nat → Nat} {own0 : Nat → Prop} {live : Nat → Bool}

end
end Go.Abs

set_option linter.unusedVariables false
set_option linter.unusedSimpArgs false
namespace Go.Abs
open Go.RowKit Go.WideShapes Go.ChangeShapes Go.ChangeAt
/-! ## Rows of laws: structs in structs -/
section
variable {H : Type} {enc : TypeId × Value → H} {P : Program}
theorem VRs.agg {ν : Nu} {vs : List AVal} {xs : List Value} (h : VRs ν vs xs) : VR ν (.agg vs) (.agg xs.toArray) :=
  .agg (by simpa using h.1) (fun i hi => by simpa using h.2 i hi)
theorem list6 {α : Type} {l : List α} (h : l.length = 6) : ∃ a b c d e f, l = [a, b, c, d, e, f] := by
  match l, h with
  | [a, b, c, d, e, f], _ => exact ⟨a, b, c, d, e, f, rfl⟩
theorem list8 {α : Type} {l : List α} (h : l.length = 8) : ∃ a b c d e f g k, l = [a, b, c, d, e, f, g, k] := by
  match l, h with
  | [a, b, c, d, e, f, g, k], _ => exact ⟨a, b, c, d, e, f, g, k, rfl⟩
theorem list3 {α : Type} {l : List α} (h : l.length = 3) : ∃ a b c, l = [a, b, c] := by
  match l, h with
  | [a, b, c], _ => exact ⟨a, b, c, rfl⟩
/-- a struct of six fields of one cell each -/
theorem trod6 {t : TypeId} {f0 f1 f2 f3 f4 f5 : Field} {w : World} {base : Nat} {spare : Nat → Bool} {held : Bool} {fuel : Nat} {cs : List Value} {x : DataW H × List MemPlace} (ht : P.underlying t = some (.struct #[f0, f1, f2, f3, f4, f5]))
    (hk : [f0, f1, f2, f3, f4, f5].map (·.offset) = [0, 1, 2, 3, 4, 5]) (hc : [f0, f1, f2, f3, f4, f5].all (fun f => P.cellsOf f.type == 1) = true) (h6 : P.cellsOf t = 6)
    (h : DataW.trod enc P w base spare held fuel t cs = some x) : ∃ c0 c1 c2 c3 c4 c5 y0 y1 y2 y3 y4 y5 n, cs = [c0, c1, c2, c3, c4, c5] ∧ x.1 = .agg [Prod.fst y0, Prod.fst y1, Prod.fst y2, Prod.fst y3, Prod.fst y4, Prod.fst y5] ∧
      DataW.trod enc P w base spare held n f0.type [c0] = some y0 ∧ DataW.trod enc P w base spare held n f1.type [c1] = some y1 ∧ DataW.trod enc P w base spare held n f2.type [c2] = some y2 ∧ DataW.trod enc P w base spare held n f3.type [c3] = some y3 ∧ DataW.trod enc P w base spare held n f4.type [c4] = some y4 ∧ DataW.trod enc P w base spare held n f5.type [c5] = some y5 := by
  obtain ⟨xs, n, _, rfl, hl, hlen, hf⟩ := DataW.trod_struct ht h
  obtain ⟨c0, c1, c2, c3, c4, c5, rfl⟩ := list6 (hl.trans h6)
  obtain ⟨y0, y1, y2, y3, y4, y5, rfl⟩ := list6 (l := xs) (by simpa using hlen)
  simp only [List.map_cons, List.map_nil, List.cons.injEq, and_true] at hk
  obtain ⟨k0, k1, k2, k3, k4, k5⟩ := hk
  simp only [List.all_cons, List.all_nil, Bool.and_true, Bool.and_eq_true, beq_iff_eq] at hc
  obtain ⟨d0, d1, d2, d3, d4, d5⟩ := hc
  refine ⟨c0, c1, c2, c3, c4, c5, y0, y1, y2, y3, y4, y5, n, rfl, by simp, ?_, ?_, ?_, ?_, ?_, ?_⟩
  · simpa [k0, d0] using hf 0 f0 rfl
  · simpa [k1, d1] using hf 1 f1 rfl
  · simpa [k2, d2] using hf 2 f2 rfl
  · simpa [k3, d3] using hf 3 f3 rfl
  · simpa [k4, d4] using hf 4 f4 rfl
  · simpa [k5, d5] using hf 5 f5 rfl
/-- a struct of three fields: one cell, six cells, one cell -/
theorem trod161 {t : TypeId} {f0 f1 f2 : Field} {w : World} {base : Nat} {spare : Nat → Bool} {held : Bool} {fuel : Nat} {cs : List Value} {x : DataW H × List MemPlace} (ht : P.underlying t = some (.struct #[f0, f1, f2]))
    (hk : [f0, f1, f2].map (·.offset) = [0, 1, 7]) (d0 : P.cellsOf f0.type = 1) (d1 : P.cellsOf f1.type = 6) (d2 : P.cellsOf f2.type = 1) (h8 : P.cellsOf t = 8)
    (h : DataW.trod enc P w base spare held fuel t cs = some x) : ∃ c0 c1 c2 c3 c4 c5 c6 c7 y0 y1 y2 n, cs = [c0, c1, c2, c3, c4, c5, c6, c7] ∧ x.1 = .agg [Prod.fst y0, Prod.fst y1, Prod.fst y2] ∧
      DataW.trod enc P w base spare held n f0.type [c0] = some y0 ∧ DataW.trod enc P w base spare held n f1.type [c1, c2, c3, c4, c5, c6] = some y1 ∧ DataW.trod enc P w base spare held n f2.type [c7] = some y2 := by
  obtain ⟨xs, n, _, rfl, hl, hlen, hf⟩ := DataW.trod_struct ht h
  obtain ⟨c0, c1, c2, c3, c4, c5, c6, c7, rfl⟩ := list8 (hl.trans h8)
  obtain ⟨y0, y1, y2, rfl⟩ := list3 (l := xs) (by simpa using hlen)
  simp only [List.map_cons, List.map_nil, List.cons.injEq, and_true] at hk
  obtain ⟨k0, k1, k2⟩ := hk
  refine ⟨c0, c1, c2, c3, c4, c5, c6, c7, y0, y1, y2, n, rfl, by simp, ?_, ?_, ?_⟩
  · simpa [k0, d0] using hf 0 f0 rfl
  · simpa [k1, d1] using hf 1 f1 rfl
  · simpa [k2, d2] using hf 2 f2 rfl
/-- a struct of three fields of one cell each -/
theorem trod111 {t : TypeId} {f0 f1 f2 : Field} {w : World} {base : Nat} {spare : Nat → Bool} {held : Bool} {fuel : Nat} {cs : List Value} {x : DataW H × List MemPlace} (ht : P.underlying t = some (.struct #[f0, f1, f2]))
    (hk : [f0, f1, f2].map (·.offset) = [0, 1, 2]) (d0 : P.cellsOf f0.type = 1) (d1 : P.cellsOf f1.type = 1) (d2 : P.cellsOf f2.type = 1) (h3 : P.cellsOf t = 3)
    (h : DataW.trod enc P w base spare held fuel t cs = some x) : ∃ c0 c1 c2 y0 y1 y2 n, cs = [c0, c1, c2] ∧ x.1 = .agg [Prod.fst y0, Prod.fst y1, Prod.fst y2] ∧
      DataW.trod enc P w base spare held n f0.type [c0] = some y0 ∧ DataW.trod enc P w base spare held n f1.type [c1] = some y1 ∧ DataW.trod enc P w base spare held n f2.type [c2] = some y2 := by
  obtain ⟨xs, n, _, rfl, hl, hlen, hf⟩ := DataW.trod_struct ht h
  obtain ⟨c0, c1, c2, rfl⟩ := list3 (hl.trans h3)
  obtain ⟨y0, y1, y2, rfl⟩ := list3 (l := xs) (by simpa using hlen)
  simp only [List.map_cons, List.map_nil, List.cons.injEq, and_true] at hk
  obtain ⟨k0, k1, k2⟩ := hk
  refine ⟨c0, c1, c2, y0, y1, y2, n, rfl, by simp, ?_, ?_, ?_⟩
  · simpa [k0, d0] using hf 0 f0 rfl
  · simpa [k1, d1] using hf 1 f1 rfl
  · simpa [k2, d2] using hf 2 f2 rfl
/-- the reach of a part of a struct in a struct -/
theorem sized_part2 {ts : List TypeId} {ds : List (DataW H)} (h : (DataW.weightsEach P ts ds).all (· ≤ reachBytes) = true) {j i i2 : Nat} {t t2 u e : TypeId} {fs fs2 : Array Field} {parts parts2 elems spare : List (DataW H)} (ht : ts[j]? = some t) (hd : ds[j]? = some (.agg parts)) (hu : P.underlying t = some (.struct fs))
    (hf : (fs.toList.map (·.type))[i]? = some t2) (hp : parts[i]? = some (.agg parts2)) (hu2 : P.underlying t2 = some (.struct fs2)) (hf2 : (fs2.toList.map (·.type))[i2]? = some u) (hp2 : parts2[i2]? = some (.slice elems spare)) (hu3 : P.underlying u = some (.slice e)) : (elems.length + spare.length) * P.bytesOf e ≤ reachBytes := by
  refine of_decide_eq_true (List.all_eq_true.1 h _ (DataW.weights_mem_each ht hd _ ?_))
  simp only [DataW.weights, hu]
  refine DataW.weights_mem_each hf hp _ ?_
  simp only [DataW.weights, hu2]
  exact DataW.weights_mem_each hf2 hp2 _ (by simp [DataW.weights, hu3])
/-- a slice of whole numbers, out of its reading: a whole room -/
theorem arg_intsT {t e : TypeId} (ht : P.underlying t = some (.slice e)) (he : P.underlying e = some (.int .i64)) (hc : P.cellsOf e = 1) (hby : P.bytesOf e = 8) {W : World} {fuel : Nat} {v : Value} {x : DataW H × List MemPlace}
    (hT : DataW.trod enc P W 0 (fun _ => true) true fuel t [v] = some x) (hsz : ∀ elems spare, x.1 = .slice elems spare → (elems.length + spare.length) * P.bytesOf e ≤ reachBytes) :
    ∃ (zs : List Int) (n : Nat) (l : Loc), n ≤ zs.length ∧ (∀ z ∈ zs, -9223372036854775808 ≤ z ∧ z ≤ 9223372036854775807) ∧ zs.length ≤ 17592186043904 ∧ l.g = 0 ∧ l.room = zs.length ∧ (0 < l.room → l.a.block < W.heap.size) ∧
      (∀ i, i < zs.length → W.cell? (l.a.add i) = some (.int .i64 (zs.getD i 0))) ∧ (∀ (ν : Nu) (p : Nat), ν p = some l → VR ν (.slice 1 p 0 0 n none) v) := by
  rcases open_ints ht he hc hT with ⟨hcs, hx⟩ | ⟨a, len', cap', zs, hcs, _, hl, hm, hz, hx, hcell, hwz⟩
  · simp only [List.cons.injEq, and_true] at hcs
    subst hcs
    exact ⟨[], 0, ⟨⟨0, 0, none⟩, 0, 0⟩, Nat.le_refl _, fun z hz => (by cases hz), by simp, rfl, rfl, fun h => (by cases h), fun i hi => (by simp at hi), fun ν p hp => .sliceZ none hp rfl (.inr ⟨rfl, Nat.le_refl 0⟩)⟩
  · simp only [List.cons.injEq, and_true] at hcs
    subst hcs
    subst hx
    simp only [if_true] at hz
    have hs := hsz _ _ rfl
    rw [hby] at hs
    have hlen : (lits (H := H) .i64 (zs.take len')).length + (lits (H := H) .i64 (zs.drop len')).length = zs.length := by simp [lits]; omega
    rw [hlen] at hs
    refine ⟨zs, len', ⟨a, 0, zs.length⟩, by omega, fun z hz => ?_, by unfold reachBytes at hs; omega, rfl, rfl, fun h0 => ?_, hcell, fun ν p hp => ?_⟩
    · have := hwz z hz
      simpa [Lit.wf, IntKind.min, IntKind.max, IntKind.signed, IntKind.bits] using this
    · have h1 := hcell 0 h0
      unfold World.cell? at h1
      rcases Nat.lt_or_ge a.block W.heap.size with h | h
      · exact h
      · have hb : (a.add 0).block = a.block := block_add a 0
        rw [hb, Array.getElem?_eq_none h] at h1
        cases h1
    · refine .slice hp rfl ⟨hl, fun k hk => (by cases hk), ?_, by simp; omega, fun _ => by simp; omega⟩
      simp [Addr.add]
/-- the three, with the value opened -/
theorem open_six {t : TypeId} {f0 f1 f2 f3 f4 f5 : Field} {w : World} {b0 base : Nat} {r : Reach} {spare : Nat → Bool} {held : Bool} {v : Value} {d : DataW H} {p : List MemPlace} (ht : P.underlying t = some (.struct #[f0, f1, f2, f3, f4, f5]))
    (hk : [f0, f1, f2, f3, f4, f5].map (·.offset) = [0, 1, 2, 3, 4, 5]) (hc : [f0, f1, f2, f3, f4, f5].all (fun f => P.cellsOf f.type == 1) = true) (h6 : P.cellsOf t = 6)
    (hv : Value.okWide P w r b0 t v) (h : DataW.Trod enc P w base spare held t v d p) : ∃ c0 c1 c2 c3 c4 c5 y0 y1 y2 y3 y4 y5 n, v = .agg #[c0, c1, c2, c3, c4, c5] ∧ d = .agg [Prod.fst y0, Prod.fst y1, Prod.fst y2, Prod.fst y3, Prod.fst y4, Prod.fst y5] ∧
      DataW.trod enc P w base spare held n f0.type [c0] = some y0 ∧ DataW.trod enc P w base spare held n f1.type [c1] = some y1 ∧ DataW.trod enc P w base spare held n f2.type [c2] = some y2 ∧ DataW.trod enc P w base spare held n f3.type [c3] = some y3 ∧ DataW.trod enc P w base spare held n f4.type [c4] = some y4 ∧ DataW.trod enc P w base spare held n f5.type [c5] = some y5 := by
  obtain ⟨cs, rfl, hsz⟩ := okWide_struct ht hv
  obtain ⟨fuel, hf⟩ := h
  obtain ⟨c0, c1, c2, c3, c4, c5, y0, y1, y2, y3, y4, y5, n, hcs, hx, h⟩ := trod6 ht hk hc h6 hf
  refine ⟨c0, c1, c2, c3, c4, c5, y0, y1, y2, y3, y4, y5, n, ?_, hx, h⟩
  congr 1
  exact Array.toList_inj.1 (by simpa [Value.cells] using hcs)
theorem open_eight {t : TypeId} {f0 f1 f2 : Field} {g0 g1 g2 g3 g4 g5 : Field} {w : World} {b0 base : Nat} {r : Reach} {spare : Nat → Bool} {held : Bool} {v : Value} {d : DataW H} {p : List MemPlace} (ht : P.underlying t = some (.struct #[f0, f1, f2]))
    (hk : [f0, f1, f2].map (·.offset) = [0, 1, 7]) (d0 : P.cellsOf f0.type = 1) (d1 : P.cellsOf f1.type = 6) (d2 : P.cellsOf f2.type = 1) (h8 : P.cellsOf t = 8)
    (ht' : P.underlying f1.type = some (.struct #[g0, g1, g2, g3, g4, g5])) (hk' : [g0, g1, g2, g3, g4, g5].map (·.offset) = [0, 1, 2, 3, 4, 5]) (hc' : [g0, g1, g2, g3, g4, g5].all (fun f => P.cellsOf f.type == 1) = true)
    (hv : Value.okWide P w r b0 t v) (h : DataW.Trod enc P w base spare held t v d p) : ∃ c0 c1 c2 c3 c4 c5 c6 c7 y0 y1 y2 y3 y4 y5 y6 y7 n m, v = .agg #[c0, c1, c2, c3, c4, c5, c6, c7] ∧ d = .agg [Prod.fst y0, .agg [Prod.fst y1, Prod.fst y2, Prod.fst y3, Prod.fst y4, Prod.fst y5, Prod.fst y6], Prod.fst y7] ∧
      DataW.trod enc P w base spare held n f0.type [c0] = some y0 ∧ DataW.trod enc P w base spare held m g0.type [c1] = some y1 ∧ DataW.trod enc P w base spare held m g1.type [c2] = some y2 ∧ DataW.trod enc P w base spare held m g2.type [c3] = some y3 ∧ DataW.trod enc P w base spare held m g3.type [c4] = some y4 ∧ DataW.trod enc P w base spare held m g4.type [c5] = some y5 ∧ DataW.trod enc P w base spare held m g5.type [c6] = some y6 ∧ DataW.trod enc P w base spare held n f2.type [c7] = some y7 := by
  obtain ⟨cs, rfl, hsz⟩ := okWide_struct ht hv
  obtain ⟨fuel, hf⟩ := h
  obtain ⟨c0, c1, c2, c3, c4, c5, c6, c7, y0, y1, y2, n, hcs, hx, k0, k1, k2⟩ := trod161 ht hk d0 d1 d2 h8 hf
  obtain ⟨e0, e1, e2, e3, e4, e5, z0, z1, z2, z3, z4, z5, m, hes, hz, j0, j1, j2, j3, j4, j5⟩ := trod6 ht' hk' hc' d1 k1
  simp only [List.cons.injEq, and_true] at hes
  obtain ⟨rfl, rfl, rfl, rfl, rfl, rfl⟩ := hes
  rw [hz] at hx
  refine ⟨_, _, _, _, _, _, _, _, y0, z0, z1, z2, z3, z4, z5, y2, n, m, ?_, hx, k0, j0, j1, j2, j3, j4, j5, k2⟩
  congr 1
  exact Array.toList_inj.1 (by simpa [Value.cells] using hcs)
theorem open_three {t : TypeId} {f0 f1 f2 : Field} {w : World} {b0 base : Nat} {r : Reach} {spare : Nat → Bool} {held : Bool} {v : Value} {d : DataW H} {p : List MemPlace} (ht : P.underlying t = some (.struct #[f0, f1, f2]))
    (hk : [f0, f1, f2].map (·.offset) = [0, 1, 2]) (d0 : P.cellsOf f0.type = 1) (d1 : P.cellsOf f1.type = 1) (d2 : P.cellsOf f2.type = 1) (h3 : P.cellsOf t = 3)
    (hv : Value.okWide P w r b0 t v) (h : DataW.Trod enc P w base spare held t v d p) : ∃ c0 c1 c2 y0 y1 y2 n, v = .agg #[c0, c1, c2] ∧ d = .agg [Prod.fst y0, Prod.fst y1, Prod.fst y2] ∧
      DataW.trod enc P w base spare held n f0.type [c0] = some y0 ∧ DataW.trod enc P w base spare held n f1.type [c1] = some y1 ∧ DataW.trod enc P w base spare held n f2.type [c2] = some y2 := by
  obtain ⟨cs, rfl, hsz⟩ := okWide_struct ht hv
  obtain ⟨fuel, hf⟩ := h
  obtain ⟨c0, c1, c2, y0, y1, y2, n, hcs, hx, h⟩ := trod111 ht hk d0 d1 d2 h3 hf
  refine ⟨c0, c1, c2, y0, y1, y2, n, ?_, hx, h⟩
  congr 1
  exact Array.toList_inj.1 (by simpa [Value.cells] using hcs)
/-- a number among a struct's fields -/
theorem trod_i64 {t : TypeId} (ht : P.underlying t = some (.int .i64)) {w : World} {base : Nat} {spare : Nat → Bool} {held : Bool} {fuel : Nat} {c : Value} {x : DataW H × List MemPlace} (h : DataW.trod enc P w base spare held fuel t [c] = some x) : ∃ a : Int, c = .int .i64 a ∧ -9223372036854775808 ≤ a ∧ a ≤ 9223372036854775807 := by
  obtain ⟨a, e, hx, hw⟩ := DataW.trod_int ht h
  simp only [List.cons.injEq, and_true] at e
  exact ⟨a, e, by simpa [Lit.wf, IntKind.min, IntKind.max, IntKind.signed, IntKind.bits] using hw⟩
end
end Go.Abs
