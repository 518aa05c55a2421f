/- An abstract machine over small tables of objects, and its soundness over the given model: no condition. -/
import Derived.Test.YtmhfelkcibfigaaDoorAbs1
import Derived.Below
import Derived.ChangeSame
import Derived.SizedLaws
import Derived.WideKeyArgs
import Derived.OpenShut
import Derived.ChangeSlices
import Derived.WalkKit
import Derived.ProofKit
import Derived.Deep.DeepHandedRow
import Derived.Lib.LaidTab
set_option linter.unusedVariables false
set_option linter.unusedSimpArgs false
namespace Go.Abs

/-! ## Calls on the objects that the arguments reach -/
theorem nth_iff : ∀ {T : Tab} {p : Nat} {o : AObj}, nth T p = some o ↔ T[p]? = some (some o)
  | [], p, o => by simp [nth]
  | x :: r, 0, o => by simp [nth]
  | x :: r, p + 1, o => by simpa [nth] using nth_iff (T := r) (p := p) (o := o)

def reachGo (T : Tab) : Nat → List Nat → List Nat → List Nat
  | 0, _, acc => acc
  | _ + 1, [], acc => acc
  | f + 1, p :: r, acc => match memN p acc with
    | true => reachGo T f r acc
    | false => match nth T p with
      | some o => reachGo T f (r ++ idsV [] o.data) (acc ++ [p])
      | none => acc ++ [p]

def anyObj (T : Tab) (p : Nat) : List Nat → Bool
  | [] => false
  | q :: r => (match nth T q with | some o => hasId p o.data | none => false) || anyObj T p r
def backed (args : List AVal) (T : Tab) : List Nat → List Nat → Bool
  | _, [] => true
  | e, p :: r => (allHas.anyHas p args || anyObj T p e) && backed args T (p :: e) r

theorem hasId_get {p : Nat} {d : AVal} (hd : IsData d) (h : hasId p d = true) : ∃ i, i < d.len ∧ hasId p (d.get i) = true := by
  cases hd with
  | ints k xs => simp [hasId, idsIn] at h
  | agg vs =>
    refine Classical.byContradiction fun hn => ?_
    have : idsInL (fun q => !Nat.beq q p) vs = true := idsInL_of fun i hi => by
      have h1 : ¬ hasId p (vs.getD i un) = true := fun h2 => hn ⟨i, hi, h2⟩
      simpa [hasId] using h1
    simp [hasId, idsIn, this] at h
theorem anyObj_ok {T : Tab} {p : Nat} : ∀ {l : List Nat}, anyObj T p l = true → ∃ q ∈ l, ∃ o, T[q]? = some (some o) ∧ hasId p o.data = true
  | q :: r, h => by
    simp only [anyObj, Bool.or_eq_true] at h
    rcases h with h | h
    · split at h
      · rename_i o ho; exact ⟨q, .head _, o, nth_iff.1 ho, h⟩
      · cases h
    · obtain ⟨q', h1, h2⟩ := anyObj_ok h; exact ⟨q', .tail _ h1, h2⟩
theorem backed_ok {gl : Nat → Option AVal} {ν : Nu} {T : Tab} {w : World} {args : List AVal} {vs : List Value} (hr : HR gl ν T w) (hvs : VRs ν args vs) :
    ∀ {l e : List Nat}, backed args T e l = true → (∀ q ∈ e, (ν q).isSome) → ∀ q ∈ l, (ν q).isSome
  | [], e, h, he, q, hq => by cases hq
  | p :: r, e, h, he, q, hq => by
    simp only [backed, Bool.and_eq_true, Bool.or_eq_true] at h
    have hp : (ν p).isSome := by
      rcases h.1 with h1 | h1
      · obtain ⟨a, ha, hp⟩ := anyHas_ok h1
        obtain ⟨j, hj⟩ := List.mem_iff_getElem?.1 ha
        have hlt := (List.getElem?_eq_some_iff.1 hj).1
        have := hvs.2 j hlt
        rw [show args.getD j un = a by simp [List.getD, hj]] at this
        exact this.hasId hp
      · obtain ⟨q', h2, o, ho, hd⟩ := anyObj_ok h1
        obtain ⟨l, hl⟩ := Option.isSome_iff_exists.1 (he q' h2)
        have hdd := (hr.obj q' o l ho hl).2.1
        obtain ⟨i, hi, hid⟩ := hasId_get hdd hd
        obtain ⟨x, _, hx⟩ := hr.read ho hl hi
        exact hx.hasId hid
    rcases List.mem_cons.1 hq with rfl | hq
    · exact hp
    · refine backed_ok hr hvs h.2 (fun q' hq' => ?_) q hq
      rcases List.mem_cons.1 hq' with rfl | hq'
      · exact hp
      · exact he q' hq'

/-- the small table: all that is reached; what may be written stays its own -/
def smallR (T : Tab) (wr : List Bool) (fps : List Nat) : List Nat → Nat → Option Tab
  | [], _ => some []
  | p :: r, i => match nth T p, smallR T wr fps r (i + 1) with
    | some ⟨d, g, ow, et⟩, some T0 => match idsIn (fun q => memN q fps) d with
      | true => some (some ⟨ren (idxN fps) d, g, nthB wr i && ow, et⟩ :: T0)
      | false => none
    | _, _ => none
theorem smallR_ok {T : Tab} {wr : List Bool} {fps : List Nat} : ∀ {l : List Nat} {i : Nat} {T0 : Tab}, smallR T wr fps l i = some T0 → T0.length = l.length ∧ ∀ j, j < l.length → ∃ o : AObj, T[l.getD j 0]? = some (some o) ∧ idsIn (fun q => memN q fps) o.data = true ∧
    T0[j]? = some (some ⟨ren (idxN fps) o.data, o.g, nthB wr (i + j) && o.own, o.et⟩)
  | [], i, T0, h => by simp [smallR] at h; subst h; exact ⟨rfl, fun j hj => by simp at hj⟩
  | p :: r, i, T0, h => by
    simp only [smallR] at h
    split at h
    · rename_i d g ow et T1 ho hT1
      obtain ⟨l1, l2⟩ := smallR_ok hT1
      split at h
      · rename_i e1
        injection h with h; subst h
        refine ⟨by simp [l1], fun j hj => ?_⟩
        cases j with
        | zero => exact ⟨_, by simpa using nth_some ho, e1, by simp⟩
        | succ j => simpa [Nat.add_assoc, Nat.add_comm 1 j] using l2 j (by simpa using hj)
      · cases h
    · cases h

/-- what is written back -/
def backR (live : Nat → Bool) (r1 : Nat → Nat) (T0 T1 : Tab) : List Nat → Nat → Tab → Option (List Con × Tab)
  | [], _, T => some ([], T)
  | p :: r, i, T => match nth T0 i, nth T1 i with
    | some o0, some ⟨d, g, ow, et⟩ => match o0.own with
      | true => match ow, idsIn live d with
        | true, true => backR live r1 T0 T1 r (i + 1) (T.set p (some ⟨ren r1 d, g, true, et⟩))
        | _, _ => none
      | false => match backR live r1 T0 T1 r (i + 1) T with
        | some (cs, T') => some (.eqN g o0.g :: cs, T')
        | none => none
    | _, _ => none
def ownAt (T0 : Tab) (i : Nat) : Prop := ∃ o : AObj, T0[i]? = some (some o) ∧ o.own = true
theorem backR_ok {live : Nat → Bool} {r1 : Nat → Nat} {T0 T1 : Tab} : ∀ {l : List Nat} {i : Nat} {T : Tab} {cs : List Con} {T' : Tab}, backR live r1 T0 T1 l i T = some (cs, T') → allP cs → l.Nodup → (∀ p ∈ l, p < T.length) →
    T'.length = T.length ∧ (∀ p, (∀ j, j < l.length → ownAt T0 (i + j) → p ≠ l.getD j 0) → T'[p]? = T[p]?) ∧
    (∀ j, j < l.length → ownAt T0 (i + j) → ∃ o1, T1[i + j]? = some (some o1) ∧ o1.own = true ∧ idsIn live o1.data = true ∧ T'[l.getD j 0]? = some (some (renO r1 o1))) ∧
    (∀ j, j < l.length → ¬ ownAt T0 (i + j) → ∃ o0 o1, T0[i + j]? = some (some o0) ∧ T1[i + j]? = some (some o1) ∧ o1.g = o0.g)
  | [], i, T, cs, T', h, hc, hn, hl => by
    simp [backR] at h; obtain ⟨_, rfl⟩ := h
    exact ⟨rfl, fun p _ => rfl, fun j hj => by simp at hj, fun j hj => by simp at hj⟩
  | p :: r, i, T, cs, T', h, hc, hn, hl => by
    simp only [backR] at h
    obtain ⟨hn1, hn2⟩ := List.nodup_cons.1 hn
    split at h
    · rename_i o0 d g ow et h0 h1
      have h0 := nth_iff.1 h0
      have h1 := nth_iff.1 h1
      split at h
      · rename_i hw
        have hown : ownAt T0 i := ⟨o0, h0, hw⟩
        split at h
        · have e2 : idsIn live d = true := by assumption
          obtain ⟨a1, a2, a3, a4⟩ := backR_ok h hc hn2 (fun q hq => by simpa using hl q (.tail _ hq))
          refine ⟨by simpa using a1, fun q hq => ?_, fun j hj hwj => ?_, fun j hj hwj => ?_⟩
          · rw [a2 q (fun j hj hwj => by
              have := hq (j + 1) (by simpa using hj) (by rwa [show i + (j + 1) = i + 1 + j by omega])
              simpa using this)]
            have := hq 0 (by simp) (by simpa using hown)
            rw [List.getElem?_set_ne]
            simp at this; exact fun e => this e.symm
          · cases j with
            | zero =>
              refine ⟨⟨d, g, true, et⟩, by simpa using h1, rfl, e2, ?_⟩
              simp only [List.getD_cons_zero]
              rw [a2 p (fun j hj _ => fun e => hn1 (by rw [e, getD_el hj]; exact List.getElem_mem _))]
              rw [List.getElem?_set_self (hl p (.head _))]
              rfl
            | succ j => simpa [Nat.add_assoc, Nat.add_comm 1 j] using a3 j (by simpa using hj) (by rwa [show i + 1 + j = i + (j + 1) by omega])
          · cases j with
            | zero => exact absurd hown (by simpa using hwj)
            | succ j => simpa [Nat.add_assoc, Nat.add_comm 1 j] using a4 j (by simpa using hj) (by rwa [show i + 1 + j = i + (j + 1) by omega])
        · cases h
      · rename_i hw
        have hown : ¬ ownAt T0 i := by
          rintro ⟨o, e1, e2⟩
          rw [h0] at e1; injection e1 with e1; injection e1 with e1; subst e1
          rw [hw] at e2; cases e2
        split at h
        · rename_i cs' T2 hb
          injection h with h; injection h with e1 e2; subst e1 e2
          obtain ⟨a1, a2, a3, a4⟩ := backR_ok hb hc.2 hn2 (fun q hq => hl q (.tail _ hq))
          refine ⟨a1, fun q hq => a2 q (fun j hj hwj => ?_), fun j hj hwj => ?_, fun j hj hwj => ?_⟩
          · have := hq (j + 1) (by simpa using hj) (by rwa [show i + (j + 1) = i + 1 + j by omega])
            simpa using this
          · cases j with
            | zero => exact absurd (by simpa using hwj) hown
            | succ j => simpa [Nat.add_assoc, Nat.add_comm 1 j] using a3 j (by simpa using hj) (by rwa [show i + 1 + j = i + (j + 1) by omega])
          · cases j with
            | zero => exact ⟨o0, ⟨d, g, ow, et⟩, by simpa using h0, by simpa using h1, hc.1⟩
            | succ j => simpa [Nat.add_assoc, Nat.add_comm 1 j] using a4 j (by simpa using hj) (by rwa [show i + 1 + j = i + (j + 1) by omega])
        · cases h
    · cases h

/-- the new objects that are reached -/
def newsGo (k : Nat) (T1 : Tab) : Nat → List Nat → List Nat → List Nat
  | 0, _, acc => acc
  | _ + 1, [], acc => acc
  | f + 1, p :: r, acc => match Nat.blt p k || memN p acc with
    | true => newsGo k T1 f r acc
    | false => match nth T1 p with
      | some o => newsGo k T1 f (r ++ idsV [] o.data) (acc ++ [p])
      | none => acc ++ [p]
def ownIds : Tab → Tab → List Nat
  | some o0 :: T0, some o1 :: T1 => match o0.own with
    | true => idsV [] o1.data ++ ownIds T0 T1
    | false => ownIds T0 T1
  | _ :: T0, _ :: T1 => ownIds T0 T1
  | _, _ => []
def newsR (k : Nat) (live : Nat → Bool) (r1 : Nat → Nat) (T1 : Tab) : List Nat → Option Tab
  | [] => some []
  | q :: r => match nth T1 q, newsR k live r1 T1 r with
    | some ⟨d, g, ow, et⟩, some N => match ow, idsIn live d, Nat.ble k q with
      | true, true, true => some (some ⟨ren r1 d, g, true, et⟩ :: N)
      | _, _, _ => none
    | _, _ => none
theorem newsR_ok {k : Nat} {live : Nat → Bool} {r1 : Nat → Nat} {T1 : Tab} : ∀ {l : List Nat} {N : Tab}, newsR k live r1 T1 l = some N → N.length = l.length ∧ ∀ j, j < l.length → ∃ o, k ≤ l.getD j 0 ∧ T1[l.getD j 0]? = some (some o) ∧ o.own = true ∧ idsIn live o.data = true ∧ N[j]? = some (some (renO r1 o))
  | [], N, h => by simp [newsR] at h; subst h; exact ⟨rfl, fun j hj => by simp at hj⟩
  | q :: r, N, h => by
    simp only [newsR] at h
    split at h
    · rename_i d g ow et N' ho hN
      split at h
      · rename_i e1 e2
        injection h with h; subst h
        obtain ⟨l1, l2⟩ := newsR_ok hN
        refine ⟨by simp [l1], fun j hj => ?_⟩
        cases j with
        | zero => exact ⟨_, Nat.le_of_ble_eq_true e2, by simpa using nth_some ho, rfl, e1, by simp [renO]⟩
        | succ j => simpa using l2 j (by simpa using hj)
      · cases h
    · cases h

def liveR (k : Nat) (news : List Nat) (i : Nat) : Bool := Nat.blt i k || memN i news
def callGoN (news : List Nat) (cs : List Con) (v : AVal) (T1 : Tab) (fps : List Nat) (args : List AVal) (T T0 : Tab) : Res :=
  match newsR fps.length (liveR fps.length news) (backId fps news T.length) T1 news, backR (liveR fps.length news) (backId fps news T.length) T0 T1 fps 0 T with
  | some N, some (cs2, T2) =>
    match nodupN fps && nodupN news && idsInL (fun p => memN p fps) args && backed args T [] fps && idsIn (liveR fps.length news) v with
    | true => ⟨cs2 ++ cs, ren (backId fps news T.length) v, T2 ++ N⟩
    | false => fail
  | _, _ => fail
def callGoR (sm : Res) (fps : List Nat) (args : List AVal) (T T0 : Tab) : Res :=
  match sm with
  | ⟨cs, v, T1⟩ => callGoN (newsGo fps.length T1 1000 (idsV [] v ++ ownIds T0 T1) []) cs v T1 fps args T T0
def callF (sm : Summary) (wr : List Bool) (fps : List Nat) (args : List AVal) (T : Tab) : Res :=
  match smallR T wr fps fps 0 with
  | some T0 => callGoR (sm (rens (idxN fps) args) T0) fps args T T0
  | none => fail
/-- a call: the callee on a small table of what the arguments reach -/
def callR (sm : Summary) (wr : List Bool) : Summary := fun args T => callF sm wr (reachGo T 1000 (idsVs [] args) []) args T

theorem callGoN_ok {P : Program} {gl : Nat → Option AVal} {f : FuncId} {args : List AVal} {T T0 T1 : Tab} {wr : List Bool} {fps news : List Nat} {ν : Nu} {w : World} {vs : Array Value} {cs : List Con} {v : AVal}
    (hT0 : smallR T wr fps fps 0 = some T0) (hS : allP cs → Small P gl f (rens (idxN fps) args) T0 v T1) (hc : allP (callGoN news cs v T1 fps args T T0).cs) (hr : HR gl ν T w) (hvs : VRs ν args vs.toList) :
    Calls P f vs w fun e w' => ∃ x, e = .returned x ∧ OpPost gl ν T w T.length ⟨[], (callGoN news cs v T1 fps args T T0).val, (callGoN news cs v T1 fps args T T0).tab⟩ x w' := by
  unfold callGoN at hc ⊢
  have nofail : ¬ allP fail.cs := by simp [fail, allP, Con.h]
  cases hN : newsR fps.length (liveR fps.length news) (backId fps news T.length) T1 news with
  | none => simp only [hN] at hc; exact absurd hc nofail
  | some N =>
    cases hB : backR (liveR fps.length news) (backId fps news T.length) T0 T1 fps 0 T with
    | none => simp only [hN, hB] at hc; exact absurd hc nofail
    | some q =>
      obtain ⟨cs2, T2⟩ := q
      simp only [hN, hB] at hc ⊢
      split at hc
      rotate_left
      · exact absurd hc nofail
      rename_i hck
      simp only [hck]
      simp only [Bool.and_eq_true] at hck
      obtain ⟨⟨⟨⟨k1, k2⟩, k3⟩, k4⟩, k5⟩ := hck
      rw [allP_append] at hc
      have hsm := hS hc.2
      have nd1 := nodupN_ok k1
      have nd2 := nodupN_ok k2
      obtain ⟨s1, s2⟩ := smallR_ok hT0
      obtain ⟨n1, n2⟩ := newsR_ok hN
      simp only [Nat.zero_add] at s2
      have hin : ∀ p ∈ fps, p < T.length := fun p hp => by
        obtain ⟨h1, h2⟩ := idxN_get hp
        obtain ⟨o, h3, _⟩ := s2 _ h1
        rw [h2] at h3
        exact (List.getElem?_eq_some_iff.1 h3).1
      obtain ⟨b1, b2, b3, b4⟩ := backR_ok hB hc.1 nd1 hin
      simp only [Nat.zero_add] at b2 b3 b4
      have hold : ∀ i, i < fps.length → backId fps news T.length i = fps.getD i 0 := fun i hi => by
        have : Nat.blt i fps.length = true := by simpa using hi
        simp only [backId, this, nthN_eq]
      have hnew : ∀ i, fps.length ≤ i → backId fps news T.length i = T.length + idxN news i := fun i hi => by
        have : Nat.blt i fps.length = false := by
          cases hb : Nat.blt i fps.length with
          | false => rfl
          | true => have : i < fps.length := by simpa using hb
                    omega
        simp [backId, this]
      have args_back : (rens (idxN fps) args).map (ren fun i => fps.getD i 0) = args := by
        rw [← rens_map]
        exact rens_rens (live := fun p => memN p fps) (fun p hp => (idxN_get (memN_ok.1 hp)).2) args k3
      have hlive : ∀ i, fps.length ≤ i → liveR fps.length news i = true → i ∈ news := fun i hi h => by
        simp only [liveR, Bool.or_eq_true] at h
        rcases h with h | h
        · have : i < fps.length := by simpa using h
          omega
        · exact memN_ok.1 h
      have := embed (k := fps.length) (T' := T2 ++ N) (fp := fun i => fps.getD i 0) (r1 := backId fps news T.length) (own0 := ownAt T0) (live := liveR fps.length news) hsm
        ⟨s1, fun i hi => ?_, fun i j hi hj hne _ he => hne (nodup_getD nd1 hi hj he)⟩
        ⟨by simp [b1], fun p hp hno => ?_, fun i hi hw => ?_, fun i hi hw => b4 i hi hw, fun p h1 h2 => ?_, fun i hi => ⟨by simp [liveR, hi], hold i hi⟩, fun i hi h => ?_, fun i j hi hj h h' he => ?_⟩
        ?_ k5 hr (by rw [args_back]; exact hvs) ?_
      · exact this
      · obtain ⟨o, e1, e2, e3⟩ := s2 i hi
        refine ⟨_, o, e3, e1, rfl, ?_, ?_, fun h => ?_, ?_⟩
        · exact (ren_ren (live := fun p => memN p fps) (fun p hp => (idxN_get (memN_ok.1 hp)).2) _ e2).symm
        · exact idsIn_ren (live := fun p => memN p fps) (fun p hp => by simpa using (idxN_get (memN_ok.1 hp)).1) _ e2
        · simp only [Bool.and_eq_true] at h; exact ⟨h.2, rfl⟩
        · exact ⟨fun h => ⟨_, e3, h⟩, fun ⟨o', h1, h2⟩ => by rw [e3] at h1; injection h1 with h1; injection h1 with h1; subst h1; exact h2⟩
      · rw [List.getElem?_append_left (by omega)]
        exact b2 p fun j hj hw => hno j hj hw
      · obtain ⟨o1, e1, e2, e3, e4⟩ := b3 i hi hw
        refine ⟨o1, e1, e2, ?_, e3⟩
        have hlt := (List.getElem?_eq_some_iff.1 e4).1
        rw [List.getElem?_append_left hlt, e4]
      · have hj : p - T.length < news.length := by simp [b1, n1] at h2; omega
        obtain ⟨o, hge, e1, e2, e3, e4⟩ := n2 _ hj
        have hmem : news.getD (p - T.length) 0 ∈ news := by rw [getD_el hj]; exact List.getElem_mem _
        have hidx := idxN_get hmem
        have hpos : idxN news (news.getD (p - T.length) 0) = p - T.length := nodup_getD nd2 hidx.1 hj hidx.2
        refine ⟨_, o, hge, by simp only [liveR]; rw [memN_ok.2 hmem, Bool.or_true], by rw [hnew _ hge, hpos]; omega, e1, e2, ?_, e3⟩
        rw [List.getElem?_append_right (by omega), b1, e4]
      · rw [hnew i hi]
        have := (idxN_get (hlive i hi h)).1
        simp [b1, n1]; omega
      · rw [hnew i hi, hnew j hj] at he
        have e1 := (idxN_get (hlive i hi h)).2
        have e2 := (idxN_get (hlive j hj h')).2
        rw [← e1, ← e2]
        congr 1; omega
      · exact fun a ha => idsInL_mem (idsInL_ren (live := fun p => memN p fps) (fun p hp => by simpa using (idxN_get (memN_ok.1 hp)).1) args k3) a ha
      · intro i hi
        exact backed_ok hr hvs k4 (fun q hq => by cases hq) _ (by rw [getD_el hi]; exact List.getElem_mem _)

/-- what has to be shown of a specification -/
def SmOk (P : Program) (gl : Nat → Option AVal) (f : FuncId) (sm : Summary) : Prop := ∀ args T0, allP (sm args T0).cs → Small P gl f args T0 (sm args T0).val (sm args T0).tab
theorem callR_ok {P : Program} {gl : Nat → Option AVal} {f : FuncId} {sm : Summary} (h : SmOk P gl f sm) (wr : List Bool) : SumOk P gl f (callR sm wr) := by
  refine sumOk_of fun args T hc ν w vs hr hv => ?_
  unfold callR at hc ⊢
  generalize reachGo T 1000 (idsVs [] args) [] = fps at hc ⊢
  unfold callF at hc ⊢
  cases hT0 : smallR T wr fps fps 0 with
  | none => rw [hT0] at hc; exact absurd hc (by simp [fail, allP, Con.h])
  | some T0 =>
    rw [hT0] at hc
    simp only at hc ⊢
    unfold callGoR at hc ⊢
    have h1 := h (rens (idxN fps) args) T0
    generalize sm (rens (idxN fps) args) T0 = r at h1 hc ⊢
    obtain ⟨cs, v, T1⟩ := r
    exact callGoN_ok hT0 h1 hc hr hv
/-- a body's run, as such -/
def smRun (m : Mode) (E : Env) (fn : Func) (orc : OrcL) (fuel : Nat) (ds : List (Option Bool)) : Summary := fun args T0 => settled m (runF E fn orc fuel args T0 ds)
theorem smRun_ok {m : Mode} {E : Env} (hE : EnvOk E) (hm : E.P.follows .mixedOrders = true) {f : FuncId} {fn : Func} (hf : E.P.funcs[f]? = some fn) (hb : fn.body.isSome = true) (orc : OrcL) (hO : FnOrc E fn orc) (fuel : Nat) (ds : List (Option Bool)) : SmOk E.P E.gl f (smRun m E fn orc fuel ds) := by
  intro args T0 hc
  unfold smRun at hc ⊢
  obtain ⟨h1, h2, h3⟩ := settled_ok hc
  rw [h2, h3]
  exact runF_small hE hm hf hb orc hO fuel ds h1
/-- a function's summary: its body, run at the call -/
def sumI (m : Mode) (E : Env) (fn : Func) (orc : OrcL) (fuel : Nat) (ds : List (Option Bool)) (wr : List Bool) : Summary := callR (smRun m E fn orc fuel ds) wr
theorem sumI_ok {m : Mode} {E : Env} (hE : EnvOk E) (hm : E.P.follows .mixedOrders = true) {f : FuncId} {fn : Func} (hf : E.P.funcs[f]? = some fn) (hb : fn.body.isSome = true) (orc : OrcL) (hO : FnOrc E fn orc) (fuel : Nat) (ds : List (Option Bool)) (wr : List Bool) :
    SumOk E.P E.gl f (sumI m E fn orc fuel ds wr) := callR_ok (smRun_ok hE hm hf hb orc hO fuel ds) wr
end Go.Abs

set_option linter.unusedVariables false
set_option linter.unusedSimpArgs false
namespace Go.Abs

/-! ## Words for proofs: nothing here unfolds by itself -/
structure Ok (o : Out) : Prop where h : allP o.cs
structure OkR (r : Res) : Prop where h : allP r.cs
def To (E : Env) (n k : Nat) (c : Code) (fm : Fm) (T : Tab) (ex : AExit) (fm' : Fm) (T' : Tab) : Prop := AWp E n k c fm T fun e f t => e = ex ∧ f = fm' ∧ t = T'

theorem Ok.of {o : Out} {cs : List Con} (e : o.cs = cs) (h : allP cs) : Ok o := ⟨e ▸ h⟩
theorem OkR.of {o : Res} {cs : List Con} (e : o.cs = cs) (h : allP cs) : OkR o := ⟨e ▸ h⟩
theorem To.is {E : Env} {n k : Nat} {c : Code} {fm : Fm} {T : Tab} {o : Out} (h : To E n k c fm T o.ex o.fm o.tab) : AWp E n k c fm T (Is o) := h
theorem To.of {E : Env} (hE : EnvOk E) (hm : E.P.follows .mixedOrders = true) {n k m : Nat} {orc : Orc} (hk : k ≤ orc.kb) {c : Code} (hO : OrcOk E n orc c) {f : Nat} {fm : Fm} {T : Tab} {ds : List (Option Bool)} {slots : List Nat} {o : Out}
    (ho : trim k m slots (run E n orc f c fm T ds) = o) (h : Ok o) {ex : AExit} {fm' : Fm} {T' : Tab} (e1 : o.ex = ex) (e2 : o.fm = fm') (e3 : o.tab = T') : To E n k c fm T ex fm' T' := by
  subst e1 e2 e3
  exact run_trim' hE hm m orc hk hO f ds slots ho h.h
theorem To.base {E : Env} {n k kb : Nat} {c : Code} {fm : Fm} {T : Tab} {ex : AExit} {fm' : Fm} {T' : Tab} (hk : k ≤ kb) (h : To E n kb c fm T ex fm' T') : To E n k c fm T ex fm' T' := AWp.base hk h

/-- a counted loop in its block, and out of it -/
theorem To.rounds {E : Env} {n k : Nat} {id : Nat} {c : Code} (F : Nat → Fm) (T : Nat → Tab) (N : Nat) {fm' : Fm} {T' : Tab}
    (round : ∀ i, i < N → To E n k c (F i) (T i) .normal (F (i + 1)) (T (i + 1))) (last : To E n k c (F N) (T N) (.exit id) fm' T') : To E n k (.block id (.loop c)) (F 0) (T 0) .normal fm' T' := by
  refine AWp.block ?_
  refine AWp.loop (fun fm T' m => ∃ i, i ≤ N ∧ m = N - i ∧ fm = F i ∧ T' = T i) N ⟨0, Nat.zero_le _, rfl, rfl, rfl⟩ ?_
  rintro fm T1 m ⟨i, hi, rfl, rfl, rfl⟩
  rcases Nat.lt_or_ge i N with hlt | hge
  · refine (round i hlt).mono fun ex fm1 T1 ⟨e1, e2, e3⟩ => ?_
    subst e1 e2 e3
    exact ⟨N - (i + 1), by omega, i + 1, hlt, rfl, rfl, rfl⟩
  · have : i = N := by omega
    subst this
    refine last.mono fun ex fm1 T1 ⟨e1, e2, e3⟩ => ?_
    subst e1 e2 e3
    simp
/-- the same, where the last round leaves the block too -/
theorem To.roundsRet {E : Env} {n k : Nat} {id : Nat} {c : Code} (F : Nat → Fm) (T : Nat → Tab) (N : Nat) {ex : AExit} {fm' : Fm} {T' : Tab}
    (round : ∀ i, i < N → To E n k c (F i) (T i) .normal (F (i + 1)) (T (i + 1))) (last : To E n k c (F N) (T N) ex fm' T') (hx : ex ≠ .normal) (hi : ex ≠ .exit id) : To E n k (.block id (.loop c)) (F 0) (T 0) ex fm' T' := by
  refine AWp.block ?_
  refine AWp.loop (fun fm T' m => ∃ i, i ≤ N ∧ m = N - i ∧ fm = F i ∧ T' = T i) N ⟨0, Nat.zero_le _, rfl, rfl, rfl⟩ ?_
  rintro fm T1 m ⟨i, hi', rfl, rfl, rfl⟩
  rcases Nat.lt_or_ge i N with hlt | hge
  · refine (round i hlt).mono fun ex fm1 T1 ⟨e1, e2, e3⟩ => ?_
    subst e1 e2 e3
    exact ⟨N - (i + 1), by omega, i + 1, hlt, rfl, rfl, rfl⟩
  · have : i = N := by omega
    subst this
    refine last.mono fun e fm1 T1 ⟨e1, e2, e3⟩ => ?_
    subst e1 e2 e3
    cases e with
    | normal => exact absurd rfl hx
    | exit id' =>
      have : id' ≠ id := fun h => hi (by rw [h])
      simp [this]
    | goto l => simp
    | ret => simp

/-- the values of some slots -/
def pickV (m : Nat) (fm : Fm) : List Nat → Option (List AVal)
  | [] => some []
  | t :: r => match look fm t, pickV m fm r with
    | some v, some vs => match idsIn (fun i => Nat.blt i m) v with
      | true => some (v :: vs)
      | false => none
    | _, _ => none
def zipF : List Nat → List AVal → Fm
  | t :: r, v :: vs => (t, v) :: zipF r vs
  | _, _ => []
theorem pickV_ok {m : Nat} {fm : Fm} : ∀ {l : List Nat} {vs : List AVal}, pickV m fm l = some vs → pickF m fm l = some (zipF l vs)
  | [], vs, h => by simp [pickV] at h; subst h; rfl
  | t :: r, vs, h => by
    simp only [pickV] at h
    split at h
    · rename_i v us h1 h2
      split at h
      · rename_i h3
        injection h with h; subst h
        simp only [pickF, h1, pickV_ok h2, h3, zipF]
      · cases h
    · cases h
/-- what is told of a block, by the values of some slots and the first m objects -/
def blkS (m : Nat) (slots : List Nat) (g : List AVal → Tab → Out) : Nat → Fm → Tab → List (Option Bool) → Out := fun kb fm T ds =>
  match Nat.ble kb m && (Nat.ble m T.length && tabIn m (takeT m T)), pickV m fm slots with
  | true, some vs => match g vs (takeT m T) with
    | ⟨cs, ex, fm', T', _⟩ => ⟨cs, ex, fm', T', ds⟩
  | _, _ => failO
theorem blkS_ok {E : Env} {fn : Func} {id : Nat} {c : Code} {m : Nat} {slots : List Nat} {g : List AVal → Tab → Out}
    (hg : ∀ vs T, Ok (g vs T) → To E fn.ntmps m (.block id c) (zipF slots vs) T (g vs T).ex (g vs T).fm (g vs T).tab) : BlkOk E fn id c (blkS m slots g) := by
  intro kb fm T ds hc
  unfold blkS at hc ⊢
  cases hb : Nat.ble kb m && (Nat.ble m T.length && tabIn m (takeT m T)) with
  | false => rw [hb] at hc; exact absurd hc failO_no
  | true =>
    cases hp : pickV m fm slots with
    | none => rw [hb, hp] at hc; exact absurd hc failO_no
    | some vs =>
      rw [hb, hp] at hc
      simp only at hc ⊢
      have h1 := hg vs (takeT m T)
      generalize g vs (takeT m T) = o at h1 hc ⊢
      obtain ⟨cs, ex, fm', T', ds'⟩ := o
      simp only [Bool.and_eq_true] at hb
      refine AWp.base (Nat.le_of_ble_eq_true hb.1) ?_
      exact AWp.enter (k := m) (m := m) (pickV_ok hp) (by simp only [Bool.and_eq_true]; exact ⟨⟨Nat.ble_eq_true_of_le (Nat.le_refl m), hb.2.1⟩, hb.2.2⟩) (h1 ⟨hc⟩)

/-- nothing is a slice of an empty object -/
theorem AWp.nilTo {E : Env} {n k : Nat} {c : Code} {fm : Fm} (fm' : Fm) {T : Tab} {post : AExit → Fm → Tab → Prop} (kk : IntKind) (et : TypeId)
    (hf : ∀ t v, look fm' t = some v → look fm t = some v ∨ (look fm t = some .nilSlice ∧ ∃ sz, v = .slice sz T.length 0 0 0 none))
    (h : AWp E n k c fm' (T ++ [some ⟨.ints kk [], 0, true, et⟩]) post) : AWp E n k c fm T post := by
  intro rr D ν a w hs hrd
  have hn : ν T.length = none := by
    cases hν : ν T.length with
    | none => rfl
    | some l => have := hs.hr.lt _ l hν; omega
  obtain ⟨l0, hl0⟩ : ∃ l0 : Loc, l0 = ⟨⟨0, 0, none⟩, 0, 0⟩ := ⟨_, rfl⟩
  have hm : NuLe ν (upd ν T.length l0) := NuLe.upd_new (ν := ν) l0 hn
  have same : ∀ p, p ≠ T.length → upd ν T.length l0 p = ν p := fun p hp => upd_other ν l0 hp
  have self : upd ν T.length l0 T.length = some l0 := upd_same ν _ l0
  have getT : ∀ p o, (T ++ [some (⟨.ints kk [], 0, true, et⟩ : AObj)])[p]? = some o → (p < T.length ∧ T[p]? = some o) ∨ (p = T.length ∧ o = some ⟨.ints kk [], 0, true, et⟩) := by
    intro p o ho
    rcases Nat.lt_or_ge p T.length with hp | hp
    · rw [List.getElem?_append_left hp] at ho; exact .inl ⟨hp, ho⟩
    · rw [List.getElem?_append_right hp] at ho
      have hlt := (List.getElem?_eq_some_iff.1 ho).1
      have hp0 : p = T.length := by simp at hlt; omega
      subst hp0
      simp at ho
      exact .inr ⟨rfl, ho.symm⟩
  have hown : ∀ b, Own (upd ν T.length l0) (T ++ [some ⟨.ints kk [], 0, true, et⟩]) b → Own ν T b := by
    rintro b ⟨p, o, l, h1, h2, h3, h4, h5⟩
    rcases getT p _ h1 with ⟨hp, h1⟩ | ⟨hp, h1⟩
    · rw [same p (by omega)] at h3; exact ⟨p, o, l, h1, h2, h3, h4, h5⟩
    · subst hp; rw [self] at h3; injection h3 with h3; subst h3; subst hl0; simp at h4
  have hr' : HR E.gl (upd ν T.length l0) (T ++ [some ⟨.ints kk [], 0, true, et⟩]) w := by
    refine ⟨fun p o l ho hl => ?_, fun p l hl => ?_, fun p hp => ?_, fun p l hl h0 => ?_, fun p q o o' l l' ho ho' hw hne hl hl' h0 h0' => ?_, fun b d hb => ?_⟩
    · rcases getT p _ ho with ⟨hp, h1⟩ | ⟨hp, h1⟩
      · rw [same p (by omega)] at hl
        obtain ⟨g1, g2⟩ := hs.hr.obj p o l h1 hl
        exact ⟨g1, g2.kept hm fun _ => rfl⟩
      · subst hp; rw [self] at hl; injection hl with hl; subst hl; subst hl0
        injection h1 with h1; subst h1
        exact ⟨rfl, .ints _ _, .inr (.inr ⟨rfl, rfl⟩)⟩
    · by_cases e : p = T.length
      · subst e; simp
      · rw [same p e] at hl; have := hs.hr.lt p l hl; simp; omega
    · rcases getT p _ hp with ⟨hp', h1⟩ | ⟨hp', h1⟩
      · rw [same p (by omega)]; exact hs.hr.hole p h1
      · cases h1
    · by_cases e : p = T.length
      · subst e; rw [self] at hl; injection hl with hl; subst hl; subst hl0; simp at h0
      · rw [same p e] at hl; exact hs.hr.blk p l hl h0
    · rcases getT p _ ho with ⟨hp, h1⟩ | ⟨hp, h1⟩
      · rcases getT q _ ho' with ⟨hq, h2⟩ | ⟨hq, h2⟩
        · rw [same p (by omega)] at hl; rw [same q (by omega)] at hl'
          exact hs.hr.sep p q o o' l l' h1 h2 hw hne hl hl' h0 h0'
        · subst hq; rw [self] at hl'; injection hl' with hl'; subst hl'; subst hl0; simp at h0'
      · subst hp; rw [self] at hl; injection hl with hl; subst hl; subst hl0; simp at h0
    · obtain ⟨h1, h2⟩ := hs.hr.glob b d hb
      exact ⟨fun h3 => h1 (hown b h3), h2⟩
  have hs' : SRel E D (upd ν T.length l0) fm' (T ++ [some ⟨.ints kk [], 0, true, et⟩]) n a w := by
    refine ⟨hr', fun t v hv => ?_, hs.size, hs.defers⟩
    rcases hf t v hv with h1 | ⟨h1, sz, rfl⟩
    · exact (hs.fm t v h1).mono hm
    · have := hs.fm t _ h1
      generalize a.tmps.getD t undef = x at this ⊢
      cases this
      exact .sliceZ none self (by rw [hl0]) (.inr ⟨rfl, by rw [hl0]; exact Nat.le_refl _⟩)
  refine wpIn_mono (h rr D _ a w hs' hrd) fun e a' w' ⟨ex, f1, T1, ν1, h1, h2, h3, h4, h5⟩ => ⟨ex, f1, T1, ν1, h1, h2, h3, fun p hp l hl => ?_, ?_⟩
  · have := hs.hr.lt p l hl
    exact h4 p hp l (by rw [same p (by omega)]; exact hl)
  · exact ⟨h5.os, h5.tape, h5.output, h5.size, fun b hb hO => h5.block b hb (fun h => hO (hown b h)), fun b hb => (h5.own b hb).imp (hown b) id⟩

open Go.RowKit in
/-- a law over plain values -/
theorem calls_plain {P : Program} {f : FuncId} {args : List AVal} {v : AVal} {T1 : Tab} (h : Small P (fun _ => none) f args [] v T1) {w : World} {vs : Array Value} {x : Value} (hx : ∀ ν y, VR ν v y → y = x) (hv : VRs (fun _ => none) args vs.toList) :
    Calls P f vs w fun e w' => e = .returned x ∧ Below w.heap.size w w' := by
  refine (h (fun _ => none) w vs ⟨fun p o l ho => (by simp at ho), fun p l hl => (by cases hl), fun p hp => (by simp at hp), fun p l hl => (by cases hl), fun p q o o' l l' ho => (by simp at ho), fun b d hb => (by cases hb)⟩ hv).mono ?_
  rintro e w' ⟨y, ν', rfl, h1, h2, h3, h4⟩
  refine ⟨by rw [hx _ _ h1], h4.os, h4.tape, h4.output, h4.size, fun b hb => h4.block b hb ?_⟩
  rintro ⟨p, o, l, ho, _⟩
  simp at ho

/-! ## Demands: those that are flagged are computed, the same ones compared, the rest shown -/
def chkF : List Bool → List Con → Bool
  | _, [] => true
  | true :: fl, c :: cs => match c.chk modeB with
    | some true => chkF fl cs
    | _ => false
  | _ :: fl, _ :: cs => chkF fl cs
  | [], _ :: _ => false
def restF : List Bool → List Con → List Con
  | true :: fl, _ :: cs => restF fl cs
  | false :: fl, c :: cs => match c with
    | .tab _ _ => restF fl cs
    | .val _ _ => restF fl cs
    | c => c :: restF fl cs
  | _, _ => []
theorem demands : ∀ {fl : List Bool} {cs : List Con}, chkF fl cs = true → lefts cs = rights cs → allP (restF fl cs) → allP cs
  | _, [], _, _, _ => trivial
  | [], _ :: _, h, _, _ => by simp [chkF] at h
  | true :: fl, c :: cs, h1, h2, h3 => by
    simp only [chkF] at h1
    split at h1
    · rename_i hk
      have hc := Con.chk_ok hk
      refine ⟨hc, demands h1 ?_ h3⟩
      cases c <;> simp only [lefts, rights] at h2 ⊢ <;> first | exact h2 | (injection h2)
    · cases h1
  | false :: fl, c :: cs, h1, h2, h3 => by
    simp only [chkF] at h1
    cases c with
    | tab a b =>
      simp only [lefts, rights] at h2
      injection h2 with h4 h5
      exact ⟨h4, demands h1 h5 h3⟩
    | val a b =>
      simp only [lefts, rights] at h2
      injection h2 with h4 h5
      injection h4 with h4 _
      injection h4 with h4
      injection h4 with h4
      exact ⟨h4, demands h1 h5 h3⟩
    | _ => exact ⟨h3.1, demands h1 h2 h3.2⟩
theorem Ok.dem {o : Out} {fl : List Bool} {l : List Con} (h1 : chkF fl o.cs = true) (h2 : lefts o.cs = rights o.cs) (h3 : restF fl o.cs = l) (h : allP l) : Ok o := ⟨demands h1 h2 (h3 ▸ h)⟩
theorem OkR.dem {o : Res} {fl : List Bool} {l : List Con} (h1 : chkF fl o.cs = true) (h2 : lefts o.cs = rights o.cs) (h3 : restF fl o.cs = l) (h : allP l) : OkR o := ⟨demands h1 h2 (h3 ▸ h)⟩

/-- a body's run, as a contract -/
theorem small_of {E : Env} (hE : EnvOk E) (hm : E.P.follows .mixedOrders = true) {f : FuncId} {fn : Func} (hf : E.P.funcs[f]? = some fn) (hb : fn.body.isSome = true) {orc : OrcL} (hO : FnOrc E fn orc) {fuel : Nat} {args : List AVal} {T : Tab} {ds : List (Option Bool)} {R : Res}
    (hR : runF E fn orc fuel args T ds = R) (h : OkR R) {v : AVal} {T1 : Tab} (hv : R.val = v) (ht : R.tab = T1) : Small E.P E.gl f args T v T1 := by
  subst hv ht hR
  exact runF_small hE hm hf hb orc hO fuel ds h.h
theorem nofail : ¬ allP fail.cs := by simp [fail, allP, Con.h]
theorem nofailO : ¬ Ok failO := fun h => failO_no h.h

theorem nn_xor {k : IntKind} {a b : Int} (ha : nonneg k a) (hb : nonneg k b) : nonneg k (ixor a b) := by
  rw [nonneg_iff] at *
  exact ⟨Int.natCast_nonneg _, by simp only [ixor, Int.toNat_natCast]; exact Nat.xor_lt_two_pow ha.2 hb.2⟩
theorem nn_or {k : IntKind} {a b : Int} (ha : nonneg k a) (hb : nonneg k b) : nonneg k (ior a b) := by
  rw [nonneg_iff] at *
  exact ⟨Int.natCast_nonneg _, by simp only [ior, Int.toNat_natCast]; exact Nat.or_lt_two_pow ha.2 hb.2⟩
theorem nn_and {k : IntKind} {a b : Int} (ha : nonneg k a) (hb : nonneg k b) : nonneg k (iand a b) := by
  rw [nonneg_iff] at *
  exact ⟨Int.natCast_nonneg _, by simp only [iand, Int.toNat_natCast]; exact Nat.lt_of_le_of_lt Nat.and_le_left ha.2⟩
theorem nn8 {a : Int} : nonneg .u8 a ↔ 0 ≤ a ∧ a < 256 := Iff.rfl
end Go.Abs
namespace Go.Abs
/-- of a table only the first objects are kept: what came in -/
theorem small_drop {P : Program} {gl : Nat → Option AVal} {f : FuncId} {args : List AVal} {T0 T1 : Tab} {v : AVal} (h : Small P gl f args T0 v T1) (hl : T0.length ≤ T1.length := by (first | exact Nat.zero_le _ | simp)) (hi : tabIn T0.length (takeT T0.length T1) = true := by rfl) (hv : noIds v = true := by rfl) :
    Small P gl f args T0 v (takeT T0.length T1) := by
  intro ν w vs hr hvs
  refine (h ν w vs hr hvs).mono ?_
  rintro e w' ⟨x, ν', rfl, h1, h2, h3, h4⟩
  have hs : SRel ⟨P, fun _ => none, fun _ => none, gl⟩ [] ν' [] T1 0 { tmps := #[], defers := [] } w' := ⟨h2, fun t u hu => by simp [look] at hu, Nat.zero_le _, rfl⟩
  obtain ⟨ν2, s2, e5, e6⟩ := hs.cut (m := T0.length) (f := []) hl (fun t u hu => by simp [look] at hu) hi
  refine ⟨x, ν2, rfl, ?_, s2.hr, fun p hp l hl => ?_, h4.sub e6⟩
  · have := h1.ren (ν' := ν2) (r := id) (live := fun _ => false) (fun i l hb => by cases hb) hv
    rwa [ren_no v hv] at this
  · obtain ⟨l', g1, g2⟩ := h3 p hp l hl
    exact ⟨l', by rw [e5 p hp]; exact g1, g2⟩
end Go.Abs

set_option linter.unusedVariables false
namespace Go.Abs
open Go.RowKit Go.WideShapes Go.ChangeShapes
section
variable {H : Type} {enc : TypeId × Value → H} {P : Program}
theorem post_of_below {f : Func} {s : ChangeSpec} {apart fresh handsOn again : Bool} {W W' : World} {args : Array Value} {v : Value} {ds gs : List (DataW H)} {before pa pv : List MemPlace}
    (hW : DataW.Whole enc P f.params.toList s.vars apart W args.toList ds gs before)
    (hres : ∀ (b : Nat) (sp : Nat → Bool) (hd : Bool), DataW.TrodAll enc P W' b sp hd f.resultTypes.toList (v.resultList f.resultTypes.size) (s.fn H (ds ++ gs)).results [])
    (hargs : ∀ sp : Nat → Bool, (∀ p ∈ before, sp p.block = true) → DataW.TrodAll enc P W' 0 sp true f.params.toList args.toList (s.fn H (ds ++ gs)).args pa)
    (hvars : ∀ sp : Nat → Bool, (∀ p ∈ before, sp p.block = true) → DataW.TrodVars enc P W' sp s.vars (s.fn H (ds ++ gs)).vars pv)
    (hps : before = pa ++ pv) (hb : Below W.heap.size W W')
    (hok : ∀ (j : Nat) (t : TypeId) (r : Value), f.resultTypes[j]? = some t → (v.resultList f.resultTypes.size)[j]? = some r → Value.okWide P W' .any 0 t r) :
    s.post enc P f apart fresh handsOn again W args v W' := by
  have hlt : ∀ p ∈ before, p.block < W.heap.size := fun p hp => hW.lt p hp
  have hold : ∀ p ∈ before, (fun b => decide (b < W.heap.size)) p.block = true := fun p hp => by simpa using hlt p hp
  refine ⟨ds, gs, before, [], pa, pv, hW, hres _ _ _, hargs _ hold, hvars _ hold, World.keptBut_mono (fun p hp => ⟨hp, ?_⟩) (hb.frame (· ∈ before)), fun _ => ?_⟩
  · rw [hps, List.mem_append] at hp
    exact Or.inr hp
  · obtain ⟨_, _, _, _, _, hz, hn⟩ := hW
    refine ⟨hok, _, _, ([] ++ pa) ++ pv, ⟨[] ++ pa, pv, trodAll_append (hargs _ (fun _ _ => rfl)) (hres _ _ _), hvars _ (fun _ _ => rfl), rfl, ?_, ?_⟩, ?_⟩
    · intro b off hp
      have hin : MemPlace.cell b off ∈ before := by rw [hps]; simpa using hp
      rw [hb.frozen (hlt _ hin)]
      exact hz b off hin
    · intro ha
      have := hn ha
      rw [hps] at this
      simpa using this
    · intro p hp _
      rw [hps]
      simpa using hp
end
end Go.Abs

set_option linter.unusedVariables false
set_option linter.unusedSimpArgs false
namespace Go.Abs
open Go.RowKit Go.WideShapes Go.ChangeShapes Go.ChangeAt

/-! ## Rows of laws -/
section
variable {H : Type} {enc : TypeId × Value → H} {P : Program}

theorem trodAll_stays (hl : laidOutB P = true) {W W' : World} {sp' : Nat → Bool} : ∀ {ts : List TypeId} {vs : List Value} {ds : List (DataW H)} {ps : List MemPlace}, (∀ t ∈ ts, P.readableRec t = true ∧ t < P.types.size) →
    DataW.TrodAll enc P W 0 (fun _ => true) true ts vs ds ps → (∀ p ∈ ps, W.sameAt W' p) → (∀ p ∈ ps, sp' p.block = true) → DataW.TrodAll enc P W' 0 sp' true ts vs ds ps
  | [], vs, ds, ps, _, h, _, _ => by
    obtain ⟨rfl, rfl, rfl⟩ := trodAll_nil h
    exact h
  | t :: ts, vs, ds, ps, ht, h, h1, h2 => by
    obtain ⟨v, vs', d, ds', p, q, rfl, rfl, rfl, g1, g2⟩ := trodAll_cons h
    exact trodAll_cons_mk (WideElems.Trod_stays hl (ht t (.head _)).1 (ht t (.head _)).2 g1 (fun p hp => h1 p (List.mem_append_left _ hp)) (fun p hp => h2 p (List.mem_append_left _ hp)))
      (trodAll_stays hl (fun t ht' => ht t (.tail _ ht')) g2 (fun p hp => h1 p (List.mem_append_right _ hp)) (fun p hp => h2 p (List.mem_append_right _ hp)))

theorem sameAt_below {W W' : World} (h : Below W.heap.size W W') {p : MemPlace} (hp : p.block < W.heap.size) : W.sameAt W' p := by
  have hb := h.block p.block hp
  cases p with
  | cell b off => exact World.cell?_of_block hb
  | map b => exact hb

/-- a law's ending: true, and all that came in reads as before -/
theorem law_post {f : Func} {s : ChangeSpec} {tb : TypeId} (hl : laidOutB P = true) (hts : ∀ t ∈ f.params.toList, P.readableRec t = true ∧ t < P.types.size) (hvars : s.vars = [])
    {W W' : World} {args : Array Value} {ds gs : List (DataW H)} {before : List MemPlace} (hW : DataW.Whole enc P f.params.toList s.vars false W args.toList ds gs before)
    (hspec : s.fn H (ds ++ gs) = { results := [.lit (.bool true)], args := ds }) (hr : f.resultTypes = #[tb]) (hb : P.underlying tb = some .bool) (hbel : Below W.heap.size W W') :
    s.post enc P f false true false false W args (.bool true) W' := by
  have hW' := hW
  obtain ⟨p, q, hA, hV, rfl, hfz, hnd⟩ := hW
  rw [hvars] at hV
  obtain ⟨rfl, rfl⟩ := trodVars_none hV
  have hlt : ∀ x ∈ p, x.block < W.heap.size := fun x hx => hW'.lt x (by simpa using hx)
  refine post_of_below (pa := p) (pv := []) hW' (fun _ _ _ => ?_) (fun sp hsp => ?_) (fun sp _ => ?_) (by simp) hbel ?_
  · rw [hspec, hr]
    exact trodAll_cons_mk (shut_bool hb _) trodAll_mk0
  · rw [hspec]
    exact trodAll_stays hl hts hA (fun x hx => sameAt_below hbel (hlt x hx)) (fun x hx => hsp x (by simpa using hx))
  · rw [hspec, hvars]
    exact rfl
  · exact ok_one hr rfl (okWide_bool_mk hb _)

/-- a slice of bytes that came in -/
theorem arg_bytes {t e : TypeId} (ht : P.underlying t = some (.slice e)) (he : P.underlying e = some (.int .u8)) (hc : P.cellsOf e = 1) (hby : P.bytesOf e = 1) {W : World} {base : Nat} {v : Value} {d : DataW H} {ps : List MemPlace}
    (hval : Value.okWide P W .any base t v) (hT : DataW.Trod enc P W 0 (fun _ => true) true t v d ps) (hsz : ∀ elems spare, d = .slice elems spare → (elems.length + spare.length) * P.bytesOf e ≤ reachBytes) :
    ∃ (zs : List Int) (n : Nat) (l : Loc), n ≤ zs.length ∧ (∀ z ∈ zs, 0 ≤ z ∧ z < 256) ∧ zs.length ≤ 140737488351232 ∧ l.g = 0 ∧ l.room = zs.length ∧ (0 < l.room → l.a.block < W.heap.size) ∧
      (∀ i, i < zs.length → W.cell? (l.a.add i) = some (.int .u8 (zs.getD i 0))) ∧ (∀ (ν : Nu) (p : Nat), ν p = some l → VR ν (.slice 1 p 0 0 n (some zs.length)) v) := by
  obtain ⟨a1, len, cap, rfl⟩ := okWide_slice ht hval
  obtain ⟨fuel, hf⟩ := hT
  rcases open_ints ht he hc hf with ⟨hcs, hx⟩ | ⟨a, len', cap', zs, hcs, _, hl, hm, hz, hx, hcell, hwz⟩
  · simp [Value.cells] at hcs
    obtain ⟨rfl, rfl, rfl⟩ := hcs
    exact ⟨[], 0, ⟨⟨0, 0, none⟩, 0, 0⟩, Nat.le_refl _, fun z hz => (by cases hz), by simp, rfl, rfl, fun h => (by cases h), fun i hi => (by simp at hi), fun ν p hp => .sliceZ none hp rfl (.inl rfl)⟩
  · simp [Value.cells] at hcs
    obtain ⟨rfl, rfl, rfl⟩ := hcs
    simp only [Prod.mk.injEq] at hx
    obtain ⟨rfl, rfl⟩ := hx
    simp only [if_true] at hz
    have hs := hsz _ _ rfl
    rw [hby] at hs
    have hlen : (lits (H := H) .u8 (zs.take len)).length + (lits (H := H) .u8 (zs.drop len)).length = zs.length := by simp [lits]; omega
    rw [hlen] at hs
    refine ⟨zs, len, ⟨a, 0, zs.length⟩, by omega, fun z hz => ?_, by unfold reachBytes at hs; omega, rfl, rfl, fun h0 => ?_, hcell, fun ν p hp => ?_⟩
    · have := hwz z hz
      simp [Lit.wf, IntKind.min, IntKind.max, IntKind.signed, IntKind.bits] at this
      omega
    · have h1 := hcell 0 h0
      unfold World.cell? at h1
      rcases Nat.lt_or_ge a.block W.heap.size with h | h
      · exact h
      · have hb : (a.add 0).block = a.block := block_add a 0
        rw [hb, Array.getElem?_eq_none h] at h1
        cases h1
    · refine .slice hp rfl ⟨hl, fun k hk => by injection hk with hk; omega, ?_, by simp; omega, fun h => (by cases h)⟩
      simp [Addr.add]

def nuL (ls : List Loc) : Nu := fun p => ls[p]?
/-- what came in is a table of objects that are not written -/
theorem HR.args {T : Tab} {ls : List Loc} {W : World} (hlen : T.length = ls.length)
    (h : ∀ (p : Nat) (o : Option AObj), T[p]? = some o → ∃ (d : AVal) (et : TypeId) (l : Loc), o = some ⟨d, 0, false, et⟩ ∧ ls[p]? = some l ∧ l.g = 0 ∧ IsData d ∧ d.len ≤ l.room ∧ (0 < l.room → l.a.block < W.heap.size) ∧ ∀ i, i < d.len → ∃ x, W.cell? (l.a.add i) = some x ∧ VR (nuL ls) (d.get i) x) :
    HR (fun _ => none) (nuL ls) T W := by
  refine ⟨fun p o l ho hl => ?_, fun p l hl => ?_, fun p hp => ?_, fun p l hl h0 => ?_, fun p q o o' l l' ho ho' hw hne hl hl' h0 h0' => ?_, fun b d hb => (by cases hb)⟩
  · obtain ⟨d, et, l1, e1, e2, e3, e4, e5, e6, e7⟩ := h p _ ho
    injection e1 with e1; subst e1
    simp only [nuL] at hl
    rw [e2] at hl; injection hl with hl; subst hl
    exact ⟨e3.symm, e4, .inr (.inl ⟨rfl, e5, e7⟩)⟩
  · simp only [nuL] at hl
    rw [hlen]; exact (List.getElem?_eq_some_iff.1 hl).1
  · obtain ⟨d, et, l1, e1, _⟩ := h p _ hp
    cases e1
  · simp only [nuL] at hl
    have hlt := (List.getElem?_eq_some_iff.1 hl).1
    obtain ⟨o, ho⟩ : ∃ o, T[p]? = some o := ⟨T[p]'(by omega), List.getElem?_eq_getElem (by omega)⟩
    obtain ⟨d, et, l1, e1, e2, e3, e4, e5, e6, e7⟩ := h p o ho
    rw [e2] at hl; injection hl with hl; subst hl
    exact e6 h0
  · obtain ⟨d, et, l1, e1, _⟩ := h p _ ho
    injection e1 with e1; subst e1
    cases hw

/-- a law over what came in -/
theorem calls_args {f : FuncId} {args : List AVal} {v : AVal} {T T1 : Tab} {ls : List Loc} {w : World} {vs : Array Value} {x : Value} (h : Small P (fun _ => none) f args T v T1) (hT : HR (fun _ => none) (nuL ls) T w) (hown : ∀ (p : Nat) (o : AObj), T[p]? = some (some o) → o.own = false)
    (hx : ∀ ν y, VR ν v y → y = x) (hv : VRs (nuL ls) args vs.toList) :
    Calls P f vs w fun e w' => e = .returned x ∧ Below w.heap.size w w' := by
  refine (h (nuL ls) w vs hT hv).mono ?_
  rintro e w' ⟨y, ν', rfl, h1, h2, h3, h4⟩
  refine ⟨by rw [hx _ _ h1], h4.os, h4.tape, h4.output, h4.size, fun b hb => h4.block b hb ?_⟩
  rintro ⟨p, o, l, ho, hw, _⟩
  rw [hown p o ho] at hw
  cases hw
theorem bytes_obj {W : World} {zs : List Int} {l : Loc} {ν : Nu} (hcell : ∀ i, i < zs.length → W.cell? (l.a.add i) = some (.int .u8 (zs.getD i 0))) : ∀ i, i < (AVal.ints .u8 zs).len → ∃ x, W.cell? (l.a.add i) = some x ∧ VR ν ((AVal.ints .u8 zs).get i) x :=
  fun i hi => ⟨_, hcell i hi, .int _ _⟩
end
end Go.Abs

set_option linter.unusedVariables false
set_option linter.unusedSimpArgs false
namespace Go.Abs

/-- an empty object beside the others -/
theorem HR.pushEmpty {gl : Nat → Option AVal} {ν : Nu} {T : Tab} {w : World} (hr : HR gl ν T w) (kk : IntKind) (et : TypeId) :
    ∃ l0 : Loc, l0.g = 0 ∧ l0.room = 0 ∧ HR gl (upd ν T.length l0) (T ++ [some ⟨.ints kk [], 0, true, et⟩]) w ∧ NuLe ν (upd ν T.length l0) ∧ (∀ b, Own (upd ν T.length l0) (T ++ [some ⟨.ints kk [], 0, true, et⟩]) b → Own ν T b) := by
  have hn : ν T.length = none := by
    cases hν : ν T.length with
    | none => rfl
    | some l => have := hr.lt _ l hν; omega
  obtain ⟨l0, hl0⟩ : ∃ l0 : Loc, l0 = ⟨⟨0, 0, none⟩, 0, 0⟩ := ⟨_, rfl⟩
  have hm : NuLe ν (upd ν T.length l0) := NuLe.upd_new (ν := ν) l0 hn
  have same : ∀ p, p ≠ T.length → upd ν T.length l0 p = ν p := fun p hp => upd_other ν l0 hp
  have self : upd ν T.length l0 T.length = some l0 := upd_same ν _ l0
  have getT : ∀ p o, (T ++ [some (⟨.ints kk [], 0, true, et⟩ : AObj)])[p]? = some o → (p < T.length ∧ T[p]? = some o) ∨ (p = T.length ∧ o = some ⟨.ints kk [], 0, true, et⟩) := by
    intro p o ho
    rcases Nat.lt_or_ge p T.length with hp | hp
    · rw [List.getElem?_append_left hp] at ho; exact .inl ⟨hp, ho⟩
    · rw [List.getElem?_append_right hp] at ho
      have hlt := (List.getElem?_eq_some_iff.1 ho).1
      have hp0 : p = T.length := by simp at hlt; omega
      subst hp0
      simp at ho
      exact .inr ⟨rfl, ho.symm⟩
  have hown : ∀ b, Own (upd ν T.length l0) (T ++ [some ⟨.ints kk [], 0, true, et⟩]) b → Own ν T b := by
    rintro b ⟨p, o, l, h1, h2, h3, h4, h5⟩
    rcases getT p _ h1 with ⟨hp, h1⟩ | ⟨hp, h1⟩
    · rw [same p (by omega)] at h3; exact ⟨p, o, l, h1, h2, h3, h4, h5⟩
    · subst hp; rw [self] at h3; injection h3 with h3; subst h3; subst hl0; simp at h4
  refine ⟨l0, by rw [hl0], by rw [hl0], ⟨fun p o l ho hl => ?_, fun p l hl => ?_, fun p hp => ?_, fun p l hl h0 => ?_, fun p q o o' l l' ho ho' hw hne hl hl' h0 h0' => ?_, fun b d hb => ?_⟩, hm, hown⟩
  · rcases getT p _ ho with ⟨hp, h1⟩ | ⟨hp, h1⟩
    · rw [same p (by omega)] at hl
      obtain ⟨g1, g2⟩ := hr.obj p o l h1 hl
      exact ⟨g1, g2.kept hm fun _ => rfl⟩
    · subst hp; rw [self] at hl; injection hl with hl; subst hl; subst hl0
      injection h1 with h1; subst h1
      exact ⟨rfl, .ints _ _, .inr (.inr ⟨rfl, rfl⟩)⟩
  · by_cases e : p = T.length
    · subst e; simp
    · rw [same p e] at hl; have := hr.lt p l hl; simp; omega
  · rcases getT p _ hp with ⟨hp', h1⟩ | ⟨hp', h1⟩
    · rw [same p (by omega)]; exact hr.hole p h1
    · cases h1
  · by_cases e : p = T.length
    · subst e; rw [self] at hl; injection hl with hl; subst hl; subst hl0; simp at h0
    · rw [same p e] at hl; exact hr.blk p l hl h0
  · rcases getT p _ ho with ⟨hp, h1⟩ | ⟨hp, h1⟩
    · rcases getT q _ ho' with ⟨hq, h2⟩ | ⟨hq, h2⟩
      · rw [same p (by omega)] at hl; rw [same q (by omega)] at hl'
        exact hr.sep p q o o' l l' h1 h2 hw hne hl hl' h0 h0'
      · subst hq; rw [self] at hl'; injection hl' with hl'; subst hl'; subst hl0; simp at h0'
    · subst hp; rw [self] at hl; injection hl with hl; subst hl; subst hl0; simp at h0
  · obtain ⟨h1, h2⟩ := hr.glob b d hb
    exact ⟨fun h3 => h1 (hown b h3), h2⟩

/-- a result that is nothing, told as a slice of an empty object -/
theorem small_nil {P : Program} {gl : Nat → Option AVal} {f : FuncId} {args : List AVal} {T0 T1 : Tab} {v v' : AVal} (kk : IntKind) (et : TypeId) (h : Small P gl f args T0 v T1) (hk : T0.length ≤ T1.length)
    (hv : ∀ (ν : Nu) (x : Value) (l : Loc), ν T1.length = some l → l.g = 0 → l.room = 0 → (∀ u y, VR ν u y → True) → VR ν v x → VR ν v' x) : Small P gl f args T0 v' (T1 ++ [some ⟨.ints kk [], 0, true, et⟩]) := by
  intro ν w vs hr hvs
  refine (h ν w vs hr hvs).mono ?_
  rintro e w' ⟨x, ν', rfl, h1, h2, h3, h4⟩
  obtain ⟨l0, g1, g2, g3, g4, g5⟩ := h2.pushEmpty kk et
  refine ⟨x, upd ν' T1.length l0, rfl, hv _ x l0 (upd_same _ _ _) g1 g2 (fun _ _ _ => trivial) (h1.mono g4), g3, h3.trans (g4.b _), h4.sub g5⟩

theorem VR.nil_slice {ν : Nu} {x : Value} {q : Nat} {l : Loc} {sz : Nat} {cap : Option Nat} (hl : ν q = some l) (hg : l.g = 0) (hr : l.room = 0) (hc : cap = some 0 ∨ cap = none) (h : VR ν .nilSlice x) : VR ν (.slice sz q 0 0 0 cap) x := by
  cases h
  exact .sliceZ none hl hg.symm (hc.imp id fun h => ⟨h, by rw [hr]; exact Nat.le_refl _⟩)

/-- two results, the first one nothing -/
theorem small_nil2 {P : Program} {gl : Nat → Option AVal} {f : FuncId} {args : List AVal} {T0 T1 : Tab} {u : AVal} (kk : IntKind) (et : TypeId) {sz : Nat} {cap : Option Nat} (hc : cap = some 0 ∨ cap = none) (h : Small P gl f args T0 (.tuple [.nilSlice, u]) T1) (hk : T0.length ≤ T1.length) :
    Small P gl f args T0 (.tuple [.slice sz T1.length 0 0 0 cap, u]) (T1 ++ [some ⟨.ints kk [], 0, true, et⟩]) := by
  refine small_nil kk et h hk fun ν x l h1 h2 h3 _ hx => ?_
  cases hx with
  | tuple e1 e2 =>
    refine .tuple e1 fun i hi => ?_
    match i, hi with
    | 0, _ => exact VR.nil_slice h1 h2 h3 hc (e2 0 (by simp))
    | 1, _ => exact e2 1 (by simp)
    | i + 2, hi => simp at hi; omega
/-- one result, nothing -/
theorem small_nil1 {P : Program} {gl : Nat → Option AVal} {f : FuncId} {args : List AVal} {T0 T1 : Tab} (kk : IntKind) (et : TypeId) {sz : Nat} {cap : Option Nat} (hc : cap = some 0 ∨ cap = none) (h : Small P gl f args T0 .nilSlice T1) (hk : T0.length ≤ T1.length) :
    Small P gl f args T0 (.slice sz T1.length 0 0 0 cap) (T1 ++ [some ⟨.ints kk [], 0, true, et⟩]) :=
  small_nil kk et h hk fun ν x l h1 h2 h3 _ hx => VR.nil_slice h1 h2 h3 hc hx
end Go.Abs

set_option linter.unusedVariables false
set_option linter.unusedSimpArgs false
namespace Go.Abs
/-! ## Only some objects are kept, and they move together -/
def sigG : List Nat → Nat → Nat
  | [], _ => 0
  | p :: r, i => match Nat.beq p i with | true => 0 | false => sigG r i + 1
def hasG : List Nat → Nat → Bool
  | [], _ => false
  | p :: r, i => Nat.beq p i || hasG r i
def nodupG : List Nat → Bool
  | [] => true
  | p :: r => !hasG r p && nodupG r
def startsG : Nat → Nat → List Nat → Bool
  | _, 0, _ => true
  | i, k + 1, p :: r => Nat.beq p i && startsG (i + 1) k r
  | _, _ + 1, [] => false
def getG (T : Tab) (p : Nat) : Option AObj := match T[p]? with | some (some o) => some o | _ => none
def gcL (keep : List Nat) (T : Tab) : List Nat → Tab
  | [] => []
  | p :: r => (match getG T p with | some o => some (renO (sigG keep) o) | none => none) :: gcL keep T r
def gcT (keep : List Nat) (T : Tab) : Tab := gcL keep T keep
def inG (keep : List Nat) (T : Tab) : List Nat → Bool
  | [] => true
  | p :: r => (match getG T p with | some o => idsIn (hasG keep) o.data | none => true) && inG keep T r
def okG (k : Nat) (keep : List Nat) (T : Tab) : Bool := nodupG keep && (startsG 0 k keep && inG keep T keep)
def pickG (keep : List Nat) (fm : Fm) : List Nat → Option Fm
  | [] => some []
  | t :: r => match look fm t, pickG keep fm r with
    | some v, some f => match idsIn (hasG keep) v with
      | true => some ((t, ren (sigG keep) v) :: f)
      | false => none
    | _, _ => none
theorem hasG_get : ∀ {l : List Nat} {i : Nat}, hasG l i = true → l[sigG l i]? = some i
  | p :: r, i, h => by
    simp only [hasG, Bool.or_eq_true] at h
    simp only [sigG]
    cases hp : Nat.beq p i with
    | true => have := Nat.eq_of_beq_eq_true hp; subst this; rfl
    | false => simp only [hp, Bool.false_eq_true, false_or] at h; simpa using hasG_get h
theorem hasG_mem : ∀ {l : List Nat} {j p : Nat}, l[j]? = some p → hasG l p = true
  | q :: r, 0, p, h => by simp at h; subst h; simp [hasG]
  | q :: r, j + 1, p, h => by simp only [hasG, Bool.or_eq_true]; exact .inr (hasG_mem (by simpa using h))
theorem nodupG_ok : ∀ {l : List Nat}, nodupG l = true → ∀ (i j p : Nat), l[i]? = some p → l[j]? = some p → i = j
  | q :: r, h, 0, 0, p, _, _ => rfl
  | q :: r, h, 0, j + 1, p, hi, hj => by
    simp at hi; subst hi
    have := hasG_mem (l := r) (j := j) (by simpa using hj)
    simp [nodupG, this] at h
  | q :: r, h, i + 1, 0, p, hi, hj => by
    simp at hj; subst hj
    have := hasG_mem (l := r) (j := i) (by simpa using hi)
    simp [nodupG, this] at h
  | q :: r, h, i + 1, j + 1, p, hi, hj => by
    simp only [nodupG, Bool.and_eq_true] at h
    rw [nodupG_ok h.2 i j p (by simpa using hi) (by simpa using hj)]
theorem startsG_ok : ∀ {k i : Nat} {l : List Nat}, startsG i k l = true → ∀ j, j < k → l[j]? = some (i + j)
  | k + 1, i, p :: r, h, 0, _ => by simp only [startsG, Bool.and_eq_true] at h; rw [Nat.eq_of_beq_eq_true h.1]; rfl
  | k + 1, i, p :: r, h, j + 1, hj => by
    simp only [startsG, Bool.and_eq_true] at h
    rw [List.getElem?_cons_succ, startsG_ok h.2 j (by omega)]
    congr 1; omega
theorem gcL_get (keep : List Nat) (T : Tab) : ∀ (l : List Nat) (j : Nat), (gcL keep T l)[j]? = (l[j]?).map fun p => match getG T p with | some o => some (renO (sigG keep) o) | none => none
  | [], j => by simp [gcL]
  | p :: r, 0 => rfl
  | p :: r, j + 1 => by simpa [gcL] using gcL_get keep T r j
theorem gcL_len (keep : List Nat) (T : Tab) : ∀ (l : List Nat), (gcL keep T l).length = l.length
  | [] => rfl
  | p :: r => by simp [gcL, gcL_len keep T r]
theorem inG_ok {keep : List Nat} {T : Tab} : ∀ {l : List Nat}, inG keep T l = true → ∀ (j p : Nat) (o : AObj), l[j]? = some p → getG T p = some o → idsIn (hasG keep) o.data = true
  | q :: r, h, 0, p, o, hp, ho => by simp at hp; subst hp; simp only [inG, ho, Bool.and_eq_true] at h; exact h.1
  | q :: r, h, j + 1, p, o, hp, ho => by simp only [inG, Bool.and_eq_true] at h; exact inG_ok h.2 j p o (by simpa using hp) ho
theorem getG_some {T : Tab} {p : Nat} {o : AObj} (h : getG T p = some o) : T[p]? = some (some o) := by
  unfold getG at h; split at h
  · rename_i o' h'; injection h with h; subst h; exact h'
  · cases h
theorem pickG_ok {keep : List Nat} {fm : Fm} : ∀ {l : List Nat} {f : Fm}, pickG keep fm l = some f → ∀ t v, look f t = some v → ∃ u, look fm t = some u ∧ idsIn (hasG keep) u = true ∧ v = ren (sigG keep) u
  | [], f, h, t, v, hl => by simp [pickG] at h; subst h; simp [look] at hl
  | s :: r, f, h, t, v, hl => by
    simp only [pickG] at h
    split at h
    · rename_i u f' h1 h2
      split at h
      · rename_i h3
        injection h with h; subst h
        simp only [look] at hl
        split at hl
        · rename_i he
          have := Nat.eq_of_beq_eq_true he; subst this
          injection hl with hl; subst hl
          exact ⟨u, h1, h3, rfl⟩
        · exact pickG_ok h2 t v hl
      · cases h
    · cases h
def nuG (keep : List Nat) (ν : Nu) : Nu := fun j => match keep[j]? with | some p => ν p | none => none
theorem nuG_some {keep : List Nat} {ν : Nu} {j : Nat} {l : Loc} (h : nuG keep ν j = some l) : ∃ p, keep[j]? = some p ∧ ν p = some l := by
  unfold nuG at h; split at h
  · rename_i p hp; exact ⟨p, hp, h⟩
  · cases h
theorem nuG_key {keep : List Nat} {ν : Nu} : ∀ i l, hasG keep i = true → ν i = some l → nuG keep ν (sigG keep i) = some l := fun i l hi hl => by
  unfold nuG; rw [hasG_get hi]; exact hl
theorem gcT_some {keep : List Nat} {T : Tab} {j : Nat} {o' : AObj} (h : (gcT keep T)[j]? = some (some o')) : ∃ p o, keep[j]? = some p ∧ T[p]? = some (some o) ∧ o' = renO (sigG keep) o := by
  unfold gcT at h
  rw [gcL_get] at h
  cases hk : keep[j]? with
  | none => rw [hk] at h; cases h
  | some p =>
    rw [hk] at h
    simp only [Option.map_some] at h
    cases hg : getG T p with
    | none => rw [hg] at h; cases h
    | some o => rw [hg] at h; injection h with h; injection h with h; exact ⟨p, o, rfl, getG_some hg, h.symm⟩
theorem getG_of {T : Tab} {p : Nat} {o : AObj} (h : T[p]? = some (some o)) : getG T p = some o := by unfold getG; rw [h]
theorem Own.gc {keep : List Nat} {ν : Nu} {T : Tab} {b : Nat} (h : Own (nuG keep ν) (gcT keep T) b) : Own ν T b := by
  obtain ⟨j, o', l, h1, h2, h3, h4⟩ := h
  obtain ⟨p, o, e1, e2, rfl⟩ := gcT_some h1
  obtain ⟨p', e3, e4⟩ := nuG_some h3
  rw [e1] at e3; injection e3 with e3; subst e3
  exact ⟨p, o, l, e2, h2, e4, h4⟩
theorem HR.gc {gl : Nat → Option AVal} {ν : Nu} {T : Tab} {w : World} {k : Nat} {keep : List Nat} (h : HR gl ν T w) (hk : okG k keep T = true) : HR gl (nuG keep ν) (gcT keep T) w := by
  simp only [okG, Bool.and_eq_true] at hk
  obtain ⟨h1, h2, h3⟩ := hk
  refine ⟨fun j o' l ho hl => ?_, fun j l hl => ?_, fun j hj => ?_, fun j l hl h0 => ?_, fun i j o o' l l' ho ho' hw hne hl hl' => ?_, fun b d hb => ?_⟩
  · obtain ⟨p, o, e1, e2, rfl⟩ := gcT_some ho
    obtain ⟨p', e3, e4⟩ := nuG_some hl
    rw [e1] at e3; injection e3 with e3; subst e3
    obtain ⟨g1, g2⟩ := h.obj p o l e2 e4
    exact ⟨g1, g2.ren nuG_key (inG_ok h3 j p o e1 (getG_of e2))⟩
  · obtain ⟨p, e1, _⟩ := nuG_some hl
    unfold gcT; rw [gcL_len]; exact (List.getElem?_eq_some_iff.1 e1).1
  · unfold gcT at hj
    rw [gcL_get] at hj
    unfold nuG
    cases hk : keep[j]? with
    | none => rfl
    | some p =>
      simp only [hk, Option.map_some] at hj
      cases hν : ν p with
      | none => simp only [hν]
      | some l =>
        exfalso
        have hlt := h.lt p l hν
        have e : T[p]? = some T[p] := List.getElem?_eq_getElem hlt
        cases hT : T[p] with
        | none => rw [hT] at e; rw [h.hole p e] at hν; cases hν
        | some o => rw [hT] at e; rw [getG_of e] at hj; injection hj with hj; cases hj
  · obtain ⟨p, _, e⟩ := nuG_some hl
    exact h.blk p l e h0
  · obtain ⟨p, a, e1, e2, rfl⟩ := gcT_some ho
    obtain ⟨q, b, f1, f2, rfl⟩ := gcT_some ho'
    obtain ⟨p', e3, e4⟩ := nuG_some hl
    rw [e1] at e3; injection e3 with e3; subst e3
    obtain ⟨q', f3, f4⟩ := nuG_some hl'
    rw [f1] at f3; injection f3 with f3; subst f3
    exact h.sep p q a b l l' e2 f2 hw (fun e => hne (by subst e; exact nodupG_ok h1 i j p e1 f1)) e4 f4
  · obtain ⟨g1, g2⟩ := h.glob b d hb
    exact ⟨fun g => g1 g.gc, g2⟩
theorem NuLeB.gc {keep : List Nat} {ν ν' : Nu} {T : Tab} {k : Nat} (h : NuLeB k ν ν') (hk : okG k keep T = true) : NuLeB k ν (nuG keep ν') := fun p hp l hl => by
  simp only [okG, Bool.and_eq_true] at hk
  obtain ⟨l', h1, h2⟩ := h p hp l hl
  have e := startsG_ok hk.2.1 p hp
  rw [Nat.zero_add] at e
  exact ⟨l', by unfold nuG; rw [e]; exact h1, h2⟩
theorem SRel.gc {E : Env} {D : List Deferred} {ν : Nu} {fm f : Fm} {T : Tab} {n k : Nat} {a : Act} {w : World} {keep : List Nat} {slots : List Nat} (h : SRel E D ν fm T n a w) (hk : okG k keep T = true) (hf : pickG keep fm slots = some f) : SRel E D (nuG keep ν) f (gcT keep T) n a w := by
  refine ⟨h.hr.gc hk, fun t v hv => ?_, h.size, h.defers⟩
  obtain ⟨u, h1, h2, rfl⟩ := pickG_ok hf t v hv
  exact (h.fm t u h1).ren nuG_key h2
/-- the outcome, with only some objects, moved together -/
def trimG (k : Nat) (keep : List Nat) (slots : List Nat) (o : Out) : Out :=
  match o with
  | ⟨cs, ex, fm, T, ds⟩ => match pickG keep fm slots, okG k keep T with
    | some f, true => ⟨cs, ex, f, gcT keep T, ds⟩
    | _, _ => failO
theorem AWp.trimG {E : Env} {n k : Nat} {keep : List Nat} {c : Code} {fm : Fm} {T : Tab} {o : Out} {slots : List Nat} (hc : allP (trimG k keep slots o).cs) (h : allP o.cs → AWp E n k c fm T (Is o)) : AWp E n k c fm T (Is (trimG k keep slots o)) := by
  obtain ⟨cs, ex, fm1, T1, ds⟩ := o
  unfold Abs.trimG at hc ⊢
  simp only at hc ⊢
  cases hp : pickG keep fm1 slots with
  | none => simp only [hp] at hc; exact absurd hc failO_no
  | some f =>
    cases hb : okG k keep T1 with
    | false => simp only [hp, hb] at hc; exact absurd hc failO_no
    | true =>
      simp only [hp, hb] at hc ⊢
      intro rr D ν a w hs hrd
      refine wpIn_mono (h hc rr D ν a w hs hrd) fun e a' w' ⟨ex', fm', T', ν', e1, ⟨e2, e3, e4⟩, ⟨ms, s', mk⟩, n', f'⟩ => ?_
      simp only at e2 e3 e4
      subst e2 e3 e4
      exact ⟨ex', f, gcT keep T', nuG keep ν', e1, ⟨rfl, rfl, rfl⟩, ⟨ms, s'.gc hb hp, mk⟩, n'.gc hb, f'.sub fun b hb => hb.gc⟩
theorem To.ofG {E : Env} (hE : EnvOk E) (hm : E.P.follows .mixedOrders = true) {n k : Nat} {keep : List Nat} {orc : Orc} (hk : k ≤ orc.kb) {c : Code} (hO : OrcOk E n orc c) {f : Nat} {fm : Fm} {T : Tab} {ds : List (Option Bool)} {slots : List Nat} {o : Out}
    (ho : trimG k keep slots (run E n orc f c fm T ds) = o) (h : Ok o) {ex : AExit} {fm' : Fm} {T' : Tab} (e1 : o.ex = ex) (e2 : o.fm = fm') (e3 : o.tab = T') : To E n k c fm T ex fm' T' := by
  subst e1 e2 e3 ho
  exact AWp.trimG h.h fun h => (run_sound hE hm hk hO f (fun _ _ h => h) h).1
/-- a function's outcome, with only some objects, moved together -/
theorem small_gc {P : Program} {gl : Nat → Option AVal} {f : FuncId} {args : List AVal} {T0 T1 : Tab} {v : AVal} (keep : List Nat) (h : Small P gl f args T0 v T1) {v' : AVal} {T' : Tab} (hk : okG T0.length keep T1 = true) (hv : idsIn (hasG keep) v = true) (e1 : ren (sigG keep) v = v') (e2 : gcT keep T1 = T') :
    Small P gl f args T0 v' T' := by
  subst e1 e2
  intro ν w vs hr hvs
  refine (h ν w vs hr hvs).mono ?_
  rintro e w' ⟨x, ν', rfl, h1, h2, h3, h4⟩
  exact ⟨x, nuG keep ν', rfl, h1.ren nuG_key hv, h2.gc hk, h3.gc hk, h4.sub fun b hb => hb.gc⟩
/-- a function's run, with only some objects, moved together -/
def resG (k : Nat) (keep : List Nat) (r : Res) : Res :=
  match r with
  | ⟨cs, v, T⟩ => match idsIn (hasG keep) v && okG k keep T with
    | true => ⟨cs, ren (sigG keep) v, gcT keep T⟩
    | false => fail
theorem small_ofG {E : Env} (hE : EnvOk E) (hm : E.P.follows .mixedOrders = true) {f : FuncId} {fn : Func} (hf : E.P.funcs[f]? = some fn) (hb : fn.body.isSome = true) {orc : OrcL} (hO : FnOrc E fn orc) {fuel : Nat} {args : List AVal} {T : Tab} {ds : List (Option Bool)} {R : Res} {keep : List Nat}
    (hR : resG T.length keep (runF E fn orc fuel args T ds) = R) (h : OkR R) {v : AVal} {T1 : Tab} (hv : R.val = v) (ht : R.tab = T1) : Small E.P E.gl f args T v T1 := by
  subst hv ht hR
  have hS := runF_small hE hm hf hb orc hO fuel (args := args) (T := T) ds
  generalize runF E fn orc fuel args T ds = r at h hS ⊢
  obtain ⟨cs, v, T1⟩ := r
  obtain ⟨h⟩ := h
  unfold resG at h ⊢
  simp only at h ⊢
  cases hb : idsIn (hasG keep) v && okG T.length keep T1 with
  | false => simp only [hb] at h; exact absurd h nofail
  | true =>
    simp only [hb] at h ⊢
    simp only [Bool.and_eq_true] at hb
    exact small_gc keep (hS h) hb.2 hb.1 rfl rfl
/-- what is told of a block, by the values of some slots and the first m objects, of which the first k stay in their places -/
def blkS2 (k m : Nat) (slots : List Nat) (g : List AVal → Tab → Out) : Nat → Fm → Tab → List (Option Bool) → Out := fun kb fm T ds =>
  match Nat.ble kb k && (Nat.ble k m && (Nat.ble m T.length && tabIn m (takeT m T))), pickV m fm slots with
  | true, some vs => match g vs (takeT m T) with
    | ⟨cs, ex, fm', T', _⟩ => ⟨cs, ex, fm', T', ds⟩
  | _, _ => failO
theorem blkS2_ok {E : Env} {fn : Func} {id : Nat} {c : Code} {k m : Nat} {slots : List Nat} {g : List AVal → Tab → Out}
    (hg : ∀ vs T, Ok (g vs T) → To E fn.ntmps k (.block id c) (zipF slots vs) T (g vs T).ex (g vs T).fm (g vs T).tab) : BlkOk E fn id c (blkS2 k m slots g) := by
  intro kb fm T ds hc
  unfold blkS2 at hc ⊢
  cases hb : Nat.ble kb k && (Nat.ble k m && (Nat.ble m T.length && tabIn m (takeT m T))) with
  | false => rw [hb] at hc; exact absurd hc failO_no
  | true =>
    cases hp : pickV m fm slots with
    | none => rw [hb, hp] at hc; exact absurd hc failO_no
    | some vs =>
      rw [hb, hp] at hc
      simp only at hc ⊢
      have h1 := hg vs (takeT m T)
      generalize g vs (takeT m T) = o at h1 hc ⊢
      obtain ⟨cs, ex, fm', T', ds'⟩ := o
      simp only [Bool.and_eq_true] at hb
      refine AWp.base (Nat.le_of_ble_eq_true hb.1) ?_
      exact AWp.enter (k := k) (m := m) (pickV_ok hp) (by simp only [Bool.and_eq_true]; exact ⟨⟨hb.2.1, hb.2.2.1⟩, hb.2.2.2⟩) (h1 ⟨hc⟩)
attribute [irreducible] resG trimG
end Go.Abs

set_option linter.unusedVariables false
set_option linter.unusedSimpArgs false
namespace Go.Abs
open Go.RowKit Go.WideShapes Go.ChangeShapes Go.ChangeAt
/-! ## Rows whose laws read tables of the program -/
section
variable {P : Program}
theorem laidMet_tail {x : String × DataW Unit} {r : List (String × DataW Unit)} {W : World} (h : laidMet P (x :: r) W) : laidMet P r W := by
  obtain ⟨ps, ⟨g, t, cs, fuel, p, q, _, _, _, _, hr, rfl⟩, hn, hb⟩ := h
  exact ⟨q, hr, (List.nodup_append.1 hn).2.1, fun b off hm => hb b off (List.mem_append_right _ hm)⟩
theorem glob_tab {W : World} {name : String} {k : IntKind} {zs : List Int} {g : Nat} (h : Lib.TabIs P W name k zs) (hg : P.globalNamed name = some g) (h0 : 0 < zs.length) :
    g < W.heap.size ∧ IsData (.ints k zs) ∧ ∀ i, i < (AVal.ints k zs).len → ∃ x, W.cell? ⟨g, i, none⟩ = some x ∧ ∀ ν, VR ν ((AVal.ints k zs).get i) x := by
  refine ⟨?_, .ints _ _, fun i hi => ⟨_, h.cell hg i hi, fun ν => .int _ _⟩⟩
  have h1 := h.cell hg 0 h0
  unfold World.cell? at h1
  rcases Nat.lt_or_ge g W.heap.size with h | h
  · exact h
  · rw [Array.getElem?_eq_none h] at h1; cases h1
/-- what came in, over the program's tables -/
theorem HR.argsG {gl : Nat → Option AVal} {T : Tab} {ls : List Loc} {W : World} (h : HR (fun _ => none) (nuL ls) T W) (hown : ∀ (p : Nat) (o : AObj), T[p]? = some (some o) → o.own = false)
    (hg : ∀ b d, gl b = some d → b < W.heap.size ∧ IsData d ∧ ∀ i, i < d.len → ∃ x, W.cell? ⟨b, i, none⟩ = some x ∧ ∀ ν, VR ν (d.get i) x) : HR gl (nuL ls) T W :=
  ⟨h.obj, h.lt, h.hole, h.blk, h.sep, fun b d hb => ⟨fun ⟨p, o, l, h1, h2, _⟩ => (by rw [hown p o h1] at h2; cases h2), hg b d hb⟩⟩
theorem calls_argsG {gl : Nat → Option AVal} {f : FuncId} {args : List AVal} {v : AVal} {T T1 : Tab} {ls : List Loc} {w : World} {vs : Array Value} {x : Value} (h : Small P gl f args T v T1) (hT : HR gl (nuL ls) T w) (hown : ∀ (p : Nat) (o : AObj), T[p]? = some (some o) → o.own = false)
    (hx : ∀ ν y, VR ν v y → y = x) (hv : VRs (nuL ls) args vs.toList) :
    Calls P f vs w fun e w' => e = .returned x ∧ Below w.heap.size w w' := by
  refine (h (nuL ls) w vs hT hv).mono ?_
  rintro e w' ⟨y, ν', rfl, h1, h2, h3, h4⟩
  refine ⟨by rw [hx _ _ h1], h4.os, h4.tape, h4.output, h4.size, fun b hb => h4.block b hb ?_⟩
  rintro ⟨p, o, l, ho, hw, _⟩
  rw [hown p o ho] at hw
  cases hw
end
end Go.Abs

set_option linter.unusedVariables false
namespace Go.Abs
/-! ## What stands in a table or a list of values, taken out -/
def vAt : List AVal → Nat → AVal
  | [], _ => un
  | v :: _, 0 => v
  | _ :: r, i + 1 => vAt r i
def dAt (T : Tab) (p : Nat) : AVal := match nth T p with | some o => o.data | none => un
def gAt (T : Tab) (p : Nat) : Nat := match nth T p with | some o => o.g | none => 0
def owAt (T : Tab) (p : Nat) : Bool := match nth T p with | some o => o.own | none => false
def etAt (T : Tab) (p : Nat) : TypeId := match nth T p with | some o => o.et | none => 0
def xsOf : AVal → List Int | .ints _ xs => xs | _ => []
def vsOf : AVal → List AVal | .agg vs => vs | _ => []
def iOf : AVal → Int | .int _ n => n | _ => 0
def bOf : AVal → Bool | .bool b => b | _ => false
def sOf : AVal → List UInt8 | .str s => s | _ => []
def offOf : AVal → Nat | .slice _ _ _ off _ _ => off | .ptr _ _ off => off | _ => 0
def lenOf : AVal → Nat | .slice _ _ _ _ len _ => len | _ => 0
def capOf : AVal → Option Nat | .slice _ _ _ _ _ cap => cap | _ => none
def gOf : AVal → Nat | .slice _ _ g _ _ _ => g | .var _ g => g | .ptr _ g _ => g | _ => 0
def pOf : AVal → Nat | .slice _ p _ _ _ _ => p | .var p _ => p | .ptr p _ _ => p | _ => 0
def xsAt (T : Tab) (p : Nat) : List Int := xsOf (dAt T p)
def cAt (T : Tab) (p i : Nat) : AVal := vAt (vsOf (dAt T p)) i
end Go.Abs
namespace Go.Abs
/-- flags, out of a number's bits -/
def bitsF : Nat → Nat → List Bool
  | 0, _ => []
  | k + 1, n => Nat.beq (n % 2) 1 :: bitsF k (n / 2)
end Go.Abs

set_option linter.unusedVariables false
set_option linter.unusedSimpArgs false
namespace Go.Abs
/-- entry: only some objects, moved together -/
theorem AWp.enterG {E : Env} {n k : Nat} {c : Code} {fm f : Fm} {T : Tab} {keep slots : List Nat} {post : AExit → Fm → Tab → Prop} (hp : pickG keep fm slots = some f) (hb : okG k keep T = true)
    (h : AWp E n k c f (gcT keep T) post) : AWp E n k c fm T post := by
  intro rr D ν a w hs hrd
  refine wpIn_mono (h rr D _ a w (hs.gc hb hp) hrd) fun e a' w' ⟨ex, fm', T', ν', e1, e2, s', n', f'⟩ => ⟨ex, fm', T', ν', e1, e2, s', fun p hp l hl => ?_, ?_⟩
  · simp only [okG, Bool.and_eq_true] at hb
    have e := startsG_ok hb.2.1 p hp
    rw [Nat.zero_add] at e
    exact n' p hp l (by unfold nuG; rw [e]; exact hl)
  · exact ⟨f'.os, f'.tape, f'.output, f'.size, fun b hb hO => f'.block b hb (fun h => hO h.gc), fun b hb => (f'.own b hb).imp (fun h => h.gc) id⟩
def pickGV (keep : List Nat) (fm : Fm) : List Nat → Option (List AVal)
  | [] => some []
  | t :: r => match look fm t, pickGV keep fm r with
    | some v, some vs => match idsIn (hasG keep) v with
      | true => some (ren (sigG keep) v :: vs)
      | false => none
    | _, _ => none
theorem pickGV_ok {keep : List Nat} {fm : Fm} : ∀ {l : List Nat} {vs : List AVal}, pickGV keep fm l = some vs → pickG keep fm l = some (zipF l vs)
  | [], vs, h => by simp [pickGV] at h; subst h; rfl
  | t :: r, vs, h => by
    simp only [pickGV] at h
    split at h
    · rename_i v us h1 h2
      split at h
      · rename_i h3
        injection h with h; subst h
        simp only [pickG, h1, pickGV_ok h2, h3, zipF]
      · cases h
    · cases h
/-- what is told of a block, over some objects, moved together -/
def blkGC (k : Nat) (keep slots : List Nat) (g : List AVal → Tab → Out) : Nat → Fm → Tab → List (Option Bool) → Out := fun kb fm T ds =>
  match Nat.ble kb k && okG k keep T, pickGV keep fm slots with
  | true, some vs => match g vs (gcT keep T) with
    | ⟨cs, ex, fm', T', _⟩ => ⟨cs, ex, fm', T', ds⟩
  | _, _ => failO
theorem blkGC_ok {E : Env} {fn : Func} {id : Nat} {c : Code} {k : Nat} {keep slots : List Nat} {g : List AVal → Tab → Out}
    (hg : ∀ vs T, Ok (g vs T) → To E fn.ntmps k (.block id c) (zipF slots vs) T (g vs T).ex (g vs T).fm (g vs T).tab) : BlkOk E fn id c (blkGC k keep slots g) := by
  intro kb fm T ds hc
  unfold blkGC at hc ⊢
  cases hb : Nat.ble kb k && okG k keep T with
  | false => rw [hb] at hc; exact absurd hc failO_no
  | true =>
    cases hp : pickGV keep fm slots with
    | none => rw [hb, hp] at hc; exact absurd hc failO_no
    | some vs =>
      rw [hb, hp] at hc
      simp only at hc ⊢
      have h1 := hg vs (gcT keep T)
      generalize g vs (gcT keep T) = o at h1 hc ⊢
      obtain ⟨cs, ex, fm', T', ds'⟩ := o
      simp only [Bool.and_eq_true] at hb
      refine AWp.base (Nat.le_of_ble_eq_true hb.1) ?_
      exact AWp.enterG (pickGV_ok hp) hb.2 (h1 ⟨hc⟩)
end Go.Abs
