/- An abstract machine over small tables of objects, and its soundness over the given model: no condition. -/
import Derived.Orders
import Derived.Tactics
import Derived.Laws.BytesArg
import Derived.Laws.AppendOwn
import Derived.Laws.Slices
import Derived.Laws.MakeOwn
import Derived.Laws.BitsLemmas
import Derived.Deep.Draws
import Derived.KernelRfl
import Derived.Lib.ConvBytes
set_option linter.unusedVariables false
set_option linter.unusedSimpArgs false
namespace Go.Abs

/-! ## Abstract values -/
inductive AVal where
  | bool (b : Bool)
  | int (k : IntKind) (n : Int)
  | float (k : FloatKind) (bits : Nat)
  | complex (k : FloatKind) (re im : Nat)
  | str (s : List UInt8)
  | nilPtr
  | ptr (p g off : Nat)
  | var (p g : Nat)
  | gptr (b off : Nat)
  | nilSlice
  | slice (sz p g off len : Nat) (cap : Option Nat)
  | nilFunc
  | func (fn : Fn) (first captured : List AVal)
  | nilIface
  | iface (t : TypeId) (v : AVal)
  | nilMap
  | map (p : Nat)
  | agg (vs : List AVal)
  | ints (k : IntKind) (xs : List Int)
  | tuple (vs : List AVal)
  | frow (p g i n : Nat)
  | fam (Z : List (List Int))
  | frows (p g : Nat) (Z : List (List Int)) (vs : List AVal)
  deriving Inhabited

def un : AVal := .tuple []
def frowsV (p g : Nat) (Z : List (List Int)) : List AVal := (List.range Z.length).map fun i => .frow p g i (Z.getD i []).length
theorem frowsV_len (p g : Nat) (Z : List (List Int)) : (frowsV p g Z).length = Z.length := by simp [frowsV]
theorem frowsV_get (p g : Nat) (Z : List (List Int)) {i : Nat} (h : i < Z.length) : (frowsV p g Z).getD i un = .frow p g i (Z.getD i []).length := by
  simp [frowsV, List.getD, h]

/-- Where an object lies: its address, its generation, how many cells there are from there on. -/
class RowsC where
  val : List Value
instance noRows : RowsC := ⟨[]⟩
structure Loc where
  a : Addr
  g : Nat
  room : Nat
  [rows : RowsC]
/-- the values that a family's rows are -/
def Loc.rw (l : Loc) : List Value := l.rows.val

abbrev Nu := Nat → Option Loc

def SlRel (l : Loc) (sz off len : Nat) (cap : Option Nat) (b : Addr) (c : Nat) : Prop :=
  len ≤ c ∧ (∀ k, cap = some k → c = k) ∧ b = l.a.add off ∧ off + c * sz ≤ l.room ∧ (cap = none → off + c * sz = l.room)

inductive VR (ν : Nu) : AVal → Value → Prop
  | bool (b) : VR ν (.bool b) (.bool b)
  | int (k n) : VR ν (.int k n) (.int k n)
  | float (k n) : VR ν (.float k n) (.float k n)
  | complex (k n m) : VR ν (.complex k n m) (.complex k n m)
  | str (s) : VR ν (.str s) (.string ⟨s.toArray⟩)
  | nilPtr : VR ν .nilPtr (.pointer none)
  | ptr {p g off l} (h : ν p = some l) (hg : g = l.g) : VR ν (.ptr p g off) (.pointer (some (l.a.add off)))
  | ptrOld {p g off l} (x : Value) (hx : x.oneCell' = true) (h : ν p = some l) (hg : g < l.g) : VR ν (.ptr p g off) x
  | var {p g l} (h : ν p = some l) (hg : g = l.g) : VR ν (.var p g) (.pointer (some l.a))
  | varOld {p g l} (x : Value) (hx : x.oneCell' = true) (h : ν p = some l) (hg : g < l.g) : VR ν (.var p g) x
  | gptr (b off) : VR ν (.gptr b off) (.pointer (some ⟨b, off, none⟩))
  | nilSlice : VR ν .nilSlice (.slice none 0 0)
  | slice {sz p g off len cap l b c} (h : ν p = some l) (hg : g = l.g) (hs : SlRel l sz off len cap b c) : VR ν (.slice sz p g off len cap) (.slice (some b) len c)
  | sliceZ {sz p g off cap l} (bo : Option Addr) (h : ν p = some l) (hg : g = l.g) (hc : cap = some 0 ∨ (cap = none ∧ l.room ≤ off)) : VR ν (.slice sz p g off 0 cap) (.slice bo 0 0)
  | sliceOld {sz p g off len cap l} (x : Value) (hx : x.oneCell' = true) (h : ν p = some l) (hg : g < l.g) : VR ν (.slice sz p g off len cap) x
  | nilFunc : VR ν .nilFunc .nilFunc
  | func (fn) {as bs : List AVal} {xs ys : Array Value} (h1 : as.length = xs.size) (h2 : ∀ i, i < as.length → VR ν (as.getD i un) (xs.getD i undef))
      (h3 : bs.length = ys.size) (h4 : ∀ i, i < bs.length → VR ν (bs.getD i un) (ys.getD i undef)) : VR ν (.func fn as bs) (.func fn xs ys)
  | nilIface : VR ν .nilIface .nilIface
  | iface (t) {v x} (h : VR ν v x) : VR ν (.iface t v) (.iface t x)
  | nilMap : VR ν .nilMap (.map none)
  | agg {vs : List AVal} {xs : Array Value} (h1 : vs.length = xs.size) (h2 : ∀ i, i < vs.length → VR ν (vs.getD i un) (xs.getD i undef)) : VR ν (.agg vs) (.agg xs)
  | ints (k xs) : VR ν (.ints k xs) (.agg (xs.map (Value.int k)).toArray)
  | tuple {vs : List AVal} {xs : Array Value} (h1 : vs.length = xs.size) (h2 : ∀ i, i < vs.length → VR ν (vs.getD i un) (xs.getD i undef)) : VR ν (.tuple vs) (.tuple xs)
  | frow {p g i n l} (bo : Option Addr) (c : Nat) (h : ν p = some l) (hg : g = l.g) (hi : l.rw[i]? = some (.slice bo n c)) : VR ν (.frow p g i n) (.slice bo n c)
  | frowOld {p g i n l} (x : Value) (hx : x.oneCell' = true) (h : ν p = some l) (hg : g < l.g) : VR ν (.frow p g i n) x
  | fam (Z) : VR ν (.fam Z) (.agg #[])
  | frows {p g : Nat} {Z : List (List Int)} {vs : List AVal} {xs : Array Value} (h1 : (frowsV p g Z ++ vs).length = xs.size) (h2 : ∀ i, i < (frowsV p g Z ++ vs).length → VR ν ((frowsV p g Z ++ vs).getD i un) (xs.getD i undef)) : VR ν (.frows p g Z vs) (.agg xs)

theorem VR.un_ (ν : Nu) : VR ν un undef := .tuple (by simp) (by intro i h; simp at h)

def NuLe (ν ν' : Nu) : Prop := ∀ p l, ν p = some l → ∃ l', ν' p = some l' ∧ (l.g < l'.g ∨ (l.g = l'.g ∧ l.a = l'.a ∧ l.room = l'.room ∧ l.rw = l'.rw))
theorem NuLe.refl (ν : Nu) : NuLe ν ν := fun p l h => ⟨l, h, .inr ⟨rfl, rfl, rfl, rfl⟩⟩
theorem NuLe.trans {a b c : Nu} (h : NuLe a b) (k : NuLe b c) : NuLe a c := by
  intro p l hp
  obtain ⟨l1, h1, r1⟩ := h p l hp
  obtain ⟨l2, h2, r2⟩ := k p l1 h1
  refine ⟨l2, h2, ?_⟩
  rcases r1 with r1 | ⟨r1, r1', r1'', r1'''⟩ <;> rcases r2 with r2 | ⟨r2, r2', r2'', r2'''⟩
  · exact .inl (by omega)
  · exact .inl (by omega)
  · exact .inl (by omega)
  · exact .inr ⟨r1.trans r2, r1'.trans r2', r1''.trans r2'', r1'''.trans r2'''⟩

theorem SlRel.of_eq {l l' : Loc} {sz off len : Nat} {cap : Option Nat} {b : Addr} {c : Nat} (h : SlRel l sz off len cap b c) (ha : l.a = l'.a) (hr : l.room = l'.room) : SlRel l' sz off len cap b c := by
  obtain ⟨h1, h2, h3⟩ := h
  refine ⟨h1, h2, ?_⟩
  rw [← ha, ← hr]
  exact h3

theorem VR.mono {ν ν' : Nu} (hm : NuLe ν ν') {v : AVal} {x : Value} (h : VR ν v x) : VR ν' v x := by
  induction h with
  | bool b => exact .bool b
  | int k n => exact .int k n
  | float k n => exact .float k n
  | complex k n m => exact .complex k n m
  | str s => exact .str s
  | nilPtr => exact .nilPtr
  | ptr h hg =>
    obtain ⟨l', h', r⟩ := hm _ _ h
    rcases r with r | ⟨r, ra, rr, _⟩
    · exact .ptrOld _ rfl h' (by omega)
    · rw [ra]; exact .ptr h' (by omega)
  | ptrOld x hx h hg =>
    obtain ⟨l', h', r⟩ := hm _ _ h
    exact .ptrOld _ hx h' (by rcases r with r | ⟨r, _⟩ <;> omega)
  | var h hg =>
    obtain ⟨l', h', r⟩ := hm _ _ h
    rcases r with r | ⟨r, ra, rr, _⟩
    · exact .varOld _ rfl h' (by omega)
    · rw [ra]; exact .var h' (by omega)
  | varOld x hx h hg =>
    obtain ⟨l', h', r⟩ := hm _ _ h
    exact .varOld _ hx h' (by rcases r with r | ⟨r, _⟩ <;> omega)
  | gptr b off => exact .gptr b off
  | nilSlice => exact .nilSlice
  | slice h hg hs =>
    obtain ⟨l', h', r⟩ := hm _ _ h
    rcases r with r | ⟨r, ra, rr, _⟩
    · exact .sliceOld _ rfl h' (by omega)
    · exact .slice h' (by omega) (hs.of_eq ra rr)
  | sliceZ bo h hg hc =>
    obtain ⟨l', h', r⟩ := hm _ _ h
    rcases r with r | ⟨r, ra, rr, _⟩
    · exact .sliceOld _ rfl h' (by omega)
    · exact .sliceZ bo h' (by omega) (by rw [← rr]; exact hc)
  | sliceOld x hx h hg =>
    obtain ⟨l', h', r⟩ := hm _ _ h
    exact .sliceOld _ hx h' (by rcases r with r | ⟨r, _⟩ <;> omega)
  | nilFunc => exact .nilFunc
  | func fn h1 h2 h3 h4 ih2 ih4 => exact .func fn h1 ih2 h3 ih4
  | nilIface => exact .nilIface
  | iface t h ih => exact .iface t ih
  | nilMap => exact .nilMap
  | agg h1 h2 ih => exact .agg h1 ih
  | ints k xs => exact .ints k xs
  | tuple h1 h2 ih => exact .tuple h1 ih
  | frow bo c h hg hi =>
    obtain ⟨l', h', r⟩ := hm _ _ h
    rcases r with r | ⟨r, ra, rr, rt⟩
    · exact .frowOld _ rfl h' (by omega)
    · exact .frow bo c h' (by omega) (by rw [← rt]; exact hi)
  | frowOld x hx h hg =>
    obtain ⟨l', h', r⟩ := hm _ _ h
    exact .frowOld _ hx h' (by rcases r with r | ⟨r, _⟩ <;> omega)
  | fam Z => exact .fam Z
  | frows h1 h2 ih => exact .frows h1 ih

/-! ## Cells of a value -/
def AVal.cells : AVal → List AVal
  | .agg vs => vs
  | .ints k xs => xs.map (AVal.int k)
  | .fam _ => []
  | .frows p g Z vs => frowsV p g Z ++ vs
  | v => [v]

/-! data: agg or ints -/
def AVal.len : AVal → Nat
  | .agg vs => vs.length
  | .ints _ xs => xs.length
  | .frows _ _ Z vs => match vs with
    | [] => Z.length
    | v :: vs => Z.length + (v :: vs).length
  | _ => 0
def AVal.get (d : AVal) (i : Nat) : AVal :=
  match d with
  | .agg vs => vs.getD i un
  | .ints k xs => .int k (xs.getD i 0)
  | .frows p g Z vs => match vs with
    | [] => .frow p g i (Z.getD i []).length
    | v :: vs => (frowsV p g Z ++ v :: vs).getD i un
  | _ => un

def VRs (ν : Nu) (vs : List AVal) (xs : List Value) : Prop := vs.length = xs.length ∧ ∀ i, i < vs.length → VR ν (vs.getD i un) (xs.getD i undef)

theorem VRs.nil (ν : Nu) : VRs ν [] [] := ⟨rfl, fun i h => by simp at h⟩
theorem VRs.cons {ν : Nu} {v : AVal} {x : Value} {vs : List AVal} {xs : List Value} (h : VR ν v x) (hs : VRs ν vs xs) : VRs ν (v :: vs) (x :: xs) := by
  refine ⟨by simp [hs.1], fun i hi => ?_⟩
  cases i with
  | zero => simpa using h
  | succ i => simpa using hs.2 i (by simpa using hi)
theorem VRs.mono {ν ν' : Nu} (hm : NuLe ν ν') {vs : List AVal} {xs : List Value} (h : VRs ν vs xs) : VRs ν' vs xs := ⟨h.1, fun i hi => (h.2 i hi).mono hm⟩
theorem VRs.append {ν : Nu} {vs vs' : List AVal} {xs xs' : List Value} (h : VRs ν vs xs) (h' : VRs ν vs' xs') : VRs ν (vs ++ vs') (xs ++ xs') := by
  refine ⟨by simp [h.1, h'.1], fun i hi => ?_⟩
  by_cases hlt : i < vs.length
  · have h1 : (vs ++ vs').getD i un = vs.getD i un := by simp [List.getD, List.getElem?_append_left hlt]
    have h2 : (xs ++ xs').getD i undef = xs.getD i undef := by simp [List.getD, List.getElem?_append_left (h.1 ▸ hlt)]
    rw [h1, h2]; exact h.2 i hlt
  · have h1 : (vs ++ vs').getD i un = vs'.getD (i - vs.length) un := by simp [List.getD, List.getElem?_append_right (Nat.le_of_not_lt hlt)]
    have h2 : (xs ++ xs').getD i undef = xs'.getD (i - vs.length) undef := by
      have := h.1
      simp [List.getD, List.getElem?_append_right (show xs.length ≤ i by omega), this]
    rw [h1, h2]; exact h'.2 _ (by simp at hi; omega)
theorem VRs.ints (ν : Nu) (k : IntKind) (xs : List Int) : VRs ν (xs.map (AVal.int k)) (xs.map (Value.int k)) := by
  refine ⟨by simp, fun i hi => ?_⟩
  have hi' : i < xs.length := by simpa using hi
  simp [List.getD, List.getElem?_eq_getElem hi']
  exact .int _ _
theorem VRs.take {ν : Nu} {vs : List AVal} {xs : List Value} (h : VRs ν vs xs) (n : Nat) : VRs ν (vs.take n) (xs.take n) := by
  refine ⟨by simp [h.1], fun i hi => ?_⟩
  have h0 := h.2 i (by simp at hi; omega)
  have hn : i < n := by simp at hi; omega
  simpa [List.getD, List.getElem?_take, hn] using h0
theorem VRs.drop {ν : Nu} {vs : List AVal} {xs : List Value} (h : VRs ν vs xs) (n : Nat) : VRs ν (vs.drop n) (xs.drop n) := by
  refine ⟨by simp [h.1], fun i hi => ?_⟩
  have h0 := h.2 (n + i) (by simp at hi; omega)
  simpa [List.getD, List.getElem?_drop] using h0
theorem VRs.set {ν : Nu} {vs : List AVal} {xs : List Value} (h : VRs ν vs xs) (n : Nat) {v : AVal} {x : Value} (hv : VR ν v x) : VRs ν (vs.set n v) (xs.set n x) := by
  refine ⟨by simp [h.1], fun i hi => ?_⟩
  have hi' : i < vs.length := by simpa using hi
  by_cases hn : n = i
  · subst hn
    simp [List.getD, hi', h.1 ▸ hi', hv]
  · have := h.2 i hi'
    simpa [List.getD, List.getElem?_set, hn] using this

/-- the two forms of data -/
inductive IsData : AVal → Prop
  | agg (vs) : IsData (.agg vs)
  | ints (k xs) : IsData (.ints k xs)
  | fam (Z) : IsData (.fam Z)
  | frows (p g Z vs) : IsData (.frows p g Z vs)

theorem cells_len {d : AVal} (h : IsData d) : d.cells.length = d.len := by
  cases h with
  | frows p g Z vs => cases vs <;> simp [AVal.cells, AVal.len, frowsV_len]
  | _ => simp [AVal.cells, AVal.len]
theorem cells_get {d : AVal} (h : IsData d) {i : Nat} (hi : i < d.len) : d.cells.getD i un = d.get i := by
  cases h with
  | agg vs => rfl
  | ints k xs => simp [AVal.cells, AVal.get, AVal.len] at *; simp [List.getElem?_eq_getElem hi]
  | fam Z => simp [AVal.len] at hi
  | frows p g Z vs =>
    cases vs with
    | nil => simp only [AVal.len] at hi; simp only [AVal.cells, AVal.get, List.append_nil]; exact frowsV_get p g Z hi
    | cons v vs => rfl

theorem oneCell_cells {x : Value} (h : x.oneCell' = true) : x.cells = #[x] := by cases x <;> first | rfl | simp [Value.oneCell'] at h

/-- no aggregate, no tuple -/
def AVal.one : AVal → Bool
  | .agg _ | .ints _ _ | .tuple _ | .fam _ | .frows _ _ _ _ => false
  | _ => true
theorem VR.one {ν : Nu} {v : AVal} {x : Value} (h : VR ν v x) (hv : v.one = true) : x.oneCell' = true := by
  cases h <;> first | rfl | assumption | simp [AVal.one] at hv

/-- VR of a value gives VRs of its cells. -/
theorem VR.cells {ν : Nu} {v : AVal} {x : Value} (h : VR ν v x) : VRs ν v.cells x.cells.toList := by
  have one : v.cells = [v] → x.cells = #[x] → VRs ν v.cells x.cells.toList := by
    intro h1 h2
    rw [h1, h2]
    exact VRs.cons h (VRs.nil ν)
  cases h with
  | agg h1 h2 => exact ⟨by simpa [AVal.cells, Value.cells] using h1, fun i hi => by simpa [AVal.cells, Value.cells] using h2 i hi⟩
  | ints k xs => simpa [AVal.cells, Value.cells] using VRs.ints ν k xs
  | ptrOld x hx h hg => exact one rfl (oneCell_cells hx)
  | varOld x hx h hg => exact one rfl (oneCell_cells hx)
  | sliceOld x hx h hg => exact one rfl (oneCell_cells hx)
  | frowOld x hx h hg => exact one rfl (oneCell_cells hx)
  | fam Z => exact VRs.nil ν
  | frows h1 h2 => exact ⟨by simpa [AVal.cells, Value.cells] using h1, fun i hi => by simpa [AVal.cells, Value.cells] using h2 i hi⟩
  | _ => exact one rfl rfl

/-! ## Objects, the table, the relation with the world -/
structure AObj where
  data : AVal
  g : Nat
  own : Bool
  et : TypeId

abbrev Tab := List (Option AObj)

def rowOf (cur : Array Value) (off n : Nat) : List Value := (cur.toList.drop off).take n

structure OwnRel (ν : Nu) (o : AObj) (l : Loc) (w : World) : Prop where
  row : ∃ cur : Array Value, w.heap[l.a.block]? = some (.cells cur o.et (0, 0)) ∧ l.a.off + l.room ≤ cur.size ∧ VRs ν o.data.cells (rowOf cur l.a.off o.data.len)
  spot : l.a.spot = none
  room : o.data.len ≤ l.room

def ObjRel (ν : Nu) (o : AObj) (l : Loc) (w : World) : Prop :=
  IsData o.data ∧ ((o.own = true ∧ OwnRel ν o l w) ∨ (o.own = false ∧ o.data.len ≤ l.room ∧ ∀ i, i < o.data.len → ∃ x, w.cell? (l.a.add i) = some x ∧ VR ν (o.data.get i) x) ∨ (o.data.len = 0 ∧ l.room = 0))

/-- the blocks of the table's own objects -/
def Own (ν : Nu) (T : Tab) (b : Nat) : Prop := ∃ p o l, T[p]? = some (some o) ∧ o.own = true ∧ ν p = some l ∧ 0 < l.room ∧ l.a.block = b

/-- a row of a family: bytes that stay, outside of the table's own blocks -/
def RowOk (O : Nat → Prop) (w : World) (v : Value) (xs : List Int) : Prop := ∃ bo c, v = .slice bo xs.length c ∧ xs.length ≤ c ∧ (0 < c → ∃ b, bo = some b ∧ ¬ O b.block ∧ b.block < w.heap.size ∧ ∀ k, k < xs.length → w.cell? (b.add k) = some (.int .u8 (xs.getD k 0)))
def FamOk (O : Nat → Prop) (w : World) (o : AObj) (l : Loc) : Prop := ∀ Z, o.data = .fam Z → l.rw.length = Z.length ∧ ∀ i, i < Z.length → RowOk O w (l.rw.getD i undef) (Z.getD i [])
structure HR (gl : Nat → Option AVal) (ν : Nu) (T : Tab) (w : World) : Prop where
  obj : ∀ p o l, T[p]? = some (some o) → ν p = some l → o.g = l.g ∧ ObjRel ν o l w
  lt : ∀ p l, ν p = some l → p < T.length
  hole : ∀ p, T[p]? = some none → ν p = none
  blk : ∀ p l, ν p = some l → 0 < l.room → l.a.block < w.heap.size
  sep : ∀ p q o o' l l', T[p]? = some (some o) → T[q]? = some (some o') → o.own = true → p ≠ q → ν p = some l → ν q = some l' → 0 < l.room → 0 < l'.room → l.a.block ≠ l'.a.block
  glob : ∀ b d, gl b = some d → ¬ Own ν T b ∧ b < w.heap.size ∧ IsData d ∧ ∀ i, i < d.len → ∃ x, w.cell? ⟨b, i, none⟩ = some x ∧ ∀ ν, VR ν (d.get i) x
  fam : ∀ p o l, T[p]? = some (some o) → ν p = some l → FamOk (Own ν T) w o l

/-- What a step leaves alone. -/
structure Fr (O : Nat → Prop) (w : World) (O' : Nat → Prop) (w' : World) : Prop where
  os : w'.os = w.os
  tape : w'.tape = w.tape
  output : w'.output = w.output
  size : w.heap.size ≤ w'.heap.size
  block : ∀ b, b < w.heap.size → ¬ O b → w'.heap[b]? = w.heap[b]?
  own : ∀ b, O' b → O b ∨ w.heap.size ≤ b

theorem Fr.refl (O : Nat → Prop) (w : World) : Fr O w O w := ⟨rfl, rfl, rfl, Nat.le_refl _, fun _ _ _ => rfl, fun _ h => .inl h⟩
theorem Fr.trans {O O1 O2 : Nat → Prop} {w w1 w2 : World} (h : Fr O w O1 w1) (k : Fr O1 w1 O2 w2) : Fr O w O2 w2 := by
  refine ⟨k.os.trans h.os, k.tape.trans h.tape, k.output.trans h.output, Nat.le_trans h.size k.size, fun b hb hO => ?_, fun b hb => ?_⟩
  · rw [k.block b (Nat.lt_of_lt_of_le hb h.size) (fun h1 => by
      rcases h.own b h1 with h2 | h2
      · exact hO h2
      · omega)]
    exact h.block b hb hO
  · rcases k.own b hb with h1 | h1
    · exact h.own b h1
    · exact .inr (Nat.le_trans h.size h1)
theorem Fr.sub {O O' O1 : Nat → Prop} {w w' : World} (h : Fr O w O' w') (hs : ∀ b, O1 b → O' b) : Fr O w O1 w' := ⟨h.os, h.tape, h.output, h.size, h.block, fun b hb => h.own b (hs b hb)⟩

theorem block_add (a : Addr) (n : Nat) : (a.add n).block = a.block := by unfold Addr.add; split <;> rfl
theorem add_add (a : Addr) (i j : Nat) : (a.add i).add j = a.add (i + j) := by
  unfold Addr.add
  by_cases hi : i = 0 <;> by_cases hj : j = 0 <;> simp [hi, hj, Nat.add_assoc]
theorem add_plain' (b o n : Nat) : (⟨b, o, none⟩ : Addr).add n = ⟨b, o + n, none⟩ := by unfold Addr.add; split <;> simp_all
theorem addr_eta (a : Addr) (h : a.spot = none) : a = ⟨a.block, a.off, none⟩ := by cases a; simp_all

theorem RowOk.keep {O O' : Nat → Prop} {w w' : World} {v : Value} {xs : List Int} (h : RowOk O w v xs) (hsz : w.heap.size ≤ w'.heap.size) (hO : ∀ b, b < w.heap.size → ¬ O b → ¬ O' b) (hb : ∀ b, b < w.heap.size → ¬ O b → w'.heap[b]? = w.heap[b]?) : RowOk O' w' v xs := by
  obtain ⟨bo, c, h1, h0, h2⟩ := h
  refine ⟨bo, c, h1, h0, fun hc => ?_⟩
  obtain ⟨b, e1, e2, e3, e4⟩ := h2 hc
  exact ⟨b, e1, hO _ e3 e2, Nat.lt_of_lt_of_le e3 hsz, fun k hk => by rw [World.cell?_of_block (w := w) (by rw [block_add]; exact hb _ e3 e2)]; exact e4 k hk⟩
theorem FamOk.keep {O O' : Nat → Prop} {w w' : World} {o : AObj} {l : Loc} (h : FamOk O w o l) (hsz : w.heap.size ≤ w'.heap.size) (hO : ∀ b, b < w.heap.size → ¬ O b → ¬ O' b) (hb : ∀ b, b < w.heap.size → ¬ O b → w'.heap[b]? = w.heap[b]?) : FamOk O' w' o l := by
  intro Z hZ
  obtain ⟨h1, h2⟩ := h Z hZ
  exact ⟨h1, fun i hi => (h2 i hi).keep hsz hO hb⟩
theorem FamOk.fr {O O' : Nat → Prop} {w w' : World} {o : AObj} {l : Loc} (h : FamOk O w o l) (hf : Fr O w O' w') : FamOk O' w' o l :=
  h.keep hf.size (fun b hb hO h' => (hf.own b h').elim hO (fun h1 => Nat.lt_irrefl _ (Nat.lt_of_lt_of_le hb h1))) hf.block
theorem FamOk.sub {O O' : Nat → Prop} {w : World} {o : AObj} {l : Loc} (h : FamOk O w o l) (hO : ∀ b, O' b → O b) : FamOk O' w o l :=
  h.keep (Nat.le_refl _) (fun b _ h1 h2 => h1 (hO b h2)) (fun _ _ _ => rfl)
/-- data that is no family -/
def AVal.noFam : AVal → Bool
  | .fam _ => false
  | _ => true
theorem FamOk.no {O : Nat → Prop} {w : World} {o : AObj} {l : Loc} (h : o.data.noFam = true) : FamOk O w o l := by
  intro Z hZ
  rw [hZ] at h; cases h
theorem rowOf_get {cur : Array Value} {off room n i : Nat} (h : off + room ≤ cur.size) (hn : n ≤ room) (hi : i < n) : cur[off + i]? = some ((rowOf cur off n).getD i undef) := by
  have hlt : off + i < cur.size := by omega
  simp [rowOf, List.getD, hi, hlt]

section
variable {gl : Nat → Option AVal} {ν : Nu} {T : Tab} {w w' : World} {o : AObj} {l : Loc}

theorem HR.read (h : HR gl ν T w) {p : Nat} {o : AObj} {l : Loc} (ho : T[p]? = some (some o)) (hl : ν p = some l) {i : Nat} (hi : i < o.data.len) :
    ∃ x, w.cell? (l.a.add i) = some x ∧ VR ν (o.data.get i) x := by
  obtain ⟨_, hd, hr⟩ := h.obj p o l ho hl
  rcases hr with ⟨_, ⟨⟨cur, hc, hsz, hv⟩, hs, hroom⟩⟩ | ⟨_, _, hr⟩ | ⟨h0, _⟩
  · refine ⟨(rowOf cur l.a.off o.data.len).getD i undef, ?_, ?_⟩
    · have := rowOf_get hsz hroom hi
      rw [addr_eta l.a hs, add_plain']
      simp only [World.cell?, hc]
      simpa using this
    · have := hv.2 i (by rw [cells_len hd]; exact hi)
      rwa [cells_get hd hi] at this
  · exact hr i hi
  · omega

theorem ObjRel.room (h : ObjRel ν o l w) : o.data.len ≤ l.room := by
  rcases h.2 with ⟨_, hr⟩ | ⟨_, hr, _⟩ | ⟨h0, h1⟩
  · exact hr.room
  · exact hr
  · omega

theorem ObjRel.kept {ν' : Nu} (hm : NuLe ν ν') (h : ObjRel ν o l w) (hb : 0 < l.room → w'.heap[l.a.block]? = w.heap[l.a.block]?) : ObjRel ν' o l w' := by
  refine ⟨h.1, ?_⟩
  rcases Nat.eq_zero_or_pos l.room with h0 | h0
  · have := h.room
    exact .inr (.inr ⟨by omega, h0⟩)
  · have hbl := hb h0
    rcases h.2 with ⟨h4, ⟨⟨cur, hc, hs, hv⟩, hsp, hroom⟩⟩ | ⟨h4, h6, h5⟩ | h7
    · exact .inl ⟨h4, ⟨⟨cur, by rw [hbl]; exact hc, hs, hv.mono hm⟩, hsp, hroom⟩⟩
    · refine .inr (.inl ⟨h4, h6, fun i hi => ?_⟩)
      obtain ⟨x, hx, hv⟩ := h5 i hi
      exact ⟨x, by rw [World.cell?_of_block (w := w) (by rw [block_add]; exact hbl)]; exact hx, hv.mono hm⟩
    · exact .inr (.inr h7)

/-- the world has turned in none of the table's blocks -/
theorem HR.kept (h : HR gl ν T w) (hsz : w.heap.size ≤ w'.heap.size) (hb : ∀ p l, ν p = some l → 0 < l.room → w'.heap[l.a.block]? = w.heap[l.a.block]?)
    (hg : ∀ b, (gl b).isSome → w'.heap[b]? = w.heap[b]?) (hf : ∀ b, b < w.heap.size → ¬ Own ν T b → w'.heap[b]? = w.heap[b]?) : HR gl ν T w' := by
  refine ⟨fun p o l ho hl => ?_, h.lt, h.hole, fun p l hl h0 => Nat.lt_of_lt_of_le (h.blk p l hl h0) hsz, h.sep, fun b d hd => ?_, fun p o l ho hl => (h.fam p o l ho hl).keep hsz (fun _ _ h => h) hf⟩
  · obtain ⟨h1, h2⟩ := h.obj p o l ho hl
    exact ⟨h1, h2.kept (NuLe.refl ν) (hb p l hl)⟩
  · obtain ⟨h1, h2, h3, h4⟩ := h.glob b d hd
    refine ⟨h1, Nat.lt_of_lt_of_le h2 hsz, h3, fun i hi => ?_⟩
    obtain ⟨x, hx, hv⟩ := h4 i hi
    exact ⟨x, by rw [World.cell?_of_block (w := w) (hg b (by simp [hd]))]; exact hx, hv⟩

def upd (ν : Nu) (p : Nat) (l : Loc) : Nu := fun q => if q = p then some l else ν q
theorem upd_same (ν : Nu) (p : Nat) (l : Loc) : upd ν p l p = some l := by simp [upd]
theorem upd_other (ν : Nu) {p q : Nat} (l : Loc) (h : q ≠ p) : upd ν p l q = ν q := by simp [upd, h]
theorem NuLe.upd_new {ν : Nu} {p : Nat} (l : Loc) (h : ν p = none) : NuLe ν (upd ν p l) := by
  intro q l' hq
  have : q ≠ p := by rintro rfl; rw [h] at hq; cases hq
  exact ⟨l', by rw [upd_other ν l this]; exact hq, .inr ⟨rfl, rfl, rfl, rfl⟩⟩
theorem NuLe.upd_bump {ν : Nu} {p : Nat} {l l' : Loc} (h : ν p = some l) (hg : l.g < l'.g) : NuLe ν (upd ν p l') := by
  intro q lq hq
  by_cases e : q = p
  · subst e
    rw [h] at hq; injection hq with hq; subst hq
    exact ⟨l', upd_same _ _ _, .inl hg⟩
  · exact ⟨lq, by rw [upd_other ν l' e]; exact hq, .inr ⟨rfl, rfl, rfl, rfl⟩⟩

theorem Own.place {p : Nat} {o : AObj} {l : Loc} (hp : p < T.length) (b : Nat) (h : Own (upd ν p l) (T.set p (some o)) b) : b = l.a.block ∨ Own ν T b := by
  obtain ⟨q, oq, lq, hTq, hoq, hlq, h0, hbq⟩ := h
  by_cases e : q = p
  · subst e
    rw [upd_same] at hlq; injection hlq with hlq; subst hlq
    exact .inl hbq.symm
  · rw [List.getElem?_set_ne (Ne.symm e)] at hTq
    rw [upd_other ν l e] at hlq
    exact .inr ⟨q, oq, lq, hTq, hoq, hlq, h0, hbq⟩

/-- an own object o lies now at l (a block that no other object's is), all other objects as they were -/
theorem HR.place (h : HR gl ν T w) {p : Nat} (hp : p < T.length) {o : AObj} (ho : o.own = true) (hd : IsData o.data) {l : Loc} (hg : o.g = l.g)
    (hm : NuLe ν (upd ν p l)) (hsz : w.heap.size ≤ w'.heap.size)
    (hne : ∀ q lq, q ≠ p → ν q = some lq → 0 < lq.room → lq.a.block ≠ l.a.block) (hgl : ∀ b, (gl b).isSome → b ≠ l.a.block) (hlt : l.a.block < w'.heap.size)
    (hb : ∀ b, b < w.heap.size → b ≠ l.a.block → w'.heap[b]? = w.heap[b]?) (hr : OwnRel (upd ν p l) o l w') (hnf : o.data.noFam = true) (hnew : Own ν T l.a.block ∨ w.heap.size ≤ l.a.block) : HR gl (upd ν p l) (T.set p (some o)) w' := by
  have other : ∀ q lq, q ≠ p → upd ν p l q = some lq → ν q = some lq := fun q lq hq h' => by rwa [upd_other ν l hq] at h'
  refine ⟨fun q o' l' hT hl' => ?_, fun q lq hq => ?_, fun q hq => ?_, fun q lq hq h0 => ?_, fun q r oq or lq lr hTq hTr hoq hqr hlq hlr h0 h0' => ?_, fun b d hb' => ?_, fun q o' l' hT hl' => ?_⟩
  · by_cases e : q = p
    · subst e
      rw [List.getElem?_set_self hp] at hT
      injection hT with hT; injection hT with hT; subst hT
      rw [upd_same] at hl'; injection hl' with hl'; subst hl'
      exact ⟨hg, hd, .inl ⟨ho, hr⟩⟩
    · rw [List.getElem?_set_ne (Ne.symm e)] at hT
      have hl := other q l' e hl'
      obtain ⟨h1, h2⟩ := h.obj q o' l' hT hl
      exact ⟨h1, h2.kept hm fun h0 => hb _ (h.blk q l' hl h0) (hne q l' e hl h0)⟩
  · by_cases e : q = p
    · subst e; simpa using hp
    · simpa using h.lt q lq (other q lq e hq)
  · by_cases e : q = p
    · subst e
      rw [List.getElem?_set_self hp] at hq
      cases hq
    · rw [List.getElem?_set_ne (Ne.symm e)] at hq
      rw [upd_other ν l e]
      exact h.hole q hq
  · by_cases e : q = p
    · subst e
      rw [upd_same] at hq; injection hq with hq; subst hq
      exact hlt
    · exact Nat.lt_of_lt_of_le (h.blk q lq (other q lq e hq) h0) hsz
  · by_cases e : q = p
    · subst e
      rw [upd_same] at hlq; injection hlq with hlq; subst hlq
      exact (hne r lr (Ne.symm hqr) (other r lr (Ne.symm hqr) hlr) h0').symm
    · by_cases e' : r = p
      · subst e'
        rw [upd_same] at hlr; injection hlr with hlr; subst hlr
        exact hne q lq e (other q lq e hlq) h0
      · rw [List.getElem?_set_ne (Ne.symm e)] at hTq
        rw [List.getElem?_set_ne (Ne.symm e')] at hTr
        exact h.sep q r oq or lq lr hTq hTr hoq hqr (other q lq e hlq) (other r lr e' hlr) h0 h0'
  · obtain ⟨h1, h2, h3, h4⟩ := h.glob b d hb'
    have hbne := hgl b (by simp [hb'])
    refine ⟨?_, Nat.lt_of_lt_of_le h2 hsz, h3, fun i hi => ?_⟩
    · rintro ⟨q, oq, lq, hTq, hoq, hlq, h0, hbq⟩
      by_cases e : q = p
      · subst e
        rw [upd_same] at hlq; injection hlq with hlq; subst hlq
        exact hbne hbq.symm
      · rw [List.getElem?_set_ne (Ne.symm e)] at hTq
        exact h1 ⟨q, oq, lq, hTq, hoq, other q lq e hlq, h0, hbq⟩
    · obtain ⟨x, hx, hv⟩ := h4 i hi
      exact ⟨x, by rw [World.cell?_of_block (w := w) (hb b h2 hbne)]; exact hx, hv⟩
  · by_cases e : q = p
    · subst e
      rw [List.getElem?_set_self hp] at hT
      injection hT with hT; injection hT with hT; subst hT
      exact FamOk.no hnf
    · rw [List.getElem?_set_ne (Ne.symm e)] at hT
      refine (h.fam q o' l' hT (other q l' e hl')).keep hsz (fun b hb1 hO h' => ?_) (fun b hb1 hO => hb b hb1 fun e' => ?_)
      · rcases Own.place hp b h' with h1 | h1
        · subst h1
          rcases hnew with h2 | h2
          · exact hO h2
          · omega
        · exact hO h1
      · subst e'
        rcases hnew with h2 | h2
        · exact hO h2
        · omega

/-- the world stays; an object is an empty one now, of no block -/
theorem HR.rebind (h : HR gl ν T w) {p : Nat} (hp : p < T.length) {o : AObj} (hd : IsData o.data) (h0 : o.data.len = 0) {l : Loc} (hg : o.g = l.g) (hl0 : l.room = 0)
    (hm : NuLe ν (upd ν p l)) (hfm : o.data.noFam = true) : HR gl (upd ν p l) (T.set p (some o)) w ∧ (∀ b, Own (upd ν p l) (T.set p (some o)) b → Own ν T b) := by
  have other : ∀ q lq, q ≠ p → upd ν p l q = some lq → ν q = some lq := fun q lq hq h' => by rwa [upd_other ν l hq] at h'
  have hown : ∀ b, Own (upd ν p l) (T.set p (some o)) b → Own ν T b := by
    rintro b ⟨q, oq, lq, hTq, hoq, hlq, h1, hbq⟩
    by_cases e : q = p
    · subst e
      rw [upd_same] at hlq; injection hlq with hlq; subst hlq
      omega
    · rw [List.getElem?_set_ne (Ne.symm e)] at hTq
      exact ⟨q, oq, lq, hTq, hoq, other q lq e hlq, h1, hbq⟩
  refine ⟨⟨fun q o' l' hT hl' => ?_, fun q lq hq => ?_, fun q hq => ?_, fun q lq hq h1 => ?_, fun q r oq or lq lr hTq hTr hoq hqr hlq hlr h1 h1' => ?_, fun b d hb' => ?_, fun q o' l' hT hl' => ?_⟩, hown⟩
  · by_cases e : q = p
    · subst e
      rw [List.getElem?_set_self hp] at hT
      injection hT with hT; injection hT with hT; subst hT
      rw [upd_same] at hl'; injection hl' with hl'; subst hl'
      exact ⟨hg, hd, .inr (.inr ⟨h0, hl0⟩)⟩
    · rw [List.getElem?_set_ne (Ne.symm e)] at hT
      obtain ⟨h1, h2⟩ := h.obj q o' l' hT (other q l' e hl')
      exact ⟨h1, h2.kept hm fun _ => rfl⟩
  · by_cases e : q = p
    · subst e; simpa using hp
    · simpa using h.lt q lq (other q lq e hq)
  · by_cases e : q = p
    · subst e
      rw [List.getElem?_set_self hp] at hq
      cases hq
    · rw [List.getElem?_set_ne (Ne.symm e)] at hq
      rw [upd_other ν l e]
      exact h.hole q hq
  · by_cases e : q = p
    · subst e
      rw [upd_same] at hq; injection hq with hq; subst hq
      omega
    · exact h.blk q lq (other q lq e hq) h1
  · by_cases e : q = p
    · subst e
      rw [upd_same] at hlq; injection hlq with hlq; subst hlq
      omega
    · by_cases e' : r = p
      · subst e'
        rw [upd_same] at hlr; injection hlr with hlr; subst hlr
        omega
      · rw [List.getElem?_set_ne (Ne.symm e)] at hTq
        rw [List.getElem?_set_ne (Ne.symm e')] at hTr
        exact h.sep q r oq or lq lr hTq hTr hoq hqr (other q lq e hlq) (other r lr e' hlr) h1 h1'
  · obtain ⟨h1, h2⟩ := h.glob b d hb'
    exact ⟨fun h3 => h1 (hown b h3), h2⟩
  · by_cases e : q = p
    · subst e
      rw [List.getElem?_set_self hp] at hT
      injection hT with hT; injection hT with hT; subst hT
      exact FamOk.no hfm
    · rw [List.getElem?_set_ne (Ne.symm e)] at hT
      exact (h.fam q o' l' hT (other q l' e hl')).sub hown

/-- the world stays, and where the object lies; it is told otherwise -/
theorem HR.retell (h : HR gl ν T w) {p : Nat} {o o' : AObj} {l : Loc} (ho : T[p]? = some (some o)) (hl : ν p = some l) (hg : o'.g = o.g) (hown : o'.own = true → o.own = true) (hr : ObjRel ν o' l w) (hfm : FamOk (Own ν T) w o' l := by first | exact FamOk.no (by assumption) | exact FamOk.no rfl) :
    HR gl ν (T.set p (some o')) w ∧ (∀ b, Own ν (T.set p (some o')) b → Own ν T b) := by
  have hp := h.lt p l hl
  have back : ∀ (q : Nat) (oq : AObj), (T.set p (some o'))[q]? = some (some oq) → ∃ oq' : AObj, T[q]? = some (some oq') ∧ (oq.own = true → oq'.own = true) := by
    intro q oq hq
    by_cases e : q = p
    · subst e
      rw [List.getElem?_set_self hp] at hq
      injection hq with hq; injection hq with hq; subst hq
      exact ⟨o, ho, hown⟩
    · rw [List.getElem?_set_ne (Ne.symm e)] at hq
      exact ⟨oq, hq, id⟩
  have hown' : ∀ b, Own ν (T.set p (some o')) b → Own ν T b := by
    rintro b ⟨q, oq, lq, hTq, hoq, hlq, h1, hbq⟩
    obtain ⟨oq', h2, h3⟩ := back q oq hTq
    exact ⟨q, oq', lq, h2, h3 hoq, hlq, h1, hbq⟩
  refine ⟨⟨fun q oq lq hT hlq => ?_, fun q lq hq => by simpa using h.lt q lq hq, fun q hq => ?_, h.blk, fun q r oq or lq lr hTq hTr hoq hqr hlq hlr h1 h1' => ?_, fun b d hb' => ?_, fun q oq lq hT hlq => ?_⟩, hown'⟩
  · by_cases e : q = p
    · subst e
      rw [List.getElem?_set_self hp] at hT
      injection hT with hT; injection hT with hT; subst hT
      rw [hl] at hlq; injection hlq with hlq; subst hlq
      exact ⟨hg.trans (h.obj q o l ho hl).1, hr⟩
    · rw [List.getElem?_set_ne (Ne.symm e)] at hT
      exact h.obj q oq lq hT hlq
  · by_cases e : q = p
    · subst e
      rw [List.getElem?_set_self hp] at hq
      cases hq
    · rw [List.getElem?_set_ne (Ne.symm e)] at hq
      exact h.hole q hq
  · obtain ⟨oq', h2, h3⟩ := back q oq hTq
    obtain ⟨or', h4, h5⟩ := back r or hTr
    exact h.sep q r oq' or' lq lr h2 h4 (h3 hoq) hqr hlq hlr h1 h1'
  · obtain ⟨h1, h2⟩ := h.glob b d hb'
    exact ⟨fun h3 => h1 (hown' b h3), h2⟩
  · by_cases e : q = p
    · subst e
      rw [List.getElem?_set_self hp] at hT
      injection hT with hT; injection hT with hT; subst hT
      rw [hl] at hlq; injection hlq with hlq; subst hlq
      exact hfm.sub hown'
    · rw [List.getElem?_set_ne (Ne.symm e)] at hT
      exact (h.fam q oq lq hT hlq).sub hown'

/-- A new block. -/
theorem HR.new (h : HR gl ν T w) {p : Nat} (hp : p < T.length) (hn : ν p = none) {d : AVal} (hd : IsData d) (hnf : d.noFam = true) {cur : Array Value} (hlen : d.len ≤ cur.size) (hv : VRs ν d.cells (cur.toList.take d.len)) (et : TypeId) :
    HR gl (upd ν p ⟨⟨w.heap.size, 0, none⟩, 0, cur.size⟩) (T.set p (some ⟨d, 0, true, et⟩)) (w.alloc (.cells cur et)) ∧
    NuLe ν (upd ν p ⟨⟨w.heap.size, 0, none⟩, 0, cur.size⟩) ∧
    Fr (Own ν T) w (Own (upd ν p ⟨⟨w.heap.size, 0, none⟩, 0, cur.size⟩) (T.set p (some ⟨d, 0, true, et⟩))) (w.alloc (.cells cur et)) := by
  have hm := NuLe.upd_new (ν := ν) ⟨⟨w.heap.size, 0, none⟩, 0, cur.size⟩ hn
  have hold : ∀ b, b < w.heap.size → (w.alloc (.cells cur et)).heap[b]? = w.heap[b]? := fun b hb => by
    show (w.heap.push _)[b]? = _
    rw [Array.getElem?_push, if_neg (by omega)]
  refine ⟨h.place hp rfl hd rfl hm (by simp) (fun q lq hq hl h0 => by have := h.blk q lq hl h0; simp only; omega)
    (fun b hb => by
      obtain ⟨d', hd'⟩ := Option.isSome_iff_exists.1 hb
      have := (h.glob b d' hd').2.1
      simp only; omega) (by simp) (fun b hb _ => hold b hb)
    ⟨⟨cur, heap_alloc_new w _, by simp, by simpa [rowOf] using hv.mono hm⟩, rfl, hlen⟩ hnf (.inr (Nat.le_refl _)), hm, ?_⟩
  refine ⟨rfl, rfl, rfl, by simp, fun b hb _ => hold b hb, fun b hb => ?_⟩
  rcases Own.place hp b hb with h1 | h1
  · exact .inr (by simp only at h1; omega)
  · exact .inl h1

theorem HR.drew (h : HR gl ν T w) : HR gl ν T w.drew := h.kept (Nat.le_refl _) (fun _ _ _ _ => rfl) (fun _ _ => rfl) (fun _ _ _ => rfl)
theorem Fr.drew (O : Nat → Prop) (w : World) : Fr O w O w.drew := ⟨rfl, rfl, rfl, Nat.le_refl _, fun _ _ _ => rfl, fun _ h => .inl h⟩
end

end Go.Abs

set_option linter.unusedVariables false
set_option linter.unusedSimpArgs false
namespace Go.Abs

/-! ## Data: parts, writes, joins -/
def kEq : IntKind → IntKind → Bool
  | .i8, .i8 | .i16, .i16 | .i32, .i32 | .i64, .i64 | .u8, .u8 | .u16, .u16 | .u32, .u32 | .u64, .u64 => true
  | _, _ => false
theorem kEq_eq {k k' : IntKind} (h : kEq k k' = true) : k = k' := by cases k <;> cases k' <;> first | rfl | simp [kEq] at h

/-- the whole numbers of a kind that a value holds -/
def asInts (k : IntKind) : AVal → Option (List Int)
  | .int k' n => if kEq k k' = true then some [n] else none
  | .ints k' xs => if kEq k k' = true then some xs else none
  | _ => none
theorem asInts_cells {k : IntKind} {v : AVal} {ys : List Int} (h : asInts k v = some ys) : v.cells = ys.map (AVal.int k) := by
  cases v <;> simp [asInts] at h
  · obtain ⟨h1, h2⟩ := h
    have := kEq_eq h1; subst this; subst h2; rfl
  · obtain ⟨h1, h2⟩ := h
    have := kEq_eq h1; subst this; subst h2; rfl

def asList (k : IntKind) : List AVal → Option (List Int)
  | [] => some []
  | v :: r => match asInts k v, asList k r with
    | some a, some b => some (a ++ b)
    | _, _ => none
theorem asList_cells {k : IntKind} : ∀ {vs : List AVal} {ys : List Int}, asList k vs = some ys → (∀ v ∈ vs, v.cells = [v]) → vs = ys.map (AVal.int k)
  | [], ys, h, _ => by simp [asList] at h; subst h; rfl
  | v :: r, ys, h, h1 => by
    simp only [asList] at h
    split at h
    · rename_i a b ha hb
      injection h with h
      subst h
      rw [List.map_append, ← asInts_cells ha, ← asList_cells hb (fun v hv => h1 v (by simp [hv])), h1 v (by simp)]
      rfl
    · cases h

def over {α : Type} (xs : List α) (off : Nat) (ys : List α) : List α := xs.take off ++ ys ++ xs.drop (off + ys.length)

def AVal.write (d : AVal) (off : Nat) (v : AVal) : Option AVal :=
  match d, v with
  | .ints k xs, .int k' n => if kEq k k' = true then some (.ints k (xs.set off n)) else none
  | .ints k xs, .ints k' ys => if kEq k k' = true then some (.ints k (over xs off ys)) else none
  | .agg vs, .agg us => some (.agg (over vs off us))
  | .agg vs, .ints k ys => some (.agg (over vs off (ys.map (AVal.int k))))
  | .agg vs, .tuple _ => none
  | .agg vs, .fam _ => none
  | .agg vs, .frows _ _ _ _ => none
  | .agg vs, v => some (.agg (vs.set off v))
  | _, _ => none

theorem write_noFam {d v d' : AVal} {off : Nat} (h : d.write off v = some d') : d'.noFam = true := by
  cases d <;> cases v <;> simp only [AVal.write] at h <;> first | (injection h with h; subst h; rfl) | (split at h <;> first | (injection h with h; subst h; rfl) | cases h) | cases h
theorem over_set {α : Type} (xs : List α) (off : Nat) (y : α) (h : off < xs.length) : over xs off [y] = xs.set off y := by
  unfold over
  rw [List.set_eq_take_append_cons_drop, if_pos h]
  simp
theorem over_length {α : Type} (xs : List α) (off : Nat) (ys : List α) (h : off + ys.length ≤ xs.length) : (over xs off ys).length = xs.length := by
  simp [over]; omega
theorem over_map {α β : Type} (f : α → β) (xs : List α) (off : Nat) (ys : List α) : (over xs off ys).map f = over (xs.map f) off (ys.map f) := by
  simp [over, List.map_take, List.map_drop]

theorem VRs.over {ν : Nu} {vs us : List AVal} {xs ys : List Value} (h : VRs ν vs xs) (hu : VRs ν us ys) (off : Nat) : VRs ν (over vs off us) (over xs off ys) := by
  unfold Abs.over
  rw [show us.length = ys.length from hu.1]
  exact ((h.take off).append hu).append (h.drop _)

theorem write_spec {ν : Nu} {d v d' : AVal} {off : Nat} (h : d.write off v = some d') {xs ys : List Value} (hx : VRs ν d.cells xs) (hy : VRs ν v.cells ys) (hb : off + ys.length ≤ d.len) :
    IsData d' ∧ d'.len = d.len ∧ VRs ν d'.cells (over xs off ys) := by
  have key : ∀ {d1 : AVal}, IsData d → (d' = d1) → IsData d1 → d1.cells = over d.cells off v.cells → IsData d' ∧ d'.len = d.len ∧ VRs ν d'.cells (over xs off ys) := by
    intro d1 hd e h1 h2
    subst e
    refine ⟨h1, ?_, ?_⟩
    · rw [← cells_len h1, h2, over_length, cells_len hd]
      rw [hy.1, cells_len hd]; exact hb
    · rw [h2]; exact hx.over hy off
  cases d with
  | ints k zs =>
    cases v with
    | int k' n =>
      simp only [AVal.write] at h
      split at h
      · rename_i hk
        have := kEq_eq hk; subst this
        injection h with h
        have hlen : ys.length = 1 := by rw [← hy.1]; rfl
        refine key (.ints _ _) h.symm (.ints _ _) ?_
        simp only [AVal.cells]
        rw [over_set _ _ _ (by simp [AVal.len, hlen] at hb ⊢; omega), List.map_set]
      · cases h
    | ints k' us =>
      simp only [AVal.write] at h
      split at h
      · rename_i hk
        have := kEq_eq hk; subst this
        injection h with h
        refine key (.ints _ _) h.symm (.ints _ _) ?_
        simp only [AVal.cells]
        rw [over_map]
      · cases h
    | _ => simp [AVal.write] at h
  | agg vs =>
    have single : v.cells = [v] → d' = .agg (vs.set off v) → IsData d' ∧ d'.len = (AVal.agg vs).len ∧ VRs ν d'.cells (over xs off ys) := by
      intro h1 h2
      have hlen : ys.length = 1 := by rw [← hy.1, h1]; rfl
      refine key (.agg _) h2 (.agg _) ?_
      simp only [AVal.cells] at h1 ⊢
      rw [h1, over_set _ _ _ (by simp [AVal.len, hlen] at hb; omega)]
    cases v with
    | agg us => simp only [AVal.write] at h; injection h with h; exact key (.agg _) h.symm (.agg _) rfl
    | ints k us => simp only [AVal.write] at h; injection h with h; exact key (.agg _) h.symm (.agg _) rfl
    | tuple _ => simp [AVal.write] at h
    | fam _ => simp [AVal.write] at h
    | frows _ _ _ _ => simp [AVal.write] at h
    | _ => simp only [AVal.write] at h; injection h with h; exact single rfl h.symm
  | _ => simp [AVal.write] at h

def dropO {α : Type} (off : Nat) (xs : List α) : List α := match off with | 0 => xs | n + 1 => xs.drop (n + 1)
theorem dropO_eq {α : Type} (off : Nat) (xs : List α) : dropO off xs = xs.drop off := by cases off <;> simp [dropO]

/-- n cells from off on -/
def AVal.sub (d : AVal) (off n : Nat) : AVal :=
  match d with
  | .ints k xs => .ints k ((dropO off xs).take n)
  | .agg vs => .agg ((dropO off vs).take n)
  | .frows p g Z vs => match vs with
    | [] => match off with
      | 0 => .frows p g (Z.take n) []
      | m + 1 => .agg (((frowsV p g Z).drop (m + 1)).take n)
    | v :: vs => .agg ((dropO off (frowsV p g Z ++ v :: vs)).take n)
  | d => d
theorem frowsV_take (p g : Nat) (Z : List (List Int)) (n : Nat) : frowsV p g (Z.take n) = (frowsV p g Z).take n := by
  apply List.ext_getElem?
  intro i
  by_cases h : i < min n Z.length
  · have h1 : i < Z.length := by omega
    have h2 : i < n := by omega
    have h3 : (List.range (min n Z.length))[i]? = some i := List.getElem?_range h
    simp [frowsV, h1, h2, h3, List.getElem?_take]
  · rw [List.getElem?_eq_none (by rw [frowsV_len]; simp; omega), List.getElem?_eq_none (by rw [List.length_take, frowsV_len]; omega)]
theorem sub_cells {d : AVal} (h : IsData d) (off n : Nat) : (d.sub off n).cells = (d.cells.drop off).take n := by
  cases h with
  | frows p g Z vs =>
    cases vs with
    | nil => cases off <;> simp [AVal.sub, AVal.cells, frowsV_take]
    | cons v vs => simp [AVal.sub, AVal.cells, dropO_eq]
  | _ => simp [AVal.sub, AVal.cells, dropO_eq, List.map_take, List.map_drop]
theorem sub_data {d : AVal} (h : IsData d) (off n : Nat) : IsData (d.sub off n) := by
  cases h with
  | frows p g Z vs =>
    cases vs with
    | nil => cases off <;> constructor
    | cons v vs => constructor
  | _ => constructor
theorem sub_len {d : AVal} (h : IsData d) {off n : Nat} (hn : off + n ≤ d.len) : (d.sub off n).len = n := by
  rw [← cells_len (sub_data h off n), sub_cells h, List.length_take, List.length_drop, cells_len h]
  omega

def AVal.cat (d e : AVal) : Option AVal :=
  match d, e with
  | .ints k xs, .ints k' ys => if kEq k k' = true then some (.ints k (xs ++ ys)) else none
  | .agg vs, .agg us => some (.agg (vs ++ us))
  | .frows p g Z vs, .agg us => some (.frows p g Z (vs ++ us))
  | _, _ => none
theorem frows_len (p g : Nat) (Z : List (List Int)) (vs : List AVal) : (AVal.frows p g Z vs).len = Z.length + vs.length := by cases vs <;> simp [AVal.len]
theorem cat_spec {d e r : AVal} (h : d.cat e = some r) : IsData d ∧ IsData e ∧ IsData r ∧ r.cells = d.cells ++ e.cells ∧ r.len = d.len + e.len := by
  cases d <;> cases e <;> simp [AVal.cat] at h
  · subst h
    exact ⟨.agg _, .agg _, .agg _, rfl, by simp [AVal.len]⟩
  · obtain ⟨hk, h⟩ := h
    have := kEq_eq hk; subst this; subst h
    exact ⟨.ints _ _, .ints _ _, .ints _ _, by simp [AVal.cells], by simp [AVal.len]⟩
  · subst h
    exact ⟨.frows _ _ _ _, .agg _, .frows _ _ _ _, by simp [AVal.cells], by rw [frows_len, frows_len]; simp [AVal.len]; omega⟩

theorem cat_noFam {d e r : AVal} (h : d.cat e = some r) : r.noFam = true := by
  cases d <;> cases e <;> simp only [AVal.cat] at h <;> first | (injection h with h; subst h; rfl) | (split at h <;> first | (injection h with h; subst h; rfl) | cases h) | cases h
/-! ## Memory -/
section
variable {gl : Nat → Option AVal} {ν : Nu} {T : Tab} {w : World} {P : Program}

theorem IsData.one {v : AVal} (h : v.one = true) : ¬ IsData v := by rintro (_ | _) <;> simp [AVal.one] at h

def oneCells (d : AVal) : Bool := match d with | .agg vs => vs.all AVal.one | .frows _ _ _ vs => vs.all AVal.one | _ => true

/-- so many cells of an object, as a list in the world -/
theorem HR.readRow (h : HR gl ν T w) {p : Nat} {o : AObj} {l : Loc} (ho : T[p]? = some (some o)) (hl : ν p = some l) {off n : Nat} (hn : off + n ≤ o.data.len) :
    ∃ xs : List Value, xs.length = n ∧ (∀ j v, xs[j]? = some v → w.cell? ((l.a.add off).add j) = some v) ∧ VRs ν (o.data.sub off n).cells xs := by
  have hd := (h.obj p o l ho hl).2.1
  refine ⟨(List.range n).map fun j => (w.cell? (l.a.add (off + j))).getD undef, by simp, ?_, ?_, ?_⟩
  · intro j v hj
    have hjn : j < n := by
      rcases Nat.lt_or_ge j n with h' | h'
      · exact h'
      · rw [List.getElem?_eq_none (by simpa using h')] at hj; cases hj
    simp only [List.getElem?_map, List.getElem?_range hjn, Option.map_some] at hj
    injection hj with hj
    obtain ⟨x, hx, _⟩ := h.read ho hl (i := off + j) (by omega)
    rw [hx] at hj
    rw [add_add, hx]
    simpa using hj
  · rw [sub_cells hd]; simp [cells_len hd]; omega
  · intro i hi
    rw [sub_cells hd] at hi ⊢
    have hin : i < n := by simp [cells_len hd] at hi; omega
    obtain ⟨x, hx, hv⟩ := h.read ho hl (i := off + i) (by omega)
    have e1 : ((List.drop off o.data.cells).take n).getD i un = o.data.get (off + i) := by
      rw [← cells_get hd (by omega)]
      simp [List.getD, hin]
    have e2 : ((List.range n).map fun j => (w.cell? (l.a.add (off + j))).getD undef).getD i undef = x := by
      simp [List.getD, hin, hx]
    rw [e1, e2]; exact hv

theorem HR.apart (h : HR gl ν T w) {p : Nat} {o : AObj} {l : Loc} (ho : T[p]? = some (some o)) (hl : ν p = some l) (hown : o.own = true) (h0 : 0 < l.room) :
    ∀ q lq, q ≠ p → ν q = some lq → 0 < lq.room → lq.a.block ≠ l.a.block := by
  intro q lq hq hlq h1
  rcases hTq : T[q]? with _ | oq
  · have := h.lt q lq hlq
    rw [List.getElem?_eq_none_iff] at hTq
    omega
  · rcases oq with _ | oq
    · have := h.hole q hTq; rw [this] at hlq; cases hlq
    · exact (h.sep p q o oq l lq ho hTq hown (Ne.symm hq) hl hlq h0 h1).symm

/-- a list of values is written into an own object -/
theorem HR.writeRow (h : HR gl ν T w) {p : Nat} {o : AObj} {l : Loc} (ho : T[p]? = some (some o)) (hl : ν p = some l) (hown : o.own = true) {off : Nat} {v d' : AVal}
    (hw : o.data.write off v = some d') {ys : List Value} (hy : VRs ν v.cells ys) (hb : off + ys.length ≤ o.data.len) (h1 : ∀ x ∈ ys, x.oneCell' = true) :
    ∃ w', (storeCells (l.a.add off) ys).run P w = .ok () w' ∧ HR gl ν (T.set p (some { o with data := d' })) w' ∧ Fr (Own ν T) w (Own ν (T.set p (some { o with data := d' }))) w' := by
  obtain ⟨hg, hd, hr⟩ := h.obj p o l ho hl
  have hp := h.lt p l hl
  rcases Nat.eq_zero_or_pos l.room with hz | hpos
  · -- nothing is written
    have hroom := (h.obj p o l ho hl).2.room
    have hys : ys = [] := List.eq_nil_of_length_eq_zero (by omega)
    subst hys
    obtain ⟨hd', hlen', _⟩ := write_spec (ν := ν) (xs := []) (d := o.data) hw ⟨by rw [cells_len hd]; simp; omega, fun i hi => by rw [cells_len hd] at hi; omega⟩ hy (by simpa using hb)
    obtain ⟨h2, h3⟩ := h.retell (o' := { o with data := d' }) ho hl rfl id ⟨hd', .inr (.inr ⟨by simp only; omega, hz⟩)⟩ (FamOk.no (write_noFam hw))
    exact ⟨w, rfl, h2, (Fr.refl _ w).sub h3⟩
  rcases hr with ⟨_, ⟨⟨cur, hc, hsz, hv⟩, hs, hroom⟩⟩ | ⟨hf, _⟩ | ⟨_, h0⟩
  rotate_left
  · rw [hown] at hf; cases hf
  · omega
  · obtain ⟨hd', hlen', hvr⟩ := write_spec (ν := ν) hw hv hy hb
    have hst := run_storeCells_at P l.a.block (l.a.off + off) o.et ys 0 cur w hc (by simp; omega) h1
    have ha : l.a.add off = ⟨l.a.block, l.a.off + off, none⟩ := by rw [addr_eta l.a hs, add_plain']
    rw [ha]
    simp only [Nat.add_zero] at hst
    have hupd : upd ν p l = ν := by
      funext q
      by_cases e : q = p
      · subst e; rw [upd_same, hl]
      · rw [upd_other ν l e]
    have hrow : rowOf (cur.toList.take (l.a.off + off) ++ ys ++ cur.toList.drop (l.a.off + off + ys.length)).toArray l.a.off o.data.len = over (rowOf cur l.a.off o.data.len) off ys := by
      have hcl : l.a.off + l.room ≤ cur.toList.length := by simpa using hsz
      apply List.ext_getElem?
      intro j
      simp only [rowOf, over, List.getElem?_append, List.getElem?_take, List.getElem?_drop, List.length_append, List.length_take, List.length_drop]
      by_cases hj : j < o.data.len
      · have m1 : min (l.a.off + off) cur.toList.length = l.a.off + off := by omega
        have m2 : min off (min o.data.len (cur.toList.length - l.a.off)) = off := by omega
        simp only [m1, m2, hj, if_true]
        by_cases c1 : j < off
        · simp [c1, show l.a.off + j < l.a.off + off by omega, show l.a.off + j < l.a.off + off + ys.length by omega, show j < off + ys.length by omega, hj]
        · by_cases c2 : j < off + ys.length
          · simp [c1, c2, show ¬ l.a.off + j < l.a.off + off by omega, show l.a.off + j < l.a.off + off + ys.length by omega]
            congr 1; omega
          · simp [c1, c2, show ¬ l.a.off + j < l.a.off + off by omega, show ¬ l.a.off + j < l.a.off + off + ys.length by omega, show off + ys.length + (j - (off + ys.length)) < o.data.len by omega]
            congr 1; omega
      · have m2 : min off (min o.data.len (cur.toList.length - l.a.off)) = off := by omega
        simp only [m2, hj, if_false]
        have : ¬ j < off + ys.length := by omega
        simp [show ¬ j < off by omega, this, show ¬ off + ys.length + (j - (off + ys.length)) < o.data.len by omega]
    have hpl := h.place (w' := w.setRow l.a.block (cur.toList.take (l.a.off + off) ++ ys ++ cur.toList.drop (l.a.off + off + ys.length)).toArray) hp (o := { o with data := d' }) hown hd' (l := l) hg (by rw [hupd]; exact NuLe.refl ν) (by simp)
      (h.apart ho hl hown hpos)
      (fun b hb' => by
        obtain ⟨d, hd⟩ := Option.isSome_iff_exists.1 hb'
        rintro rfl
        exact (h.glob _ d hd).1 ⟨p, o, l, ho, hown, hl, hpos, rfl⟩)
      (by simpa using h.blk p l hl hpos) (fun b _ hne => setRow_other w _ b _ hne)
      ⟨⟨_, setRow_heap w l.a.block cur _ o.et (0, 0) hc, by simp; omega, by rw [hupd, hlen', hrow]; exact hvr⟩, hs, by rw [hlen']; exact hroom⟩ (write_noFam hw) (.inl ⟨p, o, l, ho, hown, hl, hpos, rfl⟩)
    rw [hupd] at hpl
    refine ⟨_, hst, hpl, rfl, rfl, rfl, by simp, fun b _ hO => ?_, fun b hb' => ?_⟩
    · exact setRow_other w _ b _ (by rintro rfl; exact hO ⟨p, o, l, ho, hown, hl, hpos, rfl⟩)
    · have hpl2 := Own.place (ν := ν) (T := T) (o := { o with data := d' }) (l := l) hp b (by rw [hupd]; exact hb')
      rcases hpl2 with rfl | h2
      · exact .inl ⟨p, o, l, ho, hown, hl, hpos, rfl⟩
      · exact .inl h2

theorem VRs.tolist {ν : Nu} {vs : List AVal} {xs : List Value} (h : VRs ν vs xs) (h1 : ∀ v ∈ vs, v.one = true) : ∀ x ∈ xs, x.oneCell' = true := by
  intro x hx
  obtain ⟨i, hi, rfl⟩ := List.getElem_of_mem hx
  have hi' : i < vs.length := h.1 ▸ hi
  have := h.2 i hi'
  simp [List.getD, hi, hi'] at this
  exact this.one (h1 _ (List.getElem_mem hi'))
theorem cells_one {d : AVal} (hd : IsData d) (h : oneCells d = true) : ∀ v ∈ d.cells, v.one = true := by
  cases hd with
  | agg vs => simpa [oneCells, AVal.cells] using h
  | ints k xs => intro v hv; simp [AVal.cells] at hv; obtain ⟨x, _, rfl⟩ := hv; rfl
  | fam Z => intro v hv; simp [AVal.cells] at hv
  | frows p g Z vs =>
    intro v hv
    simp only [AVal.cells, List.mem_append] at hv
    rcases hv with hv | hv
    · simp only [frowsV, List.mem_map] at hv; obtain ⟨i, _, rfl⟩ := hv; rfl
    · simp only [oneCells, List.all_eq_true] at h; exact h v hv

/-- an object is placed anew: in a block of its own that it holds already, or in a new one -/
theorem HR.replace (h : HR gl ν T w) {p : Nat} {o o' : AObj} {l l' : Loc} (ho : T[p]? = some (some o)) (hl : ν p = some l) (hown : o.own = true) (hpos : 0 < l.room) (hown' : o'.own = true) (hnf : o'.data.noFam = true) (hd : IsData o'.data)
    (hg : o'.g = l'.g) (hb : l'.a.block = l.a.block) (hm : NuLe ν (upd ν p l')) {cs : Array Value} {cur : Array Value} (hc : w.heap[l.a.block]? = some (.cells cur o'.et (0, 0))) (hsz : l'.a.off + l'.room ≤ cs.size)
    (hv : VRs (upd ν p l') o'.data.cells (rowOf cs l'.a.off o'.data.len)) (hs : l'.a.spot = none) (hroom : o'.data.len ≤ l'.room) :
    HR gl (upd ν p l') (T.set p (some o')) (w.setRow l.a.block cs) ∧ Fr (Own ν T) w (Own (upd ν p l') (T.set p (some o'))) (w.setRow l.a.block cs) := by
  have hp := h.lt p l hl
  refine ⟨h.place hp hown' hd hg hm (by simp) (fun q lq hq hlq h1 => by rw [hb]; exact h.apart ho hl hown hpos q lq hq hlq h1) (fun b hb' => ?_) (by rw [hb]; simpa using h.blk p l hl hpos) (fun b _ hne => setRow_other w _ b _ (by rw [← hb]; exact hne))
    ⟨⟨cs, by rw [hb]; exact setRow_heap w l.a.block cur _ o'.et (0, 0) hc, hsz, hv⟩, hs, hroom⟩ hnf (.inl ⟨p, o, l, ho, hown, hl, hpos, hb.symm⟩), rfl, rfl, rfl, by simp, fun b _ hO => ?_, fun b hb' => ?_⟩
  · obtain ⟨d, hd⟩ := Option.isSome_iff_exists.1 hb'
    rw [hb]
    rintro rfl
    exact (h.glob _ d hd).1 ⟨p, o, l, ho, hown, hl, hpos, rfl⟩
  · exact setRow_other w _ b _ (by rintro rfl; exact hO ⟨p, o, l, ho, hown, hl, hpos, rfl⟩)
  · rcases Own.place hp b hb' with rfl | h2
    · exact .inl ⟨p, o, l, ho, hown, hl, hpos, hb.symm⟩
    · exact .inl h2

/-- ... in a new block -/
theorem HR.move (h : HR gl ν T w) {p : Nat} (hp : p < T.length) {o' : AObj} {g room : Nat} (hown' : o'.own = true) (hnf : o'.data.noFam = true) (hd : IsData o'.data) (hg : o'.g = g)
    {W : World} (hW : W.heap = w.heap) (hos : W.os = w.os) (htape : W.tape = w.tape) (hout : W.output = w.output) (hm : NuLe ν (upd ν p ⟨⟨w.heap.size, 0, none⟩, g, room⟩)) {cs : Array Value} (hsz : room ≤ cs.size)
    (hv : VRs (upd ν p ⟨⟨w.heap.size, 0, none⟩, g, room⟩) o'.data.cells (cs.toList.take o'.data.len)) (hroom : o'.data.len ≤ room) :
    HR gl (upd ν p ⟨⟨w.heap.size, 0, none⟩, g, room⟩) (T.set p (some o')) (W.alloc (.cells cs o'.et)) ∧ Fr (Own ν T) w (Own (upd ν p ⟨⟨w.heap.size, 0, none⟩, g, room⟩) (T.set p (some o'))) (W.alloc (.cells cs o'.et)) := by
  have hold : ∀ b, b < w.heap.size → (W.alloc (.cells cs o'.et)).heap[b]? = w.heap[b]? := fun b hb => by
    show (W.heap.push _)[b]? = _
    rw [hW, Array.getElem?_push, if_neg (by omega)]
  have hnew : (W.alloc (.cells cs o'.et)).heap[w.heap.size]? = some (.cells cs o'.et) := by rw [← hW]; exact heap_alloc_new W _
  have hsize : (W.alloc (.cells cs o'.et)).heap.size = w.heap.size + 1 := by simp [hW]
  refine ⟨h.place hp hown' hd hg hm (by omega) (fun q lq hq hlq h0 => ?_) (fun b hb' => ?_) (by simp only; omega) (fun b hb _ => hold b hb)
    ⟨⟨cs, hnew, by simpa using hsz, by simpa [rowOf] using hv⟩, rfl, hroom⟩ hnf (.inr (Nat.le_refl _)), hos, htape, hout, by omega, fun b hb _ => hold b hb, fun b hb' => ?_⟩
  · have := h.blk q lq hlq h0; simp only; omega
  · obtain ⟨d, hd⟩ := Option.isSome_iff_exists.1 hb'
    have := (h.glob _ d hd).2.1
    simp only; omega
  · rcases Own.place hp b hb' with h1 | h2
    · exact .inr (by simp only at h1; omega)
    · exact .inl h2
end
end Go.Abs

set_option linter.unusedVariables false
set_option linter.unusedSimpArgs false
namespace Go.Abs

def notInt : TypeDesc → Bool
  | .slice _ => true
  | .string => true
  | _ => false
theorem notInt_cases {d : TypeDesc} (h : notInt d = true) : (∃ e, d = .slice e) ∨ d = .string := by
  cases d <;> first | exact .inl ⟨_, rfl⟩ | exact .inr rfl | simp [notInt] at h

section
variable {P : Program} (w : World)

theorem run_append_room' (t xT ty e : TypeId) (i : TypeInfo) (dx : TypeDesc) (ht : P.underlying t = some (.slice e)) (hx : P.underlying xT = some dx) (hdx : notInt dx = true) (hi : P.info? e = some i)
    (ao : Option Addr) (sLen sCap m : Nat) (x : Value) (news : List Value) (hlen : (Builtin.lenOf x).run P w = .ok m w) (hf : (Builtin.firstCells i.size m x).run P w = .ok news.toArray w) (hroom : sLen + m ≤ sCap) :
    (Builtin.append_ #[t, xT] ty #[.slice ao sLen sCap, x]).run P w =
      match ao with
      | none => .ok (.slice none (sLen + m) sCap) w
      | some a => ((storeCells (a.add (sLen * i.size)) news).run P w).andThen fun _ w' => .ok (.slice (some a) (sLen + m) sCap) w' := by
  rcases notInt_cases hdx with ⟨e', rfl⟩ | rfl <;> cases ao <;>
    simp [Builtin.append_, run_underlying ht, run_underlying hx, sizeOf, typeInfo, hi, hlen, hf, hroom]

theorem run_append_grow' (t xT ty e : TypeId) (i : TypeInfo) (z : Value) (dx : TypeDesc) (ht : P.underlying t = some (.slice e)) (hx : P.underlying xT = some dx) (hdx : notInt dx = true) (hi : P.info? e = some i) (hz : i.zero = some z)
    (ao : Option Addr) (sLen sCap m : Nat) (x : Value) (olds news : List Value) (hlen : (Builtin.lenOf x).run P w = .ok m w)
    (ho : (Builtin.firstCells i.size sLen (.slice ao sLen sCap)).run P w.drew = .ok olds.toArray w.drew)
    (hf : (Builtin.firstCells i.size m x).run P w.drew = .ok news.toArray w.drew)
    (hg : sCap < sLen + m) (h63 : sLen + m ≤ 9223372036854775807) (hfit : Builtin.nextslicecap (sLen + m) sCap * i.bytes ≤ 281474976710656) :
    (Builtin.append_ #[t, xT] ty #[.slice ao sLen sCap, x]).run P w =
      .ok (.slice (some ⟨w.heap.size, 0, none⟩) (sLen + m) (grownCap w (sLen + m) sCap e))
        (w.drew.alloc (.cells (olds.toArray ++ news.toArray ++ Builtin.zeroCells z.cells (grownCap w (sLen + m) sCap e - (sLen + m))) e)) := by
  have hn : ¬ (sLen + m ≤ sCap) := by omega
  have h63' : ¬ (9223372036854775807 < ((sLen : Int) + (m : Int))) := by omega
  have h48' : ¬ (281474976710656 < Builtin.nextslicecap (sLen + m) sCap * i.bytes) := by omega
  rcases notInt_cases hdx with ⟨e', rfl⟩ | rfl <;>
    (simp [Builtin.append_, run_underlying ht, run_underlying hx, sizeOf, typeInfo, zeroValue, hi, hz, hlen, hn, h63', h48', Question.forced, ho, hf, newRow, grownCap]
     congr 2
     apply Array.ext'
     simp [List.append_assoc])
end

section
variable {gl : Nat → Option AVal} {ν : Nu} {T : Tab} {w : World} {P : Program}

theorem zeroCells_size' (z : Array Value) (n : Nat) : (Builtin.zeroCells z n).size = n * z.size := by simp [Builtin.zeroCells]

/-- what is appended: so many elements; how the append runs -/
structure App (P : Program) (ν : Nu) (w : World) (t xT ty e : TypeId) (i : TypeInfo) (z : Value) (x : Value) (m : Nat) (ev : AVal) (news : List Value) : Prop where
  num : news.length = m * i.size
  vrs : VRs ν ev.cells news
  one : ∀ x ∈ news, x.oneCell' = true
  room : ∀ (ao : Option Addr) (sLen sCap : Nat), sLen + m ≤ sCap → (Builtin.append_ #[t, xT] ty #[.slice ao sLen sCap, x]).run P w =
      match ao with
      | none => .ok (.slice none (sLen + m) sCap) w
      | some a => ((storeCells (a.add (sLen * i.size)) news).run P w).andThen fun _ w' => .ok (.slice (some a) (sLen + m) sCap) w'
  grow : ∀ (ao : Option Addr) (sLen sCap : Nat) (olds : List Value), (Builtin.firstCells i.size sLen (.slice ao sLen sCap)).run P w.drew = .ok olds.toArray w.drew →
      sCap < sLen + m → sLen + m ≤ 9223372036854775807 → Builtin.nextslicecap (sLen + m) sCap * i.bytes ≤ 281474976710656 →
      (Builtin.append_ #[t, xT] ty #[.slice ao sLen sCap, x]).run P w =
      .ok (.slice (some ⟨w.heap.size, 0, none⟩) (sLen + m) (grownCap w (sLen + m) sCap e))
        (w.drew.alloc (.cells (olds.toArray ++ news.toArray ++ Builtin.zeroCells z.cells (grownCap w (sLen + m) sCap e - (sLen + m))) e))

theorem cell?_of_heap {W w : World} (h : W.heap = w.heap) (a : Addr) : W.cell? a = w.cell? a := by simp [World.cell?, h]

theorem App.of {t xT ty e : TypeId} {i : TypeInfo} {z : Value} {dx : TypeDesc} (ht : P.underlying t = some (.slice e)) (hx : P.underlying xT = some dx) (hdx : notInt dx = true) (hi : P.info? e = some i) (hz : i.zero = some z)
    {x : Value} {m : Nat} {ev : AVal} {news : List Value} (hlen : ∀ W : World, (Builtin.lenOf x).run P W = .ok m W) (hf : ∀ W : World, W.heap = w.heap → (Builtin.firstCells i.size m x).run P W = .ok news.toArray W)
    (num : news.length = m * i.size) (vrs : VRs ν ev.cells news) (one : ∀ x ∈ news, x.oneCell' = true) : App P ν w t xT ty e i z x m ev news :=
  ⟨num, vrs, one, fun ao sLen sCap hroom => run_append_room' w t xT ty e i dx ht hx hdx hi ao sLen sCap m x news (hlen w) (hf w rfl) hroom,
    fun ao sLen sCap olds ho hg h63 hfit => run_append_grow' w t xT ty e i z dx ht hx hdx hi hz ao sLen sCap m x olds news (hlen w) ho (hf w.drew rfl) hg h63 hfit⟩

theorem App.slice (h : HR gl ν T w) {t xT ty e : TypeId} {i : TypeInfo} {z : Value} {dx : TypeDesc} (ht : P.underlying t = some (.slice e)) (hx : P.underlying xT = some dx) (hdx : notInt dx = true) (hi : P.info? e = some i) (hz : i.zero = some z)
    {p : Nat} {o : AObj} {l : Loc} (ho : T[p]? = some (some o)) (hl : ν p = some l) {off m c : Nat} (hn : off + m * i.size ≤ o.data.len) (h1 : oneCells o.data = true) :
    ∃ news, App P ν w t xT ty e i z (.slice (some (l.a.add off)) m c) m (o.data.sub off (m * i.size)) news := by
  obtain ⟨xs, hxl, hxc, hxv⟩ := h.readRow ho hl hn
  refine ⟨xs, App.of ht hx hdx hi hz (fun W => by simp [Builtin.lenOf]) (fun W hW => ?_) hxl hxv ?_⟩
  · exact run_firstCells_some (P := P) W i.size m (l.a.add off) m c xs hxl (fun j v hj => by rw [cell?_of_heap hW]; exact hxc j v hj)
  · refine hxv.tolist ?_
    have hd := (h.obj p o l ho hl).2.1
    intro v hv
    rw [sub_cells hd] at hv
    exact cells_one hd h1 v (List.mem_of_mem_drop (List.mem_of_mem_take hv))
theorem App.empty {t xT ty e : TypeId} {i : TypeInfo} {z : Value} {dx : TypeDesc} (ht : P.underlying t = some (.slice e)) (hx : P.underlying xT = some dx) (hdx : notInt dx = true) (hi : P.info? e = some i) (hz : i.zero = some z)
    (ao : Option Addr) (c : Nat) {ev : AVal} (he : ev.cells = []) : App P ν w t xT ty e i z (.slice ao 0 c) 0 ev [] := by
  refine App.of ht hx hdx hi hz (fun W => by simp [Builtin.lenOf]) (fun W _ => ?_) (by simp) (by rw [he]; exact VRs.nil ν) (by simp)
  cases ao <;> simp [Builtin.firstCells, loadCells, loadCellsFrom]
theorem App.string {t xT ty e : TypeId} {i : TypeInfo} {z : Value} (ht : P.underlying t = some (.slice e)) (hx : P.underlying xT = some .string) (hi : P.info? e = some i) (hz : i.zero = some z) (h1 : i.size = 1) (s : List UInt8) :
    App P ν w t xT ty e i z (.string ⟨s.toArray⟩) s.length (.ints .u8 (s.map fun b => (b.toNat : Int))) (s.map fun b => Value.int .u8 b.toNat) := by
  refine App.of ht hx rfl hi hz (fun W => by simp [Builtin.lenOf, ByteArray.size]) (fun W _ => ?_) (by simp [h1]) ?_ (by simp [Value.oneCell'])
  · simp only [Builtin.firstCells, Sem.run_pure]
    congr 1
    have : (ByteArray.extract ⟨s.toArray⟩ 0 s.length).data = s.toArray := by
      apply Array.ext'
      simp [ByteArray.data_extract]
    rw [this]
    simp
  · have := VRs.ints ν .u8 (s.map fun b => (b.toNat : Int))
    simpa [AVal.cells, Function.comp_def] using this

/-- append(s, make([]T, n)...) -/
theorem App.zeros {t xT ty e : TypeId} {i : TypeInfo} {z : Value} {k : IntKind} (ht : P.underlying t = some (.slice e)) (hx : P.underlying xT = some (.int k)) (hi : P.info? e = some i) (hz : i.zero = some z)
    (kk : IntKind) (m : Nat) (hm : m ≤ 9223372036854775807) (hb : m * i.bytes ≤ 281474976710656) {ev : AVal} (num : m * z.cells.size = m * i.size) (vrs : VRs ν ev.cells (Builtin.zeroCells z.cells m).toList)
    (one : ∀ x ∈ (Builtin.zeroCells z.cells m).toList, x.oneCell' = true) : App P ν w t xT ty e i z (.int kk (m : Int)) m ev (Builtin.zeroCells z.cells m).toList := by
  have hw : IntKind.i64.wrap (m : Int) = m := by
    simp [IntKind.wrap, IntKind.bits, IntKind.signed]; omega
  have hb' : ¬ ((281474976710656 : Int) < (m : Int) * (i.bytes : Int)) := by
    have : ((m * i.bytes : Nat) : Int) ≤ 281474976710656 := by omega
    rw [Int.natCast_mul] at this
    omega
  have hneg : ¬ ((m : Int) < 0) := by omega
  have hsz : ∀ n : Nat, n * i.size = 0 → n = m → (Builtin.zeroCells z.cells m) = #[] := by
    intro n h0 hn
    subst hn
    rw [← Array.size_eq_zero_iff, zeroCells_size', num, h0]
  refine ⟨by simp [zeroCells_size', num], vrs, one, fun ao sLen sCap hroom => ?_, fun ao sLen sCap olds ho hg h63 hfit => ?_⟩
  · by_cases h0 : m * i.size = 0
    · have := hsz m h0 rfl
      cases ao <;> simp [Builtin.append_, run_underlying ht, run_underlying hx, sizeOf, typeInfo, zeroValue, hi, hz, asInt, asIntOf, hw, hneg, hb', hroom, h0, this]
    · cases ao <;> simp [Builtin.append_, run_underlying ht, run_underlying hx, sizeOf, typeInfo, zeroValue, hi, hz, asInt, asIntOf, hw, hneg, hb', hroom, h0]
  · have hn : ¬ (sLen + m ≤ sCap) := by omega
    have h63' : ¬ (9223372036854775807 < ((sLen : Int) + (m : Int))) := by omega
    have h48' : ¬ (281474976710656 < Builtin.nextslicecap (sLen + m) sCap * i.bytes) := by omega
    by_cases h0 : m * i.size = 0
    · have := hsz m h0 rfl
      simp [Builtin.append_, run_underlying ht, run_underlying hx, sizeOf, typeInfo, zeroValue, hi, hz, asInt, asIntOf, hw, hneg, hb', h0, this, hn, h63', h48', Question.forced, ho, newRow, grownCap]
    · simp [Builtin.append_, run_underlying ht, run_underlying hx, sizeOf, typeInfo, zeroValue, hi, hz, asInt, asIntOf, hw, hneg, hb', h0, hn, h63', h48', Question.forced, ho, newRow, grownCap]

theorem zeroCells_size (z : Array Value) (n : Nat) : (Builtin.zeroCells z n).size = n * z.size := by simp [Builtin.zeroCells]

/-- append onto an own object: its refs die, it bears a new generation -/
theorem HR.append_own (h : HR gl ν T w) (t xT ty e : TypeId) (i : TypeInfo) (z : Value) (hzs : z.cells.size = i.size)
    {p : Nat} {o : AObj} {l : Loc} (ho : T[p]? = some (some o)) (hl : ν p = some l) (hown : o.own = true) (het : o.et = e)
    {off len c : Nat} {b : Addr} {cap : Option Nat} (hs : SlRel l i.size off len cap b c) (hrel : OwnRel ν o l w) (hc0 : 0 < c) (hpos : 0 < i.size) (hin : off + len * i.size ≤ o.data.len)
    {x : Value} {m : Nat} {ev d' : AVal} {news : List Value} (src : App P ν w t xT ty e i z x m ev news) (hcat : (o.data.sub off (len * i.size)).cat ev = some d')
    (hfit : (len + m) * i.bytes ≤ 140737488355328) (h63 : len + m ≤ 9223372036854775807) :
    ∃ x' w' ν', (Builtin.append_ #[t, xT] ty #[.slice (some b) len c, x]).run P w = .ok x' w' ∧ NuLe ν ν' ∧ (∀ q, q ≠ p → ν' q = ν q) ∧
      VR ν' (.slice i.size p (o.g + 1) 0 (len + m) none) x' ∧ HR gl ν' (T.set p (some ⟨d', o.g + 1, true, e⟩)) w' ∧ Fr (Own ν T) w (Own ν' (T.set p (some ⟨d', o.g + 1, true, e⟩))) w' := by
  obtain ⟨hg, hd, hr⟩ := h.obj p o l ho hl
  have hp := h.lt p l hl
  obtain ⟨hc1, hc2, hc3, hroom, hc4⟩ := hs
  obtain ⟨_, _, hd', hcells, hlen'⟩ := cat_spec hcat
  have hevlen : ev.len = m * i.size := by
    have := src.vrs.1
    obtain ⟨_, he, _⟩ := cat_spec hcat
    rw [cells_len he] at this
    rw [this, src.num]
  have hsub : (o.data.sub off (len * i.size)).len = len * i.size := sub_len hd hin
  have hdl : d'.len = (len + m) * i.size := by rw [hlen', hevlen, hsub, Nat.add_mul]
  obtain ⟨⟨cur, hcur, hsz, hv⟩, hspot, hrm⟩ := hrel
  have hrpos : 0 < l.room := by have := Nat.mul_pos hc0 hpos; omega
  by_cases hfits : len + m ≤ c
  · -- in place
    have hba : b = ⟨l.a.block, l.a.off + off, none⟩ := by rw [hc3, addr_eta l.a hspot, add_plain']
    have hmul : (len + m) * i.size ≤ c * i.size := Nat.mul_le_mul_right _ hfits
    have hstl : l.a.off + off + len * i.size + news.length ≤ cur.size := by
      rw [src.num]
      rw [Nat.add_mul] at hmul
      omega
    have hst := run_storeCells_at P l.a.block (l.a.off + off + len * i.size) o.et news 0 cur w hcur (by simpa using hstl) src.one
    simp only [Nat.add_zero] at hst
    have hrun := src.room (some b) len c hfits
    simp only [hba, add_plain', hst, Result.andThen_ok] at hrun
    have hcr : off + c * i.size ≤ l.room := hroom
    have hdr : d'.len ≤ c * i.size := by omega
    have hcells2 : VRs ν d'.cells (rowOf (cur.toList.take (l.a.off + off + len * i.size) ++ news ++ cur.toList.drop (l.a.off + off + len * i.size + news.length)).toArray (l.a.off + off) d'.len) := by
      have e : rowOf (cur.toList.take (l.a.off + off + len * i.size) ++ news ++ cur.toList.drop (l.a.off + off + len * i.size + news.length)).toArray (l.a.off + off) d'.len = ((rowOf cur l.a.off o.data.len).drop off).take (len * i.size) ++ news := by
        have hcl : l.a.off + l.room ≤ cur.toList.length := by simpa using hsz
        have hnum := src.num
        rw [hdl, Nat.add_mul]
        apply List.ext_getElem?
        intro j
        simp only [rowOf, List.getElem?_append, List.getElem?_take, List.getElem?_drop, List.length_append, List.length_take, List.length_drop]
        rw [Nat.add_mul] at hmul
        have m1 : min (l.a.off + off + len * i.size) cur.toList.length = l.a.off + off + len * i.size := by omega
        have m2 : min (len * i.size) (min o.data.len (cur.toList.length - l.a.off) - off) = len * i.size := by omega
        simp only [m1, m2]
        by_cases hj : j < len * i.size
        · simp [hj, show j < len * i.size + m * i.size by omega, show l.a.off + off + j < l.a.off + off + len * i.size by omega, show l.a.off + off + j < l.a.off + off + len * i.size + news.length by omega, show off + j < o.data.len by omega]
          congr 1; omega
        · by_cases hj2 : j < len * i.size + m * i.size
          · simp [hj, hj2, show ¬ l.a.off + off + j < l.a.off + off + len * i.size by omega, show l.a.off + off + j < l.a.off + off + len * i.size + news.length by omega]
            congr 1; omega
          · simp [hj, hj2]
            omega
      rw [e, hcells, sub_cells hd]
      exact ((hv.drop off).take _).append src.vrs
    obtain ⟨hHR, hFr⟩ := h.replace (o' := ⟨d', o.g + 1, true, e⟩) (l' := ⟨⟨l.a.block, l.a.off + off, none⟩, l.g + 1, c * i.size⟩) ho hl hown hrpos rfl (cat_noFam hcat) hd' (by simp [hg]) rfl (NuLe.upd_bump hl (by simp)) (cur := cur) (by rw [← het]; exact hcur)
      (cs := (cur.toList.take (l.a.off + off + len * i.size) ++ news ++ cur.toList.drop (l.a.off + off + len * i.size + news.length)).toArray)
      (by simp; omega) (hcells2.mono (NuLe.upd_bump hl (by simp))) rfl (by simpa using hdr)
    refine ⟨.slice (some ⟨l.a.block, l.a.off + off, none⟩) (len + m) c, _, upd ν p ⟨⟨l.a.block, l.a.off + off, none⟩, l.g + 1, c * i.size⟩, ?_, NuLe.upd_bump hl (by simp), fun q hq => upd_other ν _ hq, ?_, hHR, hFr⟩
    · rw [hba]; exact hrun
    · exact .slice (upd_same _ _ _) (by simp [hg]) ⟨by omega, (by intro k hk; cases hk), (by simp [Addr.add]), by simp, fun _ => by simp⟩
  · -- a new block
    have hgt : c < len + m := by omega
    have hfirst : (Builtin.firstCells i.size len (.slice (some b) len c)).run P w.drew = .ok ((((rowOf cur l.a.off o.data.len).drop off).take (len * i.size))).toArray w.drew := by
      obtain ⟨xs, hxl, hxc, hxv⟩ := h.readRow ho hl hin
      have e : xs = ((rowOf cur l.a.off o.data.len).drop off).take (len * i.size) := by
        apply List.ext_getElem?
        intro j
        by_cases hj : j < len * i.size
        · have h1 := hxc j (xs[j]'(by omega)) (List.getElem?_eq_getElem (by omega))
          rw [add_add, addr_eta l.a hspot, add_plain'] at h1
          simp only [World.cell?, hcur] at h1
          rw [List.getElem?_eq_getElem (by omega), ← h1]
          simp [rowOf, hj, show off + j < o.data.len by omega, Nat.add_assoc]
        · rw [List.getElem?_eq_none (by omega), List.getElem?_eq_none (by simp; omega)]
      rw [← e, hc3]
      exact run_firstCells_some (P := P) w.drew i.size len _ len c xs hxl hxc
    have hrun := src.grow (some b) len c _ hfirst hgt h63 (growslice_fits hgt hfit)
    have hge := grownCap_ge w (len + m) c e
    have hdl2 : d'.len ≤ grownCap w (len + m) c e * i.size := by rw [hdl]; exact Nat.mul_le_mul_right _ hge
    have hcv : VRs ν d'.cells ((((rowOf cur l.a.off o.data.len).drop off).take (len * i.size)) ++ news) := by
      rw [hcells, sub_cells hd]
      exact ((hv.drop off).take _).append src.vrs
    obtain ⟨hHR, hFr⟩ := h.move (W := w.drew) hp (o' := ⟨d', o.g + 1, true, e⟩) (g := o.g + 1) (room := grownCap w (len + m) c e * i.size) rfl (cat_noFam hcat) hd' rfl rfl rfl rfl rfl (NuLe.upd_bump hl (by simp [hg]))
      (cs := ((((rowOf cur l.a.off o.data.len).drop off).take (len * i.size))).toArray ++ news.toArray ++ Builtin.zeroCells z.cells (grownCap w (len + m) c e - (len + m)))
      (by
        have h1 : ((((rowOf cur l.a.off o.data.len).drop off).take (len * i.size)) ++ news).length = (len + m) * i.size := by rw [← hcv.1, cells_len hd', hdl]
        simp only [List.length_append] at h1
        simp only [Array.size_append, List.size_toArray, zeroCells_size, hzs]
        rw [h1, ← Nat.add_mul]
        exact Nat.mul_le_mul_right _ (by omega))
      (by
        have e : (((((rowOf cur l.a.off o.data.len).drop off).take (len * i.size))).toArray ++ news.toArray ++ Builtin.zeroCells z.cells (grownCap w (len + m) c e - (len + m))).toList.take d'.len = ((((rowOf cur l.a.off o.data.len).drop off).take (len * i.size)) ++ news) := by
          rw [Array.toList_append, Array.toList_append]
          exact List.take_left' (by rw [← hcv.1, cells_len hd'])
        rw [e]
        exact hcv.mono (NuLe.upd_bump hl (by simp [hg])))
      hdl2
    refine ⟨.slice (some ⟨w.heap.size, 0, none⟩) (len + m) (grownCap w (len + m) c e), _, upd ν p ⟨⟨w.heap.size, 0, none⟩, o.g + 1, grownCap w (len + m) c e * i.size⟩, hrun, NuLe.upd_bump hl (by simp [hg]), fun q hq => upd_other ν _ hq, ?_, hHR, hFr⟩
    exact .slice (upd_same _ _ _) rfl ⟨hge, (by intro k hk; cases hk), (by simp [Addr.add]), by simp, fun _ => by simp⟩

/-- append where a new block is made, or nothing at all -/
theorem HR.append_fresh (h : HR gl ν T w) (t xT ty e : TypeId) (i : TypeInfo) (z : Value) (hzs : z.cells.size = i.size)
    {p g : Nat} (hp : p < T.length) (hcase : ν p = none ∨ ∃ l, ν p = some l ∧ l.g < g)
    {ao : Option Addr} {len c : Nat} {e0 : AVal} {olds : List Value} (hfirst : (Builtin.firstCells i.size len (.slice ao len c)).run P w.drew = .ok olds.toArray w.drew) (hov : VRs ν e0.cells olds) (hol : olds.length = len * i.size)
    {x : Value} {m : Nat} {ev d' : AVal} {news : List Value} (src : App P ν w t xT ty e i z x m ev news) (hcat : e0.cat ev = some d')
    (hgrow : c < len + m ∨ (len = 0 ∧ c = 0)) (hfit : (len + m) * i.bytes ≤ 140737488355328) (h63 : len + m ≤ 9223372036854775807) :
    ∃ x' w' ν', (Builtin.append_ #[t, xT] ty #[.slice ao len c, x]).run P w = .ok x' w' ∧ NuLe ν ν' ∧ (∀ q, q ≠ p → ν' q = ν q) ∧
      VR ν' (.slice i.size p g 0 (len + m) none) x' ∧ HR gl ν' (T.set p (some ⟨d', g, true, e⟩)) w' ∧ Fr (Own ν T) w (Own ν' (T.set p (some ⟨d', g, true, e⟩))) w' := by
  obtain ⟨hd0, hde, hd', hcells, hlen'⟩ := cat_spec hcat
  have hvrs : VRs ν d'.cells (olds ++ news) := by rw [hcells]; exact hov.append src.vrs
  have hdl : d'.len = (len + m) * i.size := by
    rw [← cells_len hd', hvrs.1, List.length_append, hol, src.num, Nat.add_mul]
  by_cases hgt : c < len + m
  · have hrun := src.grow ao len c olds hfirst hgt h63 (growslice_fits hgt hfit)
    have hge := grownCap_ge w (len + m) c e
    have hm : NuLe ν (upd ν p ⟨⟨w.heap.size, 0, none⟩, g, grownCap w (len + m) c e * i.size⟩) := by
      rcases hcase with hn | ⟨l, hl, hlt⟩
      · exact NuLe.upd_new _ hn
      · exact NuLe.upd_bump hl hlt
    obtain ⟨hHR, hFr⟩ := h.move (W := w.drew) hp (o' := ⟨d', g, true, e⟩) (g := g) (room := grownCap w (len + m) c e * i.size) rfl (cat_noFam hcat) hd' rfl rfl rfl rfl rfl hm
      (cs := olds.toArray ++ news.toArray ++ Builtin.zeroCells z.cells (grownCap w (len + m) c e - (len + m)))
      (by
        have h1 : (olds ++ news).length = (len + m) * i.size := by rw [← hvrs.1, cells_len hd', hdl]
        simp only [List.length_append] at h1
        simp only [Array.size_append, List.size_toArray, zeroCells_size, hzs]
        rw [h1, ← Nat.add_mul]
        exact Nat.mul_le_mul_right _ (by omega))
      (by
        have e1 : (olds.toArray ++ news.toArray ++ Builtin.zeroCells z.cells (grownCap w (len + m) c e - (len + m))).toList.take d'.len = olds ++ news := by
          rw [Array.toList_append, Array.toList_append]
          exact List.take_left' (by rw [← cells_len hd']; exact hvrs.1.symm)
        rw [e1]
        exact hvrs.mono hm)
      (by rw [hdl]; exact Nat.mul_le_mul_right _ hge)
    refine ⟨.slice (some ⟨w.heap.size, 0, none⟩) (len + m) (grownCap w (len + m) c e), _, _, hrun, hm, fun q hq => upd_other ν _ hq, ?_, hHR, hFr⟩
    exact .slice (upd_same _ _ _) rfl ⟨hge, (by intro k hk; cases hk), (by simp [Addr.add]), by simp, fun _ => by simp⟩
  · obtain ⟨rfl, rfl⟩ := hgrow.resolve_left hgt
    obtain rfl : m = 0 := by omega
    have hnews : news = [] := List.eq_nil_of_length_eq_zero (by simpa using src.num)
    subst hnews
    have holds : olds = [] := List.eq_nil_of_length_eq_zero (by simpa using hol)
    subst holds
    have hrun : (Builtin.append_ #[t, xT] ty #[.slice ao 0 0, x]).run P w = .ok (.slice ao 0 0) w := by
      rw [src.room ao 0 0 (by omega)]
      cases ao <;> simp [storeCells]
    have hz : d'.len = 0 := by simpa using hdl
    have hm : NuLe ν (upd ν p ⟨⟨0, 0, none⟩, g, 0⟩) := by
      rcases hcase with hn | ⟨l, hl, hlt⟩
      · exact NuLe.upd_new _ hn
      · exact NuLe.upd_bump hl hlt
    obtain ⟨h1, h2⟩ := h.rebind hp (o := ⟨d', g, true, e⟩) hd' hz (l := ⟨⟨0, 0, none⟩, g, 0⟩) rfl rfl hm (cat_noFam hcat)
    exact ⟨.slice ao 0 0, w, _, hrun, hm, fun q hq => upd_other ν _ hq, .sliceZ ao (upd_same _ _ _) rfl (.inr ⟨rfl, Nat.le_refl _⟩), h1, (Fr.refl _ w).sub h2⟩
end
end Go.Abs

set_option linter.unusedVariables false
set_option linter.unusedSimpArgs false
namespace Go.Abs

/-! ## Types -/
inductive Desc where
  | int (k : IntKind) | bool | str | float (k : FloatKind) | complex (k : FloatKind)
  | ptr (e : TypeId) | slice (e : TypeId) | array (n : Nat) (e : TypeId) | struct (fs : List (Nat × TypeId)) | func | iface | map (k e : TypeId) | other

structure Ty where
  desc : Desc
  size : Nat
  bytes : Nat
  zero : AVal

/-- constants, and zero values -/
def absCell : Value → Option AVal
  | .bool b => some (.bool b)
  | .int k n => some (.int k n)
  | .float k n => some (.float k n)
  | .complex k n m => some (.complex k n m)
  | .string s => some (.str s.data.toList)
  | .pointer none => some .nilPtr
  | .slice none 0 0 => some .nilSlice
  | .map none => some .nilMap
  | .nilFunc => some .nilFunc
  | .nilIface => some .nilIface
  | _ => none
def absCells : List Value → Option (List AVal)
  | [] => some []
  | v :: r => match absCell v, absCells r with
    | some x, some xs => some (x :: xs)
    | _, _ => none
def pack (vs : List AVal) : AVal :=
  match vs with
  | .int k n :: r => match asList k vs with
    | some xs => .ints k xs
    | none => .agg vs
  | _ => .agg vs
def absVal (v : Value) : Option AVal :=
  match v with
  | .agg cs => match absCells cs.toList with
    | some vs => some (pack vs)
    | none => none
  | v => absCell v

theorem absCell_VR {v : Value} {a : AVal} (h : absCell v = some a) (ν : Nu) : VR ν a v := by
  unfold absCell at h
  split at h <;> first | (injection h with h; subst h) | (exact absurd h (by simp))
  · exact .bool _
  · exact .int _ _
  · exact .float _ _
  · exact .complex _ _ _
  · rename_i s; exact VR.str (ν := ν) s.data.toList
  · exact .nilPtr
  · exact .nilSlice
  · exact .nilMap
  · exact .nilFunc
  · exact .nilIface
theorem absCell_one {v : Value} {a : AVal} (h : absCell v = some a) : a.one = true := by
  unfold absCell at h
  split at h <;> first | (injection h with h; subst h; rfl) | (exact absurd h (by simp))
theorem absCells_VRs : ∀ {l : List Value} {vs : List AVal}, absCells l = some vs → (∀ ν, VRs ν vs l) ∧ (∀ v ∈ vs, v.one = true)
  | [], vs, h => by simp [absCells] at h; subst h; exact ⟨fun ν => VRs.nil ν, by simp⟩
  | v :: r, vs, h => by
    simp only [absCells] at h
    split at h
    · rename_i x xs hx hxs
      injection h with h
      subst h
      obtain ⟨h1, h2⟩ := absCells_VRs hxs
      exact ⟨fun ν => VRs.cons (absCell_VR hx ν) (h1 ν), by intro u hu; rcases List.mem_cons.1 hu with rfl | hu; exact absCell_one hx; exact h2 u hu⟩
    · cases h
theorem one_cells {v : AVal} (h : v.one = true) : v.cells = [v] := by cases v <;> first | rfl | simp [AVal.one] at h
theorem pack_VR {ν : Nu} {vs : List AVal} {xs : Array Value} (h : VRs ν vs xs.toList) (h1 : ∀ v ∈ vs, v.one = true) : VR ν (pack vs) (.agg xs) := by
  have agg : VR ν (.agg vs) (.agg xs) := .agg (by simpa using h.1) (fun i hi => by simpa using h.2 i hi)
  unfold pack
  split
  · rename_i k n r
    split
    · rename_i ys hys
      have e := asList_cells hys (fun v hv => one_cells (h1 v hv))
      have e2 : xs.toList = ys.map (Value.int k) := by
        apply List.ext_getElem
        · rw [← h.1, e]; simp
        · intro i h3 h4
          have hi : i < (AVal.int k n :: r).length := by rw [h.1]; exact h3
          have := h.2 i hi
          rw [e] at this
          simp [List.getD, show i < ys.length by simpa using h4, h3] at this
          rw [show xs.toList[i] = xs[i]'(by simpa using h3) from rfl]
          have hlt : i < xs.size := by simpa using h3
          simp [hlt] at this
          generalize xs[i] = y at this ⊢
          cases this
          simp
      have : xs = (ys.map (Value.int k)).toArray := by rw [← e2]
      rw [this]
      exact .ints _ _
    · exact agg
  · exact agg
theorem absVal_VR {v : Value} {a : AVal} (h : absVal v = some a) (ν : Nu) : VR ν a v := by
  unfold absVal at h
  split at h
  · split at h
    · rename_i cs vs hvs
      injection h with h; subst h
      obtain ⟨h1, h2⟩ := absCells_VRs hvs
      exact pack_VR (h1 ν) h2
    · cases h
  · exact absCell_VR h ν

def absDesc (P : Program) : TypeDesc → Desc
  | .int k => .int k
  | .bool => .bool
  | .string => .str
  | .float k => .float k
  | .complex k => .complex k
  | .pointer e => .ptr e
  | .slice e => .slice e
  | .array n e => .array n e
  | .struct fs => .struct (fs.toList.map fun f => (f.offset, f.type))
  | .func _ _ _ => .func
  | .interface _ => .iface
  | .map k e => .map k e
  | _ => .other

def tyOf (P : Program) (t : TypeId) : Option Ty :=
  match P.underlying t, P.info? t with
  | some d, some i => match i.zero with
    | some z => match absVal z with
      | some a => if z.cells.size = i.size then some ⟨absDesc P d, i.size, i.bytes, a⟩ else none
      | none => none
    | none => none
  | _, _ => none

structure TyOk (P : Program) (t : TypeId) (ty : Ty) : Prop where
  und : ∃ d, P.underlying t = some d ∧ absDesc P d = ty.desc
  info : ∃ i z, P.info? t = some i ∧ i.zero = some z ∧ i.size = ty.size ∧ i.bytes = ty.bytes ∧ z.cells.size = ty.size ∧ ∀ ν, VR ν ty.zero z

theorem TyOk.of {P : Program} {t : TypeId} {ty : Ty} (h : tyOf P t = some ty) : TyOk P t ty := by
  unfold tyOf at h
  split at h
  · rename_i d i hd hi
    split at h
    · rename_i z hz
      split at h
      · rename_i a ha
        split at h
        · rename_i hs
          injection h with h; subst h
          exact ⟨⟨d, hd, rfl⟩, ⟨i, z, hi, hz, rfl, rfl, hs, fun ν => absVal_VR ha ν⟩⟩
        · cases h
      · cases h
    · cases h
  · cases h

section
variable {P : Program} {t : TypeId} {ty : Ty}
theorem TyOk.int (h : TyOk P t ty) {k : IntKind} (hd : ty.desc = .int k) : P.underlying t = some (.int k) := by
  obtain ⟨d, h1, h2⟩ := h.und
  rw [hd] at h2
  cases d <;> simp [absDesc] at h2
  subst h2; exact h1
theorem TyOk.slice (h : TyOk P t ty) {e : TypeId} (hd : ty.desc = .slice e) : P.underlying t = some (.slice e) := by
  obtain ⟨d, h1, h2⟩ := h.und
  rw [hd] at h2
  cases d <;> simp [absDesc] at h2
  subst h2; exact h1
theorem TyOk.array (h : TyOk P t ty) {n : Nat} {e : TypeId} (hd : ty.desc = .array n e) : P.underlying t = some (.array n e) := by
  obtain ⟨d, h1, h2⟩ := h.und
  rw [hd] at h2
  cases d <;> simp [absDesc] at h2
  obtain ⟨rfl, rfl⟩ := h2; exact h1
theorem TyOk.str (h : TyOk P t ty) (hd : ty.desc = .str) : P.underlying t = some .string := by
  obtain ⟨d, h1, h2⟩ := h.und
  rw [hd] at h2
  cases d <;> simp [absDesc] at h2
  exact h1
theorem TyOk.bool (h : TyOk P t ty) (hd : ty.desc = .bool) : P.underlying t = some .bool := by
  obtain ⟨d, h1, h2⟩ := h.und
  rw [hd] at h2
  cases d <;> simp [absDesc] at h2
  exact h1
theorem TyOk.ptr (h : TyOk P t ty) {e : TypeId} (hd : ty.desc = .ptr e) : P.underlying t = some (.pointer e) := by
  obtain ⟨d, h1, h2⟩ := h.und
  rw [hd] at h2
  cases d <;> simp [absDesc] at h2
  subst h2; exact h1
theorem TyOk.struct (h : TyOk P t ty) {fs : List (Nat × TypeId)} (hd : ty.desc = .struct fs) : ∃ fields : Array Field, P.underlying t = some (.struct fields) ∧ fields.toList.map (fun f => (f.offset, f.type)) = fs := by
  obtain ⟨d, h1, h2⟩ := h.und
  rw [hd] at h2
  cases d <;> simp [absDesc] at h2
  exact ⟨_, h1, h2⟩
def Desc.agg : Desc → Bool
  | .struct _ | .array _ _ => true
  | _ => false
theorem TyOk.isAgg (h : TyOk P t ty) (w : World) : (isAgg t).run P w = .ok ty.desc.agg w := by
  obtain ⟨d, h1, h2⟩ := h.und
  rw [← h2]
  cases d <;> simp [Go.isAgg, run_underlying h1, absDesc, Desc.agg]
theorem TyOk.sizeOf (h : TyOk P t ty) (w : World) : (sizeOf t).run P w = .ok ty.size w := by
  obtain ⟨i, z, h1, h2, h3, h4, h5, h6⟩ := h.info
  simp [Go.sizeOf, typeInfo, h1, h3]
theorem TyOk.zeroValue (h : TyOk P t ty) : ∃ z, (∀ w : World, (zeroValue t).run P w = .ok z w) ∧ z.cells.size = ty.size ∧ ∀ ν, VR ν ty.zero z := by
  obtain ⟨i, z, h1, h2, h3, h4, h5, h6⟩ := h.info
  exact ⟨z, fun w => by simp [Go.zeroValue, typeInfo, h1, h2], h5, h6⟩
end

/-! ## Results -/
/-- not below 0, and fits without a sign -/
def nonneg (k : IntKind) (a : Int) : Prop :=
  match k with
  | .i64 => 0 ≤ a ∧ a < 9223372036854775808
  | .i32 => 0 ≤ a ∧ a < 2147483648
  | .i16 => 0 ≤ a ∧ a < 32768
  | .i8 => 0 ≤ a ∧ a < 128
  | .u64 => 0 ≤ a ∧ a < 18446744073709551616
  | .u32 => 0 ≤ a ∧ a < 4294967296
  | .u16 => 0 ≤ a ∧ a < 65536
  | .u8 => 0 ≤ a ∧ a < 256

inductive Con where
  | eqN (a b : Nat)
  | leN (a b : Nat)
  | leI (a b : Int)
  | neI (a b : Int)
  | rng (lo n hi : Int)
  | tt (b : Bool)
  | nn (k : IntKind) (a : Int)
  | tab (a b : Tab)
  | val (a b : AVal)
  | orN (a b c d : Nat)
  | p (x : Prop)
def Con.h : Con → Prop
  | .eqN a b => a = b
  | .leN a b => a ≤ b
  | .leI a b => a ≤ b
  | .neI a b => a ≠ b
  | .rng lo n hi => lo ≤ n ∧ n ≤ hi
  | .tt b => b = true
  | .nn k a => nonneg k a
  | .tab a b => a = b
  | .val a b => a = b
  | .orN a b c d => a ≤ b ∨ c ≤ d
  | .p x => x
def allP : List Con → Prop
  | [] => True
  | p :: r => p.h ∧ allP r
theorem allP_append {a b : List Con} : allP (a ++ b) ↔ allP a ∧ allP b := by
  induction a with
  | nil => simp [allP, Con.h]
  | cons p r ih => simp [allP, Con.h, ih, and_assoc]

structure Res where
  cs : List Con
  val : AVal
  tab : Tab
def fail : Res := ⟨[.p False], un, []⟩

abbrev Summary := List AVal → Tab → Res

def nth : Tab → Nat → Option AObj
  | [], _ => none
  | o :: _, 0 => o
  | _ :: r, n + 1 => nth r n
theorem nth_some : ∀ {T : Tab} {p : Nat} {o : AObj}, nth T p = some o → T[p]? = some (some o)
  | [], p, o, h => by simp [nth] at h
  | x :: r, 0, o, h => by simp [nth] at h; subst h; rfl
  | x :: r, p + 1, o, h => by simpa using nth_some (T := r) h

def Keep (ν ν' : Nu) (T : Tab) (nid : Nat) : Prop := ∀ q, q < T.length → q ≠ nid → ν q = none → ν' q = none

structure OpPost (gl : Nat → Option AVal) (ν : Nu) (T : Tab) (w : World) (nid : Nat) (r : Res) (x : Value) (w' : World) : Prop where
  ex : ∃ ν', NuLe ν ν' ∧ Keep ν ν' T nid ∧ VR ν' r.val x ∧ HR gl ν' r.tab w' ∧ Fr (Own ν T) w (Own ν' r.tab) w'

/-- a summary is true of a function -/
def SumOk (P : Program) (gl : Nat → Option AVal) (f : FuncId) (S : Summary) : Prop :=
  ∀ (args : List AVal) (T : Tab), allP (S args T).cs → ∀ (ν : Nu) (w : World) (vs : Array Value), HR gl ν T w → VRs ν args vs.toList →
    Calls P f vs w fun e w' => ∃ v, e = .returned v ∧ OpPost gl ν T w T.length (S args T) v w'

structure Env where
  P : Program
  ty : TypeId → Option Ty
  fns : FuncId → Option Summary
  gl : Nat → Option AVal

structure EnvOk (E : Env) : Prop where
  ty : ∀ t ty, E.ty t = some ty → TyOk E.P t ty
  fns : ∀ f S, E.fns f = some S → SumOk E.P E.gl f S
  fn : ∀ f S, E.fns f = some S → ∃ fn, E.P.funcs[f]? = some fn ∧ (fn.name == "runtime.NumGoroutine") = false ∧ fn.body.isNone = false

/-! ## Whole numbers -/
/-- an exact result, or one that goes round (whole numbers without a sign) -/
def arith (k : IntKind) (n : Int) : List Con × Int :=
  match k with
  | .i64 => ([.rng (-9223372036854775808) n 9223372036854775807], n)
  | .i32 => ([.rng (-2147483648) n 2147483647], n)
  | .i16 => ([.rng (-32768) n 32767], n)
  | .i8 => ([.rng (-128) n 127], n)
  | .u64 => ([], n % 18446744073709551616)
  | .u32 => ([], n % 4294967296)
  | .u16 => ([], n % 65536)
  | .u8 => ([], n % 256)
theorem arith_wrap {k : IntKind} {n : Int} (h : allP (arith k n).1) : k.wrap n = (arith k n).2 := by
  cases k <;> simp [arith, allP, Con.h] at h ⊢ <;> simp [IntKind.wrap, IntKind.bits, IntKind.signed] <;> omega
/-- the same, exact for all kinds -/
def exactly (k : IntKind) (n : Int) : List Con × Int :=
  match k with
  | .u64 => ([.rng 0 n 18446744073709551615], n)
  | .u32 => ([.rng 0 n 4294967295], n)
  | .u16 => ([.rng 0 n 65535], n)
  | .u8 => ([.rng 0 n 255], n)
  | k => arith k n
theorem exactly_wrap {k : IntKind} {n : Int} (h : allP (exactly k n).1) : k.wrap n = (exactly k n).2 := by
  cases k <;> simp [exactly, arith, allP, Con.h] at h ⊢ <;> simp [IntKind.wrap, IntKind.bits, IntKind.signed] <;> omega

def iand (a b : Int) : Int := ((a.toNat &&& b.toNat : Nat) : Int)
def ior (a b : Int) : Int := ((a.toNat ||| b.toNat : Nat) : Int)
def ixor (a b : Int) : Int := ((a.toNat ^^^ b.toNat : Nat) : Int)
def iandNot (k : IntKind) (a b : Int) : Int := ((a.toNat &&& ((2 ^ k.bits - 1) ^^^ b.toNat) : Nat) : Int)

def pw : IntKind → Nat
  | .i64 => 63 | .i32 => 31 | .i16 => 15 | .i8 => 7 | .u64 => 64 | .u32 => 32 | .u16 => 16 | .u8 => 8
theorem nonneg_iff {k : IntKind} {a : Int} : nonneg k a ↔ 0 ≤ a ∧ a.toNat < 2 ^ pw k := by
  cases k <;> simp [nonneg, pw] <;> omega
theorem wrap_nonneg {k : IntKind} {n : Nat} (h : n < 2 ^ pw k) : k.wrap (n : Int) = n := by
  cases k <;> simp [IntKind.wrap, IntKind.bits, IntKind.signed, pw] at * <;> omega
theorem pw_bits (k : IntKind) : pw k ≤ k.bits := by cases k <;> decide
theorem ofInt_toNat {k : IntKind} {a : Int} (h : nonneg k a) : (BitVec.ofInt k.bits a).toNat = a.toNat := by
  obtain ⟨h1, h2⟩ := nonneg_iff.1 h
  obtain ⟨n, rfl⟩ := Int.eq_ofNat_of_zero_le h1
  have hlt : n < 2 ^ k.bits := Nat.lt_of_lt_of_le (by simpa using h2) (Nat.pow_le_pow_right (by decide) (pw_bits k))
  rw [BitVec.ofInt_natCast, BitVec.toNat_ofNat, Nat.mod_eq_of_lt hlt]
  simp
theorem bits_and {k : IntKind} {a b : Int} (ha : nonneg k a) (hb : nonneg k b) : bits .and k a b = iand a b := by
  have h2 := (nonneg_iff.1 ha).2
  simp only [bits, BitVec.toNat_and, ofInt_toNat ha, ofInt_toNat hb, iand]
  exact wrap_nonneg (Nat.lt_of_le_of_lt Nat.and_le_left h2)
theorem bits_or {k : IntKind} {a b : Int} (ha : nonneg k a) (hb : nonneg k b) : bits .or k a b = ior a b := by
  simp only [bits, BitVec.toNat_or, ofInt_toNat ha, ofInt_toNat hb, ior]
  exact wrap_nonneg (Nat.or_lt_two_pow (nonneg_iff.1 ha).2 (nonneg_iff.1 hb).2)
theorem bits_xor {k : IntKind} {a b : Int} (ha : nonneg k a) (hb : nonneg k b) : bits .xor k a b = ixor a b := by
  simp only [bits, BitVec.toNat_xor, ofInt_toNat ha, ofInt_toNat hb, ixor]
  exact wrap_nonneg (Nat.xor_lt_two_pow (nonneg_iff.1 ha).2 (nonneg_iff.1 hb).2)
theorem bits_andNot {k : IntKind} {a b : Int} (ha : nonneg k a) (hb : nonneg k b) : bits .andNot k a b = iandNot k a b := by
  have h2 := (nonneg_iff.1 ha).2
  have hb2 : b.toNat < 2 ^ k.bits := Nat.lt_of_lt_of_le (nonneg_iff.1 hb).2 (Nat.pow_le_pow_right (by decide) (pw_bits k))
  have e : (~~~ (BitVec.ofInt k.bits b)).toNat = (2 ^ k.bits - 1) ^^^ b.toNat := by
    rw [BitVec.toNat_not, ofInt_toNat hb]
    apply Nat.eq_of_testBit_eq
    intro i
    rw [show 2 ^ k.bits - 1 - b.toNat = 2 ^ k.bits - (b.toNat + 1) by omega, Nat.testBit_two_pow_sub_succ hb2, Nat.testBit_xor, Nat.testBit_two_pow_sub_one]
    by_cases hi : i < k.bits
    · simp [hi]
    · simp [hi, Nat.testBit_lt_two_pow (Nat.lt_of_lt_of_le hb2 (Nat.pow_le_pow_right (by decide) (Nat.le_of_not_lt hi)))]
  simp only [bits, BitVec.toNat_and, ofInt_toNat ha, e, iandNot]
  exact wrap_nonneg (Nat.lt_of_le_of_lt Nat.and_le_left h2)
end Go.Abs

set_option linter.unusedVariables false
set_option linter.unusedSimpArgs false
namespace Go.Abs

abbrev PV := List Con × AVal

def signedK : IntKind → Bool
  | .i64 | .i32 | .i16 | .i8 => true
  | _ => false
/-- a conversion of whole numbers: to narrower ones without a sign it goes round; else it is exact -/
def convInt (src dst : IntKind) (n : Int) : List Con × Int :=
  match signedK dst, Nat.blt dst.bits src.bits with
  | false, true => arith dst n
  | _, _ => exactly dst n

def fEq : FloatKind → FloatKind → Bool
  | .f32, .f32 => true
  | .f64, .f64 => true
  | _, _ => false
theorem fEq_eq {a b : FloatKind} (h : fEq a b = true) : a = b := by cases a <;> cases b <;> first | rfl | cases h
def aFloat (op : BinOp) (k : FloatKind) (a b : Nat) : Option AVal :=
  match op with
  | .add => match k.format.add a b with | some r => some (.float k r) | none => none
  | .sub => match k.format.sub a b with | some r => some (.float k r) | none => none
  | .mul => match k.format.mul a b with | some r => some (.float k r) | none => none
  | .quo => match k.format.div a b with | some r => some (.float k r) | none => none
  | .eql => some (.bool (k.format.order a b == some .eq))
  | .neq => some (.bool (k.format.order a b != some .eq))
  | .lss => some (.bool (k.format.order a b == some .lt))
  | .leq => some (.bool (k.format.order a b == some .lt || k.format.order a b == some .eq))
  | .gtr => some (.bool (k.format.order a b == some .gt))
  | .geq => some (.bool (k.format.order a b == some .gt || k.format.order a b == some .eq))
  | _ => none
def aBin (op : BinOp) (d : Desc) (x y : AVal) (T : Tab) : Option PV :=
  match x, y with
  | .int k a, .int k' b =>
    match op with
    | .shl => some (.rng 0 b k.bits :: (arith k (a * 2 ^ b.toNat)).1, .int k (arith k (a * 2 ^ b.toNat)).2)
    | .shr => some ([.rng 0 b k.bits], .int k (a / 2 ^ b.toNat))
    | op => match kEq k k' with
      | false => none
      | true => match op with
        | .add => some ((arith k (a + b)).1, .int k (arith k (a + b)).2)
        | .sub => some ((arith k (a - b)).1, .int k (arith k (a - b)).2)
        | .mul => some ((arith k (a * b)).1, .int k (arith k (a * b)).2)
        | .quo => some (.neI b 0 :: (arith k (a.tdiv b)).1, .int k (arith k (a.tdiv b)).2)
        | .rem => some ([.neI b 0], .int k (a.tmod b))
        | .and => some ([.nn k a, .nn k b], .int k (iand a b))
        | .or => some ([.nn k a, .nn k b], .int k (ior a b))
        | .xor => some ([.nn k a, .nn k b], .int k (ixor a b))
        | .andNot => some ([.nn k a, .nn k b], .int k (iandNot k a b))
        | .eql => some ([], .bool (a == b))
        | .neq => some ([], .bool (a != b))
        | .lss => some ([], .bool (decide (a < b)))
        | .leq => some ([], .bool (decide (a ≤ b)))
        | .gtr => some ([], .bool (decide (b < a)))
        | .geq => some ([], .bool (decide (b ≤ a)))
        | _ => none
  | .str a, .str b =>
    match op with
    | .add => some ([.leN (a.length + b.length) 9223372036854775807], .str (a ++ b))
    | .eql => some ([], .bool (a == b))
    | .neq => some ([], .bool (!(a == b)))
    | _ => none
  | .bool a, .bool b =>
    match d, op with
    | .bool, .eql => some ([], .bool (a == b))
    | .bool, .neq => some ([], .bool (!(a == b)))
    | _, _ => none
  | .nilSlice, .nilSlice =>
    match d, op with
    | .slice _, .eql => some ([], .bool true)
    | .slice _, .neq => some ([], .bool false)
    | _, _ => none
  | .slice sz p g off len cap, .nilSlice =>
    match nth T p, d, op with
    | some o, .slice _, .eql => some ([.eqN g o.g, .leN 1 len], .bool false)
    | some o, .slice _, .neq => some ([.eqN g o.g, .leN 1 len], .bool true)
    | _, _, _ => none
  | .nilPtr, .nilPtr =>
    match d, op with
    | .ptr _, .eql => some ([], .bool true)
    | .ptr _, .neq => some ([], .bool false)
    | _, _ => none
  | .var p g, .nilPtr =>
    match nth T p, d, op with
    | some o, .ptr _, .eql => some ([.eqN g o.g], .bool false)
    | some o, .ptr _, .neq => some ([.eqN g o.g], .bool true)
    | _, _, _ => none
  | .float k a, .float k' b => match fEq k k' with
    | true => match aFloat op k a b with | some v => some ([], v) | none => none
    | false => none
  | .complex k a b, .complex k' a' b' => match fEq k k', op with
    | true, .eql => some ([], .bool (k.format.order a a' == some .eq && k.format.order b b' == some .eq))
    | true, .neq => some ([], .bool (!(k.format.order a a' == some .eq && k.format.order b b' == some .eq)))
    | _, _ => none
  | _, _ => none

def aUn (op : UnOp) (x : AVal) : Option PV :=
  match op, x with
  | .neg, .int k n => some ((arith k (0 - n)).1, .int k (arith k (0 - n)).2)
  | .not, .bool b => some ([], .bool (!b))
  | .xor, .int k n => match signedK k with
    | false => some ([.nn k n], .int k (k.max - n))
    | true => some ([.rng k.min n k.max], .int k (-1 - n))
  | _, _ => none

section
variable {P : Program} {gl : Nat → Option AVal} {ν : Nu} {T : Tab} {w : World}

theorem VR.int_inv {k : IntKind} {n : Int} {x : Value} (h : VR ν (.int k n) x) : x = .int k n := by cases h; rfl
theorem VR.bool_inv {b : Bool} {x : Value} (h : VR ν (.bool b) x) : x = .bool b := by cases h; rfl
theorem VR.float_inv {k : FloatKind} {n : Nat} {x : Value} (h : VR ν (.float k n) x) : x = .float k n := by cases h; rfl
theorem VR.complex_inv {k : FloatKind} {n m : Nat} {x : Value} (h : VR ν (.complex k n m) x) : x = .complex k n m := by cases h; rfl
theorem aFloat_sound {op : BinOp} {k : FloatKind} {a b : Nat} {v : AVal} (h : aFloat op k a b = some v) (t : TypeId) : ∃ z, (binOp op t (.float k a) (.float k b)).run P w = .ok z w ∧ VR ν v z := by
  cases op <;> simp only [aFloat] at h
  case add | sub | mul | quo =>
    split at h
    · rename_i hr
      injection h with h; subst h
      exact ⟨_, by simp [binOp, Op.floatArith, hr], .float _ _⟩
    · cases h
  case eql | neq | lss | leq | gtr | geq => injection h with h; subst h; exact ⟨_, by simp [binOp, Op.floatCmp], .bool _⟩
  all_goals cases h
theorem VR.str_inv {b : List UInt8} {x : Value} (h : VR ν (.str b) x) : x = .string ⟨b.toArray⟩ := by cases h; rfl
theorem VR.nilSlice_inv {x : Value} (h : VR ν .nilSlice x) : x = .slice none 0 0 := by cases h; rfl
theorem VR.nilPtr_inv {x : Value} (h : VR ν .nilPtr x) : x = .pointer none := by cases h; rfl

theorem VR.slice_inv (hr : HR gl ν T w) {sz p g off len : Nat} {cap : Option Nat} {x : Value} (h : VR ν (.slice sz p g off len cap) x) {o : AObj} (ho : nth T p = some o) (hg : g = o.g) :
    (∃ l b c, ν p = some l ∧ x = .slice (some b) len c ∧ SlRel l sz off len cap b c) ∨ (∃ bo l, len = 0 ∧ x = .slice bo 0 0 ∧ ν p = some l ∧ (cap = some 0 ∨ (cap = none ∧ l.room ≤ off))) := by
  cases h with
  | slice hp hg' hs => exact .inl ⟨_, _, _, hp, rfl, hs⟩
  | sliceZ bo hp hg' hc => exact .inr ⟨bo, _, rfl, rfl, hp, hc⟩
  | sliceOld x hx hp hg' =>
    have := (hr.obj p o _ (nth_some ho) hp).1
    omega
theorem VR.frow_inv (hr : HR gl ν T w) {p g i n : Nat} {x : Value} (h : VR ν (.frow p g i n) x) {o : AObj} (ho : nth T p = some o) (hg : g = o.g) {Z : List (List Int)} (hZ : o.data = .fam Z) :
    ∃ bo c, x = .slice bo n c ∧ i < Z.length ∧ (Z.getD i []).length = n ∧ ∀ k, k < n → ∃ b, bo = some b ∧ w.cell? (b.add k) = some (.int .u8 ((Z.getD i []).getD k 0)) := by
  cases h with
  | frow bo c hp hg' hi =>
    rename_i l
    obtain ⟨h1, h2⟩ := hr.fam p o l (nth_some ho) hp Z hZ
    have hlt : i < l.rw.length := (List.getElem?_eq_some_iff.1 hi).1
    obtain ⟨bo', c', e1, e0, e2⟩ := h2 i (h1 ▸ hlt)
    have e3 : l.rw.getD i undef = .slice bo n c := by simp [List.getD, hi]
    rw [e3] at e1
    injection e1 with e4 e5 e6
    refine ⟨bo, c, rfl, h1 ▸ hlt, e5.symm, fun k hk => ?_⟩
    obtain ⟨b, f1, _, _, f2⟩ := e2 (by omega)
    exact ⟨b, by rw [e4, f1], f2 k (by omega)⟩
  | frowOld x hx hp hg' =>
    have := (hr.obj p o _ (nth_some ho) hp).1
    omega
theorem VR.frow_form (hr : HR gl ν T w) {p g i n : Nat} {x : Value} (h : VR ν (.frow p g i n) x) {o : AObj} (ho : nth T p = some o) (hg : g = o.g) : ∃ bo c, x = .slice bo n c := by
  cases h with
  | frow bo c hp hg' hi => exact ⟨bo, c, rfl⟩
  | frowOld x hx hp hg' =>
    have := (hr.obj p o _ (nth_some ho) hp).1
    omega
theorem VR.ptr_inv (hr : HR gl ν T w) {p g off : Nat} {x : Value} (h : VR ν (.ptr p g off) x) {o : AObj} (ho : nth T p = some o) (hg : g = o.g) : ∃ l, ν p = some l ∧ x = .pointer (some (l.a.add off)) := by
  cases h with
  | ptr hp hg' => exact ⟨_, hp, rfl⟩
  | ptrOld x hx hp hg' =>
    have := (hr.obj p o _ (nth_some ho) hp).1
    omega
theorem VR.var_inv (hr : HR gl ν T w) {p g : Nat} {x : Value} (h : VR ν (.var p g) x) {o : AObj} (ho : nth T p = some o) (hg : g = o.g) : ∃ l, ν p = some l ∧ x = .pointer (some l.a) := by
  cases h with
  | var hp hg' => exact ⟨_, hp, rfl⟩
  | varOld x hx hp hg' =>
    have := (hr.obj p o _ (nth_some ho) hp).1
    omega

theorem toList_mk (l : List UInt8) : (ByteArray.mk l.toArray).toList = l := by
  have h : ∀ (n : Nat) (i : Nat) (acc : List UInt8), l.length - i = n → i ≤ l.length → ByteArray.toList.loop ⟨l.toArray⟩ i acc = acc.reverse ++ l.drop i := by
    intro n
    induction n with
    | zero =>
      intro i acc hn hi
      unfold ByteArray.toList.loop
      have : ¬ i < (ByteArray.mk l.toArray).size := by simp [ByteArray.size]; omega
      rw [if_neg this]
      rw [List.drop_of_length_le (by omega)]
      simp
    | succ n ih =>
      intro i acc hn hi
      unfold ByteArray.toList.loop
      have hlt : i < l.length := by omega
      have : i < (ByteArray.mk l.toArray).size := by simpa [ByteArray.size] using hlt
      rw [if_pos this, ih (i + 1) _ (by omega) (by omega)]
      rw [List.drop_eq_getElem_cons hlt]
      simp [ByteArray.get!, hlt]
  have := h l.length 0 [] (by omega) (by omega)
  simpa [ByteArray.toList] using this

theorem mk_append (a b : List UInt8) : ByteArray.mk a.toArray ++ ByteArray.mk b.toArray = ByteArray.mk (a ++ b).toArray := by
  apply ByteArray.ext
  rw [ByteArray.data_append]
  simp

theorem aBin_sound {op : BinOp} {t : TypeId} {d : TypeDesc} (hd : P.underlying t = some d) {D : Desc} (hD : absDesc P d = D) {x y : AVal} {r : PV} (h : aBin op D x y T = some r) (hc : allP r.1) (hr : HR gl ν T w) {u v : Value} (hx : VR ν x u) (hy : VR ν y v) (ox oy : Operand) :
    ∃ z, (eqGuard op t ox oy u v).run P w = .ok () w ∧ (binOp op t u v).run P w = .ok z w ∧ VR ν r.2 z := by
  unfold aBin at h
  split at h
  · -- ints
    rename_i k a k' b
    obtain rfl := hx.int_inv
    obtain rfl := hy.int_inv
    refine (fun ⟨z, h1, h2⟩ => ⟨z, by rw [eqGuard_at_int]; rfl, h1, h2⟩ : (∃ z, (binOp op t (.int k a) (.int k' b)).run P w = .ok z w ∧ VR ν r.2 z) → _) ?_
    split at h
    · injection h with h; subst h
      simp only [allP, Con.h] at hc
      refine ⟨_, by rw [binOp_shl, shift_shl _ _ _ _ hc.1.1 hc.1.2, arith_wrap hc.2]; rfl, .int _ _⟩
    · injection h with h; subst h
      simp only [allP, Con.h] at hc
      refine ⟨_, by rw [binOp_shr, shift_shr _ _ _ _ hc.1.1 hc.1.2]; rfl, .int _ _⟩
    · split at h
      · cases h
      · rename_i hk
        have := kEq_eq hk; subst this
        split at h <;> first | (injection h with h; subst h) | (exact absurd h (by simp))
        · exact ⟨_, by rw [binOp_add]; simp only [Op.intArith]; rw [arith_wrap hc]; rfl, .int _ _⟩
        · exact ⟨_, by rw [binOp_sub]; simp only [Op.intArith]; rw [arith_wrap hc]; rfl, .int _ _⟩
        · exact ⟨_, by rw [binOp_mul]; simp only [Op.intArith]; rw [arith_wrap hc]; rfl, .int _ _⟩
        · exact ⟨_, by rw [binOp_quo]; simp only [Op.intDiv]; rw [if_neg hc.1, arith_wrap hc.2]; rfl, .int _ _⟩
        · exact ⟨_, by rw [binOp_rem]; simp only [Op.intDiv]; rw [if_neg hc.1]; rfl, .int _ _⟩
        · exact ⟨_, by rw [binOp_and, intBits_and, bits_and hc.1 hc.2.1]; rfl, .int _ _⟩
        · exact ⟨_, by rw [binOp_or, intBits_or, bits_or hc.1 hc.2.1]; rfl, .int _ _⟩
        · exact ⟨_, by rw [binOp_xor, intBits_xor, bits_xor hc.1 hc.2.1]; rfl, .int _ _⟩
        · exact ⟨_, by rw [binOp_andNot, intBits_andNot, bits_andNot hc.1 hc.2.1]; rfl, .int _ _⟩
        · exact ⟨_, by rw [binOp_eql]; rfl, .bool _⟩
        · exact ⟨_, by rw [binOp_neq]; rfl, .bool _⟩
        · exact ⟨_, by rw [binOp_lss]; rfl, .bool _⟩
        · exact ⟨_, by rw [binOp_leq]; rfl, .bool _⟩
        · exact ⟨_, by rw [binOp_gtr]; rfl, .bool _⟩
        · exact ⟨_, by rw [binOp_geq]; rfl, .bool _⟩
  · rename_i a b
    obtain rfl := hx.str_inv
    obtain rfl := hy.str_inv
    refine (fun ⟨z, h1, h2⟩ => ⟨z, by rw [eqGuard_at_string]; rfl, h1, h2⟩ : (∃ z, (binOp op t (.string ⟨a.toArray⟩) (.string ⟨b.toArray⟩)).run P w = .ok z w ∧ VR ν r.2 z) → _) ?_
    split at h <;> first | (injection h with h; subst h) | (exact absurd h (by simp))
    · refine ⟨_, ?_, .str _⟩
      simp only [allP, Con.h] at hc
      have : ¬ ((9223372036854775807 : Int) < (a.length : Int) + (b.length : Int)) := by omega
      simp [binOp, Op.stringOp, ByteArray.size, this, mk_append]
    · exact ⟨_, by simp [binOp, Op.stringOp, toList_mk], .bool _⟩
    · exact ⟨_, by simp [binOp, Op.stringOp, toList_mk], .bool _⟩
  · rename_i a b
    obtain rfl := hx.bool_inv
    obtain rfl := hy.bool_inv
    refine (fun ⟨z, h1, h2⟩ => ⟨z, by rw [eqGuard_at_bool]; rfl, h1, h2⟩ : (∃ z, (binOp op t (.bool a) (.bool b)).run P w = .ok z w ∧ VR ν r.2 z) → _) ?_
    split at h <;> first | (injection h with h; subst h) | (exact absurd h (by simp))
    all_goals
      cases d <;> simp [absDesc] at hD
    all_goals have he : ∀ d, (Op.equalIn (d + 1) t (.bool a) (.bool b)).run P w = .ok (a == b) w := fun d => by simp [Op.equalIn, run_underlying hd]
    · exact ⟨_, by simp only [binOp]; simp [Op.equal, Op.maxDepth, he 9999], .bool _⟩
    · exact ⟨_, by simp only [binOp]; simp [Op.equal, Op.maxDepth, he 9999], .bool _⟩
  · obtain rfl := hx.nilSlice_inv
    obtain rfl := hy.nilSlice_inv
    refine (fun ⟨z, h1, h2⟩ => ⟨z, by rw [eqGuard_at_slice]; rfl, h1, h2⟩ : (∃ z, (binOp op t (.slice none 0 0) (.slice none 0 0)).run P w = .ok z w ∧ VR ν r.2 z) → _) ?_
    split at h <;> first | (injection h with h; subst h) | (exact absurd h (by simp))
    all_goals
      cases d <;> simp [absDesc] at hD
      have he : ∀ d, (Op.equalIn (d + 1) t (.slice none 0 0) (.slice none 0 0)).run P w = .ok true w := fun d => by simp [Op.equalIn, run_underlying hd]
      exact ⟨_, by simp only [binOp]; simp [Op.equal, Op.maxDepth, he 9999], .bool _⟩
  · rename_i sz p g off len cap
    obtain rfl := hy.nilSlice_inv
    split at h <;> first | (injection h with h; subst h) | (exact absurd h (by simp))
    all_goals
      rename_i ho
      cases d <;> simp [absDesc] at hD
      simp only [allP, Con.h] at hc
      rcases hx.slice_inv hr ho hc.1 with ⟨l, b, c, hl, rfl, hs⟩ | ⟨bo, _, h0, _⟩
      · have he : ∀ d, (Op.equalIn (d + 1) t (.slice (some b) len c) (.slice none 0 0)).run P w = .ok false w := fun d => by simp [Op.equalIn, run_underlying hd]
        exact ⟨_, by rw [eqGuard_at_slice]; rfl, by simp only [binOp]; simp [Op.equal, Op.maxDepth, he 9999], .bool _⟩
      · omega
  · obtain rfl := hx.nilPtr_inv
    obtain rfl := hy.nilPtr_inv
    refine (fun ⟨z, h1, h2⟩ => ⟨z, by rw [eqGuard_at_pointer]; rfl, h1, h2⟩ : (∃ z, (binOp op t (.pointer none) (.pointer none)).run P w = .ok z w ∧ VR ν r.2 z) → _) ?_
    split at h <;> first | (injection h with h; subst h) | (exact absurd h (by simp))
    all_goals
      cases d <;> simp [absDesc] at hD
      have he : ∀ d, (Op.equalIn (d + 1) t (.pointer none) (.pointer none)).run P w = .ok true w := fun d => by simp [Op.equalIn, run_underlying hd]
      exact ⟨_, by simp only [binOp]; simp [Op.equal, Op.maxDepth, he 9999], .bool _⟩
  · rename_i p g
    obtain rfl := hy.nilPtr_inv
    split at h <;> first | (injection h with h; subst h) | (exact absurd h (by simp))
    all_goals
      rename_i ho
      cases d <;> simp [absDesc] at hD
      simp only [allP, Con.h] at hc
      obtain ⟨l, hl, rfl⟩ := hx.var_inv hr ho hc.1
      have he : ∀ d, (Op.equalIn (d + 1) t (.pointer (some l.a)) (.pointer none)).run P w = .ok false w := fun d => by simp [Op.equalIn, run_underlying hd]
      exact ⟨_, by rw [eqGuard_at_pointer]; rfl, by simp only [binOp]; simp [Op.equal, Op.maxDepth, he 9999], .bool _⟩
  · rename_i k a k' b
    obtain rfl := hx.float_inv
    obtain rfl := hy.float_inv
    split at h
    · rename_i hk
      have := fEq_eq hk; subst this
      split at h
      · rename_i v hv
        injection h with h; subst h
        obtain ⟨z, h1, h2⟩ := aFloat_sound (P := P) (w := w) (ν := ν) hv t
        exact ⟨z, by rw [eqGuard_at_float]; rfl, h1, h2⟩
      · cases h
    · cases h
  · rename_i k a b k' a' b'
    obtain rfl := hx.complex_inv
    obtain rfl := hy.complex_inv
    split at h
    · rename_i hk
      have := fEq_eq hk; subst this
      injection h with h; subst h
      exact ⟨_, by rw [eqGuard_at_complex]; rfl, by simp [binOp, Op.complexOp, Op.Complex.cmp, Op.floatCmp, asBool], .bool _⟩
    · rename_i hk
      have := fEq_eq hk; subst this
      injection h with h; subst h
      exact ⟨_, by rw [eqGuard_at_complex]; rfl, by simp [binOp, Op.complexOp, Op.Complex.cmp, Op.floatCmp, asBool], .bool _⟩
    · cases h
  · cases h

theorem ofInt_neg1 (b : Nat) : BitVec.ofInt b (-1) = BitVec.allOnes b := by
  apply BitVec.eq_of_toNat_eq
  rw [BitVec.toNat_ofInt, BitVec.toNat_allOnes]
  obtain ⟨m, hm⟩ : ∃ m, 2 ^ b = m + 1 := ⟨2 ^ b - 1, by have := Nat.two_pow_pos b; omega⟩
  rw [hm]
  show (Int.subNatNat (m + 1) (0 % (m + 1) + 1)).toNat = m
  simp [Int.subNatNat]

theorem aUn_sound {op : UnOp} {x : AVal} {r : PV} (h : aUn op x = some r) (hc : allP r.1) {u : Value} (hx : VR ν x u) : ∃ z, (Op.unary op u).run P w = .ok z w ∧ VR ν r.2 z := by
  unfold aUn at h
  split at h
  · injection h with h; subst h
    obtain rfl := hx.int_inv
    exact ⟨_, by simp only [Op.unary, Op.intArith]; rw [arith_wrap hc]; rfl, .int _ _⟩
  · injection h with h; subst h
    obtain rfl := hx.bool_inv
    exact ⟨_, rfl, .bool _⟩
  · rename_i k n
    obtain rfl := hx.int_inv
    split at h
    · rename_i hk
      injection h with h; subst h
      refine ⟨_, ?_, .int _ _⟩
      have hn := hc.1
      obtain ⟨h1, h2⟩ := nonneg_iff.1 hn
      obtain ⟨m, rfl⟩ := Int.eq_ofNat_of_zero_le h1
      have hs : k.signed = false := by cases k <;> first | rfl | simp [signedK] at hk
      have hpw : pw k = k.bits := by cases k <;> first | rfl | simp [signedK] at hk
      have hmax : k.max = ((2 ^ k.bits - 1 : Nat) : Int) := by
        cases k <;> first | (simp [signedK] at hk; done) | decide
      have hm : m < 2 ^ k.bits := by rw [← hpw]; simpa using h2
      have hx : nonneg k k.max := by
        rw [nonneg_iff, hmax, hpw]
        have : 0 < 2 ^ k.bits := Nat.two_pow_pos _
        simp; omega
      simp only [Op.unary, hs, intBits_xor]
      rw [if_neg (by simp), bits_xor hx hn]
      have e : ixor k.max (m : Int) = k.max - (m : Int) := by
        rw [hmax]
        simp only [ixor, Int.toNat_natCast]
        have : (2 ^ k.bits - 1) ^^^ m = 2 ^ k.bits - 1 - m := by
          apply Nat.eq_of_testBit_eq
          intro i
          rw [show 2 ^ k.bits - 1 - m = 2 ^ k.bits - (m + 1) by omega, Nat.testBit_two_pow_sub_succ hm, Nat.testBit_xor, Nat.testBit_two_pow_sub_one]
          by_cases hi : i < k.bits
          · simp [hi]
          · simp [hi, Nat.testBit_lt_two_pow (Nat.lt_of_lt_of_le hm (Nat.pow_le_pow_right (by decide) (Nat.le_of_not_lt hi)))]
        rw [this]
        omega
      rw [e]
      rfl
    · rename_i hk
      injection h with h; subst h
      refine ⟨_, ?_, .int _ _⟩
      have hn : k.min ≤ n ∧ n ≤ k.max := hc.1
      have hs : k.signed = true := by cases k <;> first | rfl | simp [signedK] at hk
      simp only [Op.unary, hs, intBits_xor, if_true]
      have e : bits .xor k (-1) n = -1 - n := by
        cases k <;> simp [signedK] at hk <;> simp [IntKind.min, IntKind.max, IntKind.signed, IntKind.bits] at hn
        all_goals
          simp only [bits]
          rw [ofInt_neg1, BitVec.allOnes_xor, BitVec.toNat_not, BitVec.toNat_ofInt]
          simp [IntKind.wrap, IntKind.bits, IntKind.signed]
          omega
      rw [e]
      rfl
  · cases h
end
end Go.Abs

set_option linter.unusedVariables false
set_option linter.unusedSimpArgs false
namespace Go.Abs

def addO (a b : Nat) : Nat := match a with | 0 => b | n + 1 => (n + 1) + b
theorem addO_eq (a b : Nat) : addO a b = a + b := by cases a <;> simp [addO]
def mulO (n sz : Nat) : Nat := match sz with | 1 => n | _ => n * sz
theorem mulO_eq (n sz : Nat) : mulO n sz = n * sz := by unfold mulO; split <;> simp
def vsize : AVal → Nat
  | .agg vs => vs.length
  | .ints _ xs => xs.length
  | .fam _ => 0
  | .frows _ _ Z vs => match vs with
    | [] => Z.length
    | v :: vs => Z.length + (v :: vs).length
  | _ => 1
theorem vsize_cells (v : AVal) : v.cells.length = vsize v := by
  cases v with
  | frows p g Z vs => cases vs <;> simp [AVal.cells, vsize, frowsV_len]
  | _ => simp [AVal.cells, vsize]
def dataOf : AVal → AVal
  | .agg vs => .agg vs
  | .ints k xs => .ints k xs
  | .int k n => .ints k [n]
  | .fam _ => .agg []
  | .frows p g Z vs => .frows p g Z vs
  | v => .agg [v]
theorem dataOf_cells (v : AVal) : (dataOf v).cells = v.cells := by cases v <;> rfl
theorem dataOf_noFam (v : AVal) : (dataOf v).noFam = true := by cases v <;> rfl
theorem dataOf_data (v : AVal) : IsData (dataOf v) := by cases v <;> first | exact .agg _ | exact .ints _ _ | exact .fam _ | exact .frows _ _ _ _
theorem dataOf_len (v : AVal) : (dataOf v).len = vsize v := by cases v <;> rfl

section
variable {P : Program} {gl : Nat → Option AVal} {ν : Nu} {T : Tab} {w : World}

theorem VR_of_VRs {d : AVal} (hd : IsData d) {xs : List Value} (h : VRs ν d.cells xs) : VR ν d (.agg xs.toArray) := by
  cases hd with
  | agg vs => exact .agg (by simpa [AVal.cells] using h.1) (fun i hi => by simpa [AVal.cells] using h.2 i hi)
  | ints k ys =>
    have e2 : xs = ys.map (Value.int k) := by
      apply List.ext_getElem
      · rw [← h.1]; simp [AVal.cells]
      · intro i h3 h4
        have hi : i < (AVal.ints k ys).cells.length := by rw [h.1]; exact h3
        have := h.2 i hi
        simp [AVal.cells, List.getD, show i < ys.length by simpa using h4, h3] at this
        generalize xs[i] = y at this ⊢
        cases this
        simp
    rw [e2]
    exact .ints _ _
  | fam Z =>
    have : xs = [] := List.eq_nil_of_length_eq_zero (by rw [← h.1]; rfl)
    subst this
    exact .fam Z
  | frows p g Z vs => exact .frows (by simpa [AVal.cells] using h.1) (fun i hi => by simpa [AVal.cells] using h.2 i hi)

theorem Keep.refl (ν : Nu) (T : Tab) (nid : Nat) : Keep ν ν T nid := fun _ _ _ h => h
theorem OpPost.pure_ (hr : HR gl ν T w) {nid : Nat} {cs : List Con} {v : AVal} {x : Value} (hv : VR ν v x) : OpPost gl ν T w nid ⟨cs, v, T⟩ x w :=
  ⟨⟨ν, NuLe.refl ν, Keep.refl ν T nid, hv, hr, Fr.refl _ w⟩⟩

/-! ### loads and stores -/
def aLoad (E : Env) (t : TypeId) (x : AVal) (T : Tab) : Res :=
  match E.ty t with
  | none => fail
  | some ty =>
    match x with
    | .var p g => match nth T p with
      | none => fail
      | some o => match ty.desc.agg with
        | true => ⟨[.eqN g o.g, .eqN o.data.len ty.size], o.data, T⟩
        | false => ⟨[.eqN g o.g, .leN 1 o.data.len], o.data.get 0, T⟩
    | .ptr p g off => match nth T p with
      | none => fail
      | some o => match ty.desc.agg with
        | true => ⟨[.eqN g o.g, .leN (off + ty.size) o.data.len], o.data.sub off ty.size, T⟩
        | false => ⟨[.eqN g o.g, .leN (off + 1) o.data.len], o.data.get off, T⟩
    | .gptr b off => match E.gl b with
      | none => fail
      | some d => match ty.desc.agg with
        | true => match off with
          | 0 => ⟨[.eqN d.len ty.size], d, T⟩
          | off => ⟨[.leN (off + ty.size) d.len], d.sub off ty.size, T⟩
        | false => ⟨[.leN (off + 1) d.len], d.get off, T⟩
    | _ => fail

theorem run_loadAgg {t : TypeId} {ty : Ty} (h : TyOk P t ty) (ha : ty.desc.agg = true) {a : Addr} {xs : List Value} (hl : xs.length = ty.size) (hc : ∀ j v, xs[j]? = some v → w.cell? (a.add j) = some v) :
    (Instr.loadAt t (.pointer (some a))).run P w = .ok (.agg xs.toArray) w := by
  have h1 := h.isAgg w
  have h2 := h.sizeOf w
  have h3 := run_loadCells_list (P := P) w a xs hc
  rw [hl] at h3
  simp [Instr.loadAt, Instr.sureAddr, loadVar, h1, ha, h2, h3]
theorem run_loadOne {t : TypeId} {ty : Ty} (h : TyOk P t ty) (ha : ty.desc.agg = false) {a : Addr} {x : Value} (hc : w.cell? a = some x) :
    (Instr.loadAt t (.pointer (some a))).run P w = .ok x w := by
  have h1 := h.isAgg w
  simp [Instr.loadAt, Instr.sureAddr, loadVar, h1, ha, run_load, hc]

theorem sub_whole {d : AVal} (hd : IsData d) : (d.sub 0 d.len).cells = d.cells := by
  rw [sub_cells hd]
  simp [← cells_len hd]

theorem aLoad_sound {E : Env} (hE : EnvOk E) {t : TypeId} {v : AVal} (hc : allP (aLoad E t v T).cs) (hr : HR E.gl ν T w) {x : Value} (hv : VR ν v x) :
    ∃ z, (Instr.loadAt t x).run E.P w = .ok z w ∧ VR ν (aLoad E t v T).val z ∧ (aLoad E t v T).tab = T := by
  unfold aLoad at hc ⊢
  cases hty : E.ty t with
  | none => simp [hty, fail, allP, Con.h] at hc
  | some ty =>
    have hok := hE.ty t ty hty
    simp only [hty] at hc ⊢
    cases v with
    | var p g =>
      simp only at hc ⊢
      cases ho : nth T p with
      | none => simp [ho, fail, allP, Con.h] at hc
      | some o =>
        simp only [ho] at hc ⊢
        cases ha : ty.desc.agg with
        | true =>
          simp only [ha, allP, Con.h] at hc ⊢
          obtain ⟨l, hl, rfl⟩ := hv.var_inv hr ho hc.1
          obtain ⟨xs, h1, h2, h3⟩ := hr.readRow (nth_some ho) hl (off := 0) (n := o.data.len) (by omega)
          have hd := (hr.obj p o l (nth_some ho) hl).2.1
          refine ⟨_, run_loadAgg hok ha (h1.trans hc.2.1) (fun j v hj => by simpa [add_add] using h2 j v hj), ?_, trivial⟩
          rw [sub_whole hd] at h3
          exact VR_of_VRs hd h3
        | false =>
          simp only [ha, allP, Con.h] at hc ⊢
          obtain ⟨l, hl, rfl⟩ := hv.var_inv hr ho hc.1
          obtain ⟨z, h1, h2⟩ := hr.read (nth_some ho) hl hc.2.1
          exact ⟨z, run_loadOne hok ha (by simpa [Addr.add] using h1), h2, trivial⟩
    | ptr p g off =>
      simp only at hc ⊢
      cases ho : nth T p with
      | none => simp [ho, fail, allP, Con.h] at hc
      | some o =>
        simp only [ho] at hc ⊢
        cases ha : ty.desc.agg with
        | true =>
          simp only [ha, allP, Con.h] at hc ⊢
          obtain ⟨l, hl, rfl⟩ := hv.ptr_inv hr ho hc.1
          obtain ⟨xs, h1, h2, h3⟩ := hr.readRow (nth_some ho) hl hc.2.1
          have hd := (hr.obj p o l (nth_some ho) hl).2.1
          exact ⟨_, run_loadAgg hok ha h1 h2, VR_of_VRs (sub_data hd _ _) h3, trivial⟩
        | false =>
          simp only [ha, allP, Con.h] at hc ⊢
          obtain ⟨l, hl, rfl⟩ := hv.ptr_inv hr ho hc.1
          obtain ⟨z, h1, h2⟩ := hr.read (nth_some ho) hl hc.2.1
          exact ⟨z, run_loadOne hok ha h1, h2, trivial⟩
    | gptr b off =>
      simp only at hc ⊢
      obtain rfl : x = .pointer (some ⟨b, off, none⟩) := by cases hv; rfl
      cases hg : E.gl b with
      | none => simp [hg, fail, allP, Con.h] at hc
      | some d =>
        simp only [hg] at hc ⊢
        obtain ⟨_, _, hd, hcell⟩ := hr.glob b d hg
        have row : ∀ (off n : Nat), off + n ≤ d.len → ∃ xs : List Value, xs.length = n ∧ (∀ j v, xs[j]? = some v → w.cell? ((⟨b, off, none⟩ : Addr).add j) = some v) ∧ VRs ν (d.sub off n).cells xs := by
          intro off n hn
          refine ⟨(List.range n).map fun j => (w.cell? ⟨b, off + j, none⟩).getD undef, by simp, ?_, ?_, ?_⟩
          · intro j v hj
            have hjn : j < n := by
              rcases Nat.lt_or_ge j n with h' | h'
              · exact h'
              · rw [List.getElem?_eq_none (by simpa using h')] at hj; cases hj
            simp only [List.getElem?_map, List.getElem?_range hjn, Option.map_some] at hj
            injection hj with hj
            obtain ⟨x, hx, _⟩ := hcell (off + j) (by omega)
            rw [hx] at hj
            rw [add_plain', hx]
            simpa using hj
          · rw [sub_cells hd]; simp [cells_len hd]; omega
          · intro i hi
            rw [sub_cells hd] at hi ⊢
            have hin : i < n := by simp [cells_len hd] at hi; omega
            obtain ⟨x, hx, hv⟩ := hcell (off + i) (by omega)
            have e1 : ((List.drop off d.cells).take n).getD i un = d.get (off + i) := by
              rw [← cells_get hd (by omega)]
              simp [List.getD, hin]
            have e2 : ((List.range n).map fun j => (w.cell? ⟨b, off + j, none⟩).getD undef).getD i undef = x := by
              simp [List.getD, hin, hx]
            rw [e1, e2]; exact hv ν
        cases ha : ty.desc.agg with
        | true =>
          simp only [ha] at hc ⊢
          cases off with
          | zero =>
            simp only [allP, Con.h] at hc ⊢
            obtain ⟨xs, h1, h2, h3⟩ := row 0 d.len (by omega)
            refine ⟨_, run_loadAgg hok ha (h1.trans hc.1) h2, ?_, trivial⟩
            rw [sub_whole hd] at h3
            exact VR_of_VRs hd h3
          | succ n =>
            simp only [allP, Con.h] at hc ⊢
            obtain ⟨xs, h1, h2, h3⟩ := row (n + 1) ty.size hc.1
            exact ⟨_, run_loadAgg hok ha h1 h2, VR_of_VRs (sub_data hd _ _) h3, trivial⟩
        | false =>
          simp only [ha, allP, Con.h] at hc ⊢
          obtain ⟨z, h1, h2⟩ := hcell off hc.1
          exact ⟨z, run_loadOne hok ha h1, h2 ν, trivial⟩
    | _ => simp [fail, allP, Con.h] at hc

/-- a value as an object's new data -/
def asData : AVal → Option AVal
  | .agg vs => some (.agg vs)
  | .ints k xs => some (.ints k xs)
  | _ => none

def aStore (E : Env) (t : TypeId) (x v : AVal) (T : Tab) : Res :=
  match E.ty t with
  | none => fail
  | some ty =>
    match x with
    | .var p g => match nth T p with
      | none => fail
      | some o => match o.own, asData v with
        | true, some d => ⟨[.eqN g o.g, .eqN (vsize v) ty.size, .eqN o.data.len ty.size, .tt (oneCells v)], un, T.set p (some { o with data := d })⟩
        | true, none => match o.data.write 0 v with
          | some d => ⟨[.eqN g o.g, .eqN (vsize v) ty.size, .leN 1 o.data.len, .tt v.one], un, T.set p (some { o with data := d })⟩
          | none => fail
        | false, _ => fail
    | .ptr p g off => match nth T p with
      | none => fail
      | some o => match o.own, o.data.write off v with
        | true, some d => ⟨[.eqN g o.g, .eqN (vsize v) ty.size, .leN (off + ty.size) o.data.len, .tt (oneCells v && (asData v).isSome || v.one)], un, T.set p (some { o with data := d })⟩
        | _, _ => fail
    | _ => fail

theorem asData_data {v d : AVal} (h : asData v = some d) : v = d ∧ IsData d := by
  cases v <;> simp [asData] at h <;> subst h
  · exact ⟨rfl, .agg _⟩
  · exact ⟨rfl, .ints _ _⟩

theorem asData_noFam {v d : AVal} (h : asData v = some d) : d.noFam = true := by
  cases v <;> simp [asData] at h <;> subst h <;> rfl
theorem cells_one' {v : AVal} (h : oneCells v = true ∧ (asData v).isSome = true ∨ v.one = true) : ∀ u ∈ v.cells, u.one = true := by
  rcases h with ⟨h1, h2⟩ | h
  · obtain ⟨d, hd⟩ := Option.isSome_iff_exists.1 h2
    obtain ⟨rfl, h3⟩ := asData_data hd
    exact cells_one h3 h1
  · rw [one_cells h]; simpa using h

theorem run_storeAt {t : TypeId} {ty : Ty} (h : TyOk P t ty) {a : Addr} {v : Value} (hs : v.cells.size = ty.size) {w' : World} (hst : (storeCells a v.cells.toList).run P w = .ok () w') :
    (Instr.storeAt t (.pointer (some a)) v).run P w = .ok () w' := by
  have h2 := h.sizeOf w
  simp [Instr.storeAt, Instr.sureAddr, storeVar, h2, hs, hst]

theorem aStore_sound {E : Env} (hE : EnvOk E) {t : TypeId} {x v : AVal} (hc : allP (aStore E t x v T).cs) (hr : HR E.gl ν T w) {a y : Value} (hx : VR ν x a) (hv : VR ν v y) :
    ∃ w', (Instr.storeAt t a y).run E.P w = .ok () w' ∧ (aStore E t x v T).val = un ∧ HR E.gl ν (aStore E t x v T).tab w' ∧ Fr (Own ν T) w (Own ν (aStore E t x v T).tab) w' := by
  have hvc := hv.cells
  have hys : y.cells.toList.length = vsize v := by rw [← hvc.1, vsize_cells]
  unfold aStore at hc ⊢
  cases hty : E.ty t with
  | none => simp [hty, fail, allP, Con.h] at hc
  | some ty =>
    have hok := hE.ty t ty hty
    simp only [hty] at hc ⊢
    cases x with
    | var p g =>
      simp only at hc ⊢
      cases ho : nth T p with
      | none => simp [ho, fail, allP, Con.h] at hc
      | some o =>
        simp only [ho] at hc ⊢
        cases hown : o.own with
        | false => simp [hown, fail, allP, Con.h] at hc
        | true =>
          simp only [hown] at hc ⊢
          cases hd : asData v with
          | some d =>
            simp only [hd, allP, Con.h] at hc ⊢
            obtain ⟨rfl, hdd⟩ := asData_data hd
            obtain ⟨l, hl, rfl⟩ := hx.var_inv hr ho hc.1
            have hone := cells_one' (v := v) (.inl ⟨hc.2.2.2.1, by simp [hd]⟩)
            -- as a write over all of it
            obtain ⟨hg, hd0, hrel⟩ := hr.obj p o l (nth_some ho) hl
            rcases Nat.eq_zero_or_pos l.room with hz | hpos
            · have hroom := (hr.obj p o l (nth_some ho) hl).2.room
              have h0 : y.cells.toList = [] := List.eq_nil_of_length_eq_zero (by rw [hys, hc.2.1, ← hc.2.2.1]; omega)
              have hlen : v.len = o.data.len := by rw [← cells_len hdd, vsize_cells, hc.2.1, hc.2.2.1]
              obtain ⟨h2, h3⟩ := hr.retell (o' := { o with data := v }) (nth_some ho) hl rfl id ⟨hdd, .inr (.inr ⟨by simp only; omega, hz⟩)⟩ (FamOk.no (asData_noFam hd))
              rw [hown] at h2 h3
              refine ⟨w, run_storeAt hok ?_ (by rw [h0]; rfl), trivial, h2, (Fr.refl _ w).sub h3⟩
              rw [← hc.2.1, ← hys]; simp
            rcases hrel with ⟨_, ⟨⟨cur, hcur, hsz, hvv⟩, hspot, hrm⟩⟩ | ⟨hf, _⟩ | ⟨_, hz⟩
            rotate_left
            · rw [hown] at hf; cases hf
            · omega
            · have hst := run_storeCells_at E.P l.a.block l.a.off o.et y.cells.toList 0 cur w hcur (by rw [hys]; omega) (hvc.tolist hone)
              simp only [Nat.add_zero] at hst
              have ha : l.a = ⟨l.a.block, l.a.off, none⟩ := addr_eta l.a hspot
              have hlen : v.len = o.data.len := by rw [← cells_len hdd, vsize_cells, hc.2.1, hc.2.2.1]
              have hup : upd ν p l = ν := by
                funext q
                by_cases e : q = p
                · subst e; rw [upd_same, hl]
                · rw [upd_other ν l e]
              obtain ⟨h1, h2⟩ := hr.replace (o' := { o with data := v }) (l' := l) (nth_some ho) hl hown hpos hown (asData_noFam hd) hdd hg rfl (by rw [hup]; exact NuLe.refl ν) (cur := cur) hcur
                (cs := (cur.toList.take l.a.off ++ y.cells.toList ++ cur.toList.drop (l.a.off + y.cells.toList.length)).toArray) (by simp [-Array.length_toList] at hys ⊢; simp at *; omega)
                (by
                  rw [hup]
                  have e : rowOf (cur.toList.take l.a.off ++ y.cells.toList ++ cur.toList.drop (l.a.off + y.cells.toList.length)).toArray l.a.off v.len = y.cells.toList := by
                    have hcl : l.a.off + l.room ≤ cur.toList.length := by simpa using hsz
                    have hv2 : v.len = y.cells.toList.length := by rw [hys, ← cells_len hdd, vsize_cells]
                    unfold rowOf
                    rw [hv2]
                    have : (List.take l.a.off cur.toList).length = l.a.off := by simp; omega
                    rw [List.append_assoc, List.drop_left' this, List.take_left' rfl]
                  simp only
                  rw [e]
                  exact hvc) hspot (by simp only; omega)
              rw [hup] at h1 h2
              rw [hown] at h1 h2
              refine ⟨_, run_storeAt hok ?_ (by rw [ha]; exact hst), trivial, h1, h2⟩
              rw [← hc.2.1, ← hys]; simp
          | none =>
            simp only [hd] at hc ⊢
            cases hw : o.data.write 0 v with
            | none => simp [hw, fail, allP, Con.h] at hc
            | some d =>
              simp only [hw, allP, Con.h] at hc ⊢
              obtain ⟨l, hl, rfl⟩ := hx.var_inv hr ho hc.1
              have hone := cells_one' (v := v) (.inr hc.2.2.2.1)
              have h1len : y.cells.toList.length = 1 := by rw [hys, ← vsize_cells, one_cells hc.2.2.2.1]; rfl
              obtain ⟨w', h1, h2, h3⟩ := hr.writeRow (P := E.P) (nth_some ho) hl hown (off := 0) hw hvc (by omega) (hvc.tolist hone)
              rw [hown] at h2 h3
              refine ⟨w', run_storeAt hok (by rw [← hc.2.1, ← hys]; simp) (by simpa [Addr.add] using h1), trivial, h2, h3⟩
    | ptr p g off =>
      simp only at hc ⊢
      cases ho : nth T p with
      | none => simp [ho, fail, allP, Con.h] at hc
      | some o =>
        simp only [ho] at hc ⊢
        cases hown : o.own with
        | false => simp [hown, fail, allP, Con.h] at hc
        | true =>
          cases hw : o.data.write off v with
          | none => simp [hown, hw, fail, allP, Con.h] at hc
          | some d =>
            simp only [hown, hw, allP, Con.h] at hc ⊢
            obtain ⟨l, hl, rfl⟩ := hx.ptr_inv hr ho hc.1
            have hone := cells_one' (by simpa using hc.2.2.2.1)
            obtain ⟨w', h1, h2, h3⟩ := hr.writeRow (P := E.P) (nth_some ho) hl hown (off := off) hw hvc (by rw [hys, hc.2.1]; exact hc.2.2.1) (hvc.tolist hone)
            rw [hown] at h2 h3
            exact ⟨w', run_storeAt hok (by rw [← hc.2.1, ← hys]; simp) h1, trivial, h2, h3⟩
    | _ => simp [fail, allP, Con.h] at hc
end
end Go.Abs

set_option linter.unusedVariables false
set_option linter.unusedSimpArgs false
namespace Go.Abs

/-! ### new objects -/
section
variable {P : Program} {gl : Nat → Option AVal} {ν : Nu} {T : Tab} {w : World}

def newObj_ (T : Tab) (nid : Nat) (d : AVal) (own : Bool) (t : TypeId) : Tab := T.set nid (some ⟨d, 0, own, t⟩)

theorem HR.newVar (hr : HR gl ν T w) {nid : Nat} (hp : nid < T.length) (hn : ν nid = none) {v : AVal} {x : Value} (hv : VR ν v x) (t : TypeId) :
    HR gl (upd ν nid ⟨⟨w.heap.size, 0, none⟩, 0, x.cells.size⟩) (newObj_ T nid (dataOf v) true t) (w.alloc (.cells x.cells t)) ∧ NuLe ν (upd ν nid ⟨⟨w.heap.size, 0, none⟩, 0, x.cells.size⟩) ∧
    Fr (Own ν T) w (Own (upd ν nid ⟨⟨w.heap.size, 0, none⟩, 0, x.cells.size⟩) (newObj_ T nid (dataOf v) true t)) (w.alloc (.cells x.cells t)) ∧
    VR (upd ν nid ⟨⟨w.heap.size, 0, none⟩, 0, x.cells.size⟩) (.var nid 0) (.pointer (some ⟨w.heap.size, 0, none⟩)) := by
  have hl : (dataOf v).len = x.cells.size := by
    have := hv.cells.1
    rw [dataOf_len, ← vsize_cells, this]; simp
  obtain ⟨h1, h2, h3⟩ := hr.new hp hn (dataOf_data v) (dataOf_noFam v) (cur := x.cells) (by omega) (by
    rw [dataOf_cells, hl, List.take_of_length_le (by simp)]
    exact hv.cells) t
  exact ⟨h1, h2, h3, .var (upd_same _ _ _) rfl⟩

theorem Keep.upd (ν : Nu) (T : Tab) (nid : Nat) (l : Loc) : Keep ν (upd ν nid l) T nid := fun q _ hq h => by rw [upd_other ν l hq]; exact h

def aAlloc (E : Env) (t : TypeId) (nid : Nat) (T : Tab) : Res :=
  match E.ty t with
  | none => fail
  | some ty => ⟨[], .var nid 0, newObj_ T nid (dataOf ty.zero) true t⟩

theorem aAlloc_sound {E : Env} (hE : EnvOk E) {t : TypeId} {nid : Nat} (hp : nid < T.length) (hn : ν nid = none) (hc : allP (aAlloc E t nid T).cs) (hr : HR E.gl ν T w) (old : Value) :
    ∃ x w', (Instr.alloc t true old).run E.P w = .ok x w' ∧ OpPost E.gl ν T w nid (aAlloc E t nid T) x w' := by
  unfold aAlloc at hc ⊢
  cases hty : E.ty t with
  | none => simp [hty, fail, allP, Con.h] at hc
  | some ty =>
    obtain ⟨z, hz, hzs, hzv⟩ := (hE.ty t ty hty).zeroValue
    obtain ⟨h1, h2, h3, h4⟩ := hr.newVar hp hn (hzv ν) t
    exact ⟨_, _, by simp [Instr.alloc, hz, newVar, newRow], ⟨⟨_, h2, Keep.upd _ _ _ _, h4, h1, h3⟩⟩⟩

def aBox (t : TypeId) (v : AVal) (nid : Nat) (T : Tab) : Res := ⟨[], .var nid 0, newObj_ T nid (dataOf v) true t⟩
theorem aBox_sound {t : TypeId} {v : AVal} {nid : Nat} (hp : nid < T.length) (hn : ν nid = none) (hr : HR gl ν T w) {x : Value} (hv : VR ν v x) :
    ∃ y w', (Instr.box t x).run P w = .ok y w' ∧ OpPost gl ν T w nid (aBox t v nid T) y w' := by
  obtain ⟨h1, h2, h3, h4⟩ := hr.newVar hp hn hv t
  exact ⟨_, _, by simp [Instr.box, newVar, newRow], ⟨⟨_, h2, Keep.upd _ _ _ _, h4, h1, h3⟩⟩⟩

/-! ### parts put together -/
theorem foldl_set (off : Nat) : ∀ (l : List Value) (cs : Array Value) (j : Nat), off + j + l.length ≤ cs.size →
    ((l.zipIdx j).foldl (fun cs (x : Value × Nat) => cs.setIfInBounds (off + x.2) x.1) cs).toList = over cs.toList (off + j) l
  | [], cs, j, h => by simp [over]
  | v :: r, cs, j, h => by
    have ih := foldl_set off r (cs.setIfInBounds (off + j) v) (j + 1) (by simp at h ⊢; omega)
    simp only [List.zipIdx_cons, List.foldl_cons]
    rw [ih, Array.toList_setIfInBounds]
    have := list_seg_step cs.toList (off + j) v r (by simp at h ⊢; omega)
    unfold over
    simpa [Nat.add_assoc, Nat.add_comm 1] using this

theorem foldl_set' (off : Nat) (v : Array Value) (cs : Array Value) (h : off + v.size ≤ cs.size) :
    (v.zipIdx.foldl (fun cs (x : Value × Nat) => cs.setIfInBounds (off + x.2) x.1) cs).toList = over cs.toList off v.toList := by
  have := foldl_set off v.toList cs 0 (by simpa using h)
  rw [← Array.foldl_toList]
  simpa using this

/-- parts written into data, one behind the other -/
def aFill (place : Nat → Option (Nat × Nat)) (d : AVal) : List (Nat × Option AVal) → Option (List Con × AVal)
  | [] => some ([], d)
  | (i, some v) :: r => match place i with
    | none => none
    | some (off, size) => match d.write off v with
      | none => none
      | some d' => match aFill place d' r with
        | none => none
        | some (cs, d'') => some (.eqN (vsize v) size :: .leN (off + size) d.len :: cs, d'')
  | (_, none) :: _ => none

theorem aFill_noFam {place : Nat → Option (Nat × Nat)} : ∀ {parts : List (Nat × Option AVal)} {d d' : AVal} {cs : List Con}, aFill place d parts = some (cs, d') → d.noFam = true → d'.noFam = true
  | [], d, d', cs, h, hd => by
    simp only [aFill] at h
    injection h with h; injection h with h1 h2
    subst h2; exact hd
  | (i, none) :: r, d, d', cs, h, hd => by simp [aFill] at h
  | (i, some v) :: r, d, d', cs, h, hd => by
    simp only [aFill] at h
    split at h
    · cases h
    · split at h
      · cases h
      · rename_i d1 hw
        split at h
        · cases h
        · rename_i cs1 d2 hf
          injection h with h; injection h with h1 h2
          subst h2
          exact aFill_noFam hf (write_noFam hw)
theorem aFill_sound {place : Nat → Option (Nat × Nat)} : ∀ {parts : List (Nat × Option AVal)} {xs : List (Nat × Value)} {d d' : AVal} {cs : List Con}, aFill place d parts = some (cs, d') → allP cs → IsData d →
    parts.length = xs.length → (∀ j (h : j < parts.length), ∀ v, (parts.getD j (0, none)).2 = some v → VR ν v (xs.getD j (0, undef)).2) → (∀ j, j < parts.length → (parts.getD j (0, none)).1 = (xs.getD j (0, undef)).1) →
    ∀ {cells : Array Value}, VRs ν d.cells cells.toList → ∃ cells', Instr.fill place cells xs = some cells' ∧ IsData d' ∧ VRs ν d'.cells cells'.toList ∧ d'.len = d.len
  | [], xs, d, d', cs, h, hc, hd, hl, hv, hi, cells, hcl => by
    simp only [aFill] at h
    injection h with h; injection h with h1 h2
    subst h2
    obtain rfl : xs = [] := List.eq_nil_of_length_eq_zero (by simpa using hl.symm)
    exact ⟨cells, rfl, hd, hcl, rfl⟩
  | (i, none) :: r, xs, d, d', cs, h, hc, hd, hl, hv, hi, cells, hcl => by simp [aFill] at h
  | (i, some v) :: r, [], d, d', cs, h, hc, hd, hl, hv, hi, cells, hcl => by simp at hl
  | (i, some v) :: r, (i', x) :: xs, d, d', cs, h, hc, hd, hl, hv, hi, cells, hcl => by
    have hi0 : i = i' := by simpa using hi 0 (by simp)
    subst hi0
    have hv0 : VR ν v x := by simpa using hv 0 (by simp) v (by simp)
    simp only [aFill] at h
    split at h
    · cases h
    · rename_i off size hpl
      split at h
      · cases h
      · rename_i d1 hw
        split at h
        · cases h
        · rename_i cs1 d2 hf
          injection h with h; injection h with h1 h2
          subst h1; subst h2
          simp only [allP, Con.h] at hc
          have hxs : x.cells.toList.length = size := by rw [← hv0.cells.1, vsize_cells, hc.1]
          have hcells : cells.size = d.len := by rw [← cells_len hd, hcl.1]; simp
          obtain ⟨hd1, hl1, hv1⟩ := write_spec hw hcl hv0.cells (by rw [hxs]; exact hc.2.1)
          have hset := foldl_set' off x.cells cells (by simp at hxs; omega)
          rw [← hset] at hv1
          obtain ⟨cells', h3, h4, h5, h6⟩ := aFill_sound hf hc.2.2 hd1 (xs := xs) (by simpa using hl)
            (fun j hj u hu => by simpa using hv (j + 1) (by simpa using hj) u (by simpa using hu)) (fun j hj => by simpa using hi (j + 1) (by simpa using hj)) hv1
          refine ⟨cells', ?_, h4, h5, h6.trans hl1⟩
          simp only [Instr.fill, hpl]
          have : ¬ (x.cells.size ≠ size ∨ off + x.cells.size > cells.size) := by simp at hxs; omega
          simp only [Bool.or_eq_true, decide_eq_true_eq, this, if_false]
          exact h3

/-- n times a zero value's cells -/
def rep (n : Nat) (z : AVal) : AVal :=
  match z with
  | .int k x => .ints k (List.replicate n x)
  | .ints k xs => .ints k (List.replicate n xs).flatten
  | .agg vs => .agg (List.replicate n vs).flatten
  | .fam _ => .agg []
  | .frows p g Z vs => .agg (List.replicate n (frowsV p g Z ++ vs)).flatten
  | v => .agg (List.replicate n v)
theorem rep_data (n : Nat) (z : AVal) : IsData (rep n z) := by cases z <;> first | exact .agg _ | exact .ints _ _
theorem rep_noFam (n : Nat) (z : AVal) : (rep n z).noFam = true := by cases z <;> rfl
theorem rep_cells (n : Nat) (z : AVal) : (rep n z).cells = (List.replicate n z.cells).flatten := by
  cases z <;> simp [rep, AVal.cells, List.map_flatten, List.map_replicate] <;> try (induction n with | zero => rfl | succ n ih => simp [List.replicate_succ, ih])
theorem VRs.rep {vs : List AVal} {xs : List Value} (h : VRs ν vs xs) (n : Nat) : VRs ν (List.replicate n vs).flatten (List.replicate n xs).flatten := by
  induction n with
  | zero => exact VRs.nil ν
  | succ n ih => simp only [List.replicate_succ, List.flatten_cons]; exact h.append ih
theorem flatten_snoc {α : Type} (l : List α) (n : Nat) : (List.replicate (n + 1) l).flatten = (List.replicate n l).flatten ++ l := by
  rw [List.replicate_succ', List.flatten_append]; simp
theorem made_flatten (z : Array Value) (n : Nat) : (madeCells z (n * z.size)).toList = (List.replicate n z.toList).flatten := by
  induction n with
  | zero => simp [madeCells]
  | succ n ih =>
    rw [flatten_snoc, ← ih]
    apply List.ext_getElem
    · simp [madeCells, Nat.add_mul]
    · intro i h1 h2
      simp only [madeCells, Array.toList_map, Array.toList_range, List.getElem_map, List.getElem_range, List.getElem_append, List.length_map, List.length_range]
      split
      · rfl
      · rename_i hi
        have hlt : i - n * z.size < z.size := by simp [madeCells, Nat.add_mul] at h1; omega
        have e : i % z.size = i - n * z.size := by
          have : i = (i - n * z.size) + n * z.size := by omega
          rw [this, Nat.add_mul_mod_self_right, Nat.mod_eq_of_lt hlt]
          omega
        simp [e, hlt]
theorem rep_VRs {z : AVal} {x : Value} (h : VR ν z x) (n : Nat) : VRs ν (rep n z).cells (madeCells x.cells (n * x.cells.size)).toList := by
  rw [rep_cells, made_flatten]
  exact h.cells.rep n

def aMakeSlice (E : Env) (t : TypeId) (l c : AVal) (nid : Nat) (T : Tab) : Res :=
  match E.ty t, l, c with
  | some ty, .int _ a, .int _ b => match ty.desc with
    | .slice e => match E.ty e with
      | some ety => ⟨[.leI 0 a, .leI a b, .leI ((ety.bytes : Int) * b) 281474976710656, .leI b 9223372036854775807], .slice ety.size nid 0 0 a.toNat (some b.toNat), newObj_ T nid (rep b.toNat ety.zero) true e⟩
      | none => fail
    | _ => fail
  | _, _, _ => fail

theorem aMakeSlice_sound {E : Env} (hE : EnvOk E) {t : TypeId} {l c : AVal} {nid : Nat} (hp : nid < T.length) (hn : ν nid = none) (hc : allP (aMakeSlice E t l c nid T).cs) (hr : HR E.gl ν T w) {u v : Value} (hl : VR ν l u) (hcv : VR ν c v) :
    ∃ x w', (Instr.makeSlice t u v).run E.P w = .ok x w' ∧ OpPost E.gl ν T w nid (aMakeSlice E t l c nid T) x w' := by
  generalize hR : aMakeSlice E t l c nid T = R at hc ⊢
  unfold aMakeSlice at hR
  split at hR
  · rename_i ty kl a kc b hty
    split at hR
    · rename_i e hd
      split at hR
      · rename_i ety hety
        subst hR
        simp only [allP, Con.h] at hc
        obtain rfl := hl.int_inv
        obtain rfl := hcv.int_inv
        obtain ⟨i, z, hi, hz, hsz, hby, hzc, hzv⟩ := (hE.ty e ety hety).info
        have hrun := run_make (P := E.P) w t e i z ((hE.ty t ty hty).slice hd) hi hz kl kc a b hc.1 hc.2.1 (by rw [hby]; exact hc.2.2.1) hc.2.2.2.1
        have hvv := rep_VRs (hzv ν) b.toNat
        rw [hzc] at hvv
        have hlen : (rep b.toNat ety.zero).len = b.toNat * ety.size := by rw [← cells_len (rep_data _ _), hvv.1]; simp [size_madeCells]
        obtain ⟨h1, h2, h3⟩ := hr.new hp hn (rep_data b.toNat ety.zero) (rep_noFam b.toNat ety.zero) (cur := madeCells z.cells (b.toNat * i.size)) (by simp [size_madeCells, hlen, hsz]) (by
          rw [List.take_of_length_le (by simp [size_madeCells, hlen, hsz]), hsz]; exact hvv) e
        refine ⟨_, _, hrun, ⟨⟨_, h2, Keep.upd _ _ _ _, ?_, h1, h3⟩⟩⟩
        exact .slice (upd_same _ _ _) rfl ⟨by omega, (by intro k hk; injection hk), (by simp [Addr.add]), (by simp [size_madeCells, hsz]), (by intro hk; cases hk)⟩
      · subst hR; simp [fail, allP, Con.h] at hc
    · subst hR; simp [fail, allP, Con.h] at hc
  · subst hR; simp [fail, allP, Con.h] at hc

def aBuildSlice (E : Env) (t : TypeId) (len : Nat) (parts : List (Nat × Option AVal)) (nid : Nat) (T : Tab) : Res :=
  match E.ty t with
  | some ty => match ty.desc with
    | .slice e => match E.ty e with
      | some ety => match aFill (fun i => some (mulO i ety.size, ety.size)) (rep len ety.zero) parts with
        | some (cs, d) => ⟨.leN (len * ety.size) 16777216 :: cs, .slice ety.size nid 0 0 len (some len), newObj_ T nid d true e⟩
        | none => fail
      | none => fail
    | _ => fail
  | none => fail

theorem aBuildSlice_sound {E : Env} (hE : EnvOk E) {t : TypeId} {len : Nat} {parts : List (Nat × Option AVal)} {nid : Nat} (hp : nid < T.length) (hn : ν nid = none) (hc : allP (aBuildSlice E t len parts nid T).cs) (hr : HR E.gl ν T w)
    {xs : Array (Nat × Value)} (hl : parts.length = xs.size) (hv : ∀ j (h : j < parts.length), ∀ v, (parts.getD j (0, none)).2 = some v → VR ν v (xs.toList.getD j (0, undef)).2) (hi : ∀ j, j < parts.length → (parts.getD j (0, none)).1 = (xs.toList.getD j (0, undef)).1) :
    ∃ x w', (Instr.buildSlice t len xs).run E.P w = .ok x w' ∧ OpPost E.gl ν T w nid (aBuildSlice E t len parts nid T) x w' := by
  generalize hR : aBuildSlice E t len parts nid T = R at hc ⊢
  unfold aBuildSlice at hR
  split at hR
  · rename_i ty hty
    split at hR
    · rename_i e hd
      split at hR
      · rename_i ety hety
        split at hR
        · rename_i cs d hf
          subst hR
          simp only [allP, Con.h] at hc
          obtain ⟨i, z, hi', hz, hsz, hby, hzc, hzv⟩ := (hE.ty e ety hety).info
          have hvv := rep_VRs (hzv ν) len
          rw [hzc] at hvv
          have hlen : (rep len ety.zero).len = len * ety.size := by rw [← cells_len (rep_data _ _), hvv.1]; simp [size_madeCells]
          obtain ⟨cells', h1, h2, h3, h4⟩ := aFill_sound hf hc.2 (rep_data _ _) (xs := xs.toList) (by simpa using hl) hv hi (cells := madeCells z.cells (len * ety.size)) hvv
          have hcs : cells'.size = len * ety.size := by
            have := h3.1
            rw [cells_len h2, h4, hlen] at this
            simpa using this.symm
          have hmul : (fun i => some (mulO i ety.size, ety.size)) = (fun i => some (i * ety.size, ety.size)) := by funext i; rw [mulO_eq]
          rw [hmul] at h1
          have hrun : (Instr.buildSlice t len xs).run E.P w = .ok (.slice (some ⟨w.heap.size, 0, none⟩) len len) (w.alloc (.cells cells' e)) := by
            have hno : ¬ (16777216 < len * ety.size) := by omega
            by_cases h0 : len * ety.size = 0
            · have hm : madeCells z.cells (len * ety.size) = #[] := by rw [← Array.size_eq_zero_iff, size_madeCells, h0]
              rw [hm] at h1
              simp [Instr.buildSlice, run_underlying ((hE.ty t ty hty).slice hd), (hE.ty e ety hety).sizeOf, h0, Array.range_zero', h1, newRow]
            · have hm : (Array.range (len * ety.size)).map (z.cells[· % z.cells.size]!) = madeCells z.cells (len * ety.size) := rfl
              simp [Instr.buildSlice, run_underlying ((hE.ty t ty hty).slice hd), (hE.ty e ety hety).sizeOf, h0, hno, zeroValue, typeInfo, hi', hz, hm, h1, newRow]
          obtain ⟨g1, g2, g3⟩ := hr.new hp hn h2 (aFill_noFam hf (rep_noFam _ _)) (cur := cells') (by omega) (by
            rw [List.take_of_length_le (by simp; omega)]; exact h3) e
          refine ⟨_, _, hrun, ⟨⟨_, g2, Keep.upd _ _ _ _, ?_, g1, g3⟩⟩⟩
          exact .slice (upd_same _ _ _) rfl ⟨by omega, (by intro k hk; injection hk), (by simp [Addr.add]), (by simp; omega), (by intro hk; cases hk)⟩
        · subst hR; simp [fail, allP, Con.h] at hc
      · subst hR; simp [fail, allP, Con.h] at hc
    · subst hR; simp [fail, allP, Con.h] at hc
  · subst hR; simp [fail, allP, Con.h] at hc

def aPlaces (E : Env) : List (Nat × TypeId) → Option (List (Nat × Nat))
  | [] => some []
  | (off, t) :: r => match E.ty t, aPlaces E r with
    | some ty, some l => some ((off, ty.size) :: l)
    | _, _ => none
def nthP : List (Nat × Nat) → Nat → Option (Nat × Nat)
  | [], _ => none
  | x :: _, 0 => some x
  | _ :: r, n + 1 => nthP r n
theorem nthP_eq : ∀ (l : List (Nat × Nat)) (i : Nat), nthP l i = l[i]?
  | [], i => by simp [nthP]
  | x :: r, 0 => rfl
  | x :: r, i + 1 => by simp [nthP, nthP_eq r i]

def aBuild (E : Env) (t : TypeId) (parts : List (Nat × Option AVal)) : Option PV :=
  match E.ty t with
  | some ty => match ty.desc, asData ty.zero with
    | .array _ e, some d => match E.ty e with
      | some ety => aFill (fun i => some (mulO i ety.size, ety.size)) d parts
      | none => none
    | .struct fs, some d => match aPlaces E fs with
      | some pl => aFill (nthP pl) d parts
      | none => none
    | _, _ => none
  | none => none

theorem aPlaces_ok {E : Env} (hE : EnvOk E) : ∀ {fs : List Field} {l : List (Nat × Nat)}, aPlaces E (fs.map fun f => (f.offset, f.type)) = some l →
    fs.mapM (fun f => (E.P.info? f.type).map fun i => (f.offset, i.size)) = some l
  | [], l, h => by simp [aPlaces] at h; subst h; simp
  | f :: fs, l, h => by
    simp only [List.map_cons, aPlaces] at h
    split at h
    · rename_i ty l' hty hl'
      injection h with h; subst h
      obtain ⟨i, z, hi, hz, hsz, _⟩ := (hE.ty _ _ hty).info
      simp [List.mapM_cons, hi, aPlaces_ok hE hl', hsz]
    · cases h

theorem aBuild_sound {E : Env} (hE : EnvOk E) {t : TypeId} {parts : List (Nat × Option AVal)} {r : PV} (h : aBuild E t parts = some r) (hc : allP r.1)
    {xs : Array (Nat × Value)} (hl : parts.length = xs.size) (hv : ∀ j (h : j < parts.length), ∀ v, (parts.getD j (0, none)).2 = some v → VR ν v (xs.toList.getD j (0, undef)).2) (hi : ∀ j, j < parts.length → (parts.getD j (0, none)).1 = (xs.toList.getD j (0, undef)).1) :
    ∃ x, (Instr.build t xs).run E.P w = .ok x w ∧ VR ν r.2 x := by
  unfold aBuild at h
  split at h
  · rename_i ty hty
    obtain ⟨i, z, hi', hz, hsz, hby, hzc, hzv⟩ := (hE.ty t ty hty).info
    have fin : ∀ {place : Nat → Option (Nat × Nat)} {d : AVal}, asData ty.zero = some d → aFill place d parts = some r → (∀ cells, Instr.fill place z.cells xs.toList = some cells → E.P.built t xs.toList = some cells) → ∃ x, (Instr.build t xs).run E.P w = .ok x w ∧ VR ν r.2 x := by
      intro place d hd hf hb
      obtain ⟨rfl, hd'⟩ := asData_data hd
      obtain ⟨cells', h1, h2, h3, h4⟩ := aFill_sound (cs := r.1) (d' := r.2) hf hc hd' (xs := xs.toList) (by simpa using hl) hv hi (hzv ν).cells
      exact ⟨_, run_build w t xs cells' (hb cells' h1), VR_of_VRs h2 h3⟩
    split at h
    · rename_i n e d hd hdz
      split at h
      · rename_i ety hety
        have hmul : (fun i => some (mulO i ety.size, ety.size)) = (fun i => some (i * ety.size, ety.size)) := by funext i; rw [mulO_eq]
        rw [hmul] at h
        obtain ⟨ie, ze, hie, hze, hsze, _⟩ := (hE.ty e ety hety).info
        refine fin hdz h fun cells hcl => ?_
        simp only [Program.built, hi', (hE.ty t ty hty).array hd, hz, hie, hsze]
        exact hcl
      · cases h
    · rename_i fs d hd hdz
      split at h
      · rename_i pl hpl
        obtain ⟨fields, hf1, hf2⟩ := (hE.ty t ty hty).struct hd
        rw [← hf2] at hpl
        have hm := aPlaces_ok hE hpl
        refine fin hdz h fun cells hcl => ?_
        simp only [Program.built, hi', hf1, hz, hm]
        rw [← hcl]
        congr 1
        funext i
        simp [nthP_eq]
      · cases h
    · cases h
  · cases h
end
end Go.Abs

set_option linter.unusedVariables false
set_option linter.unusedSimpArgs false
namespace Go.Abs

def nthF : List (Nat × TypeId) → Nat → Option (Nat × TypeId)
  | [], _ => none
  | x :: _, 0 => some x
  | _ :: r, n + 1 => nthF r n
theorem nthF_eq : ∀ (l : List (Nat × TypeId)) (i : Nat), nthF l i = l[i]?
  | [], i => by simp [nthF]
  | x :: r, 0 => rfl
  | x :: r, i + 1 => by simp [nthF, nthF_eq r i]

section
variable {P : Program} {gl : Nat → Option AVal} {ν : Nu} {T : Tab} {w : World}

/-- an address some cells further -/
def aAdd (x : AVal) (n : Nat) (T : Tab) : Option PV :=
  match x with
  | .var p g => match nth T p with
    | some o => some ([.eqN g o.g], .ptr p g n)
    | none => none
  | .ptr p g off => match nth T p with
    | some o => some ([.eqN g o.g], .ptr p g (addO off n))
    | none => none
  | .gptr b off => some ([], .gptr b (addO off n))
  | _ => none

theorem aAdd_sound (hr : HR gl ν T w) {x : AVal} {n : Nat} {r : PV} (h : aAdd x n T = some r) (hc : allP r.1) {u : Value} (hx : VR ν x u) : ∃ a, u = .pointer (some a) ∧ VR ν r.2 (.pointer (some (a.add n))) := by
  unfold aAdd at h
  split at h
  · split at h
    · rename_i o ho
      injection h with h; subst h
      simp only [allP, Con.h] at hc
      obtain ⟨l, hl, rfl⟩ := hx.var_inv hr ho hc.1
      exact ⟨_, rfl, .ptr hl (by rw [hc.1]; exact (hr.obj _ o l (nth_some ho) hl).1)⟩
    · cases h
  · split at h
    · rename_i o ho
      injection h with h; subst h
      simp only [allP, Con.h] at hc
      obtain ⟨l, hl, rfl⟩ := hx.ptr_inv hr ho hc.1
      refine ⟨_, rfl, ?_⟩
      rw [add_add, ← addO_eq]
      exact .ptr hl (by rw [hc.1]; exact (hr.obj _ o l (nth_some ho) hl).1)
    · cases h
  · injection h with h; subst h
    rename_i b off
    obtain rfl : u = .pointer (some ⟨b, off, none⟩) := by cases hx; rfl
    refine ⟨_, rfl, ?_⟩
    rw [add_plain', ← addO_eq]
    exact .gptr _ _
  · cases h

def aFieldAddr (E : Env) (s : TypeId) (x : AVal) (f : Nat) (T : Tab) : Option PV :=
  match E.ty s with
  | some ty => match ty.desc with
    | .struct fs => match nthF fs f with
      | some (off, ft) => match E.ty ft with
        | some fty => match fty.size with
          | 0 => none
          | _ + 1 => aAdd x off T
        | none => none
      | none => none
    | _ => none
  | none => none

theorem aFieldAddr_sound {E : Env} (hE : EnvOk E) (hr : HR E.gl ν T w) {s : TypeId} {x : AVal} {f : Nat} {r : PV} (h : aFieldAddr E s x f T = some r) (hc : allP r.1) {u : Value} (hx : VR ν x u) :
    ∃ z, (Instr.fieldAt s u f).run E.P w = .ok z w ∧ VR ν r.2 z := by
  unfold aFieldAddr at h
  split at h
  · rename_i ty hty
    split at h
    · rename_i fs hd
      split at h
      · rename_i off ft hf
        split at h
        · rename_i fty hfty
          split at h
          · cases h
          · rename_i n hsz
            obtain ⟨a, rfl, hv⟩ := aAdd_sound hr h hc hx
            obtain ⟨fields, h1, h2⟩ := (hE.ty s ty hty).struct hd
            rw [nthF_eq, ← h2] at hf
            have hf' : ∃ fl, fields[f]? = some fl ∧ fl.offset = off ∧ fl.type = ft := by
              simp only [List.getElem?_map, Option.map_eq_some_iff] at hf
              obtain ⟨fl, h3, h4⟩ := hf
              simp only [Prod.mk.injEq] at h4
              exact ⟨fl, by simpa using h3, h4.1, h4.2⟩
            obtain ⟨fl, h3, rfl, rfl⟩ := hf'
            have h5 := (hE.ty _ _ hfty).sizeOf w
            rw [hsz] at h5
            exact ⟨_, by simp [Instr.fieldAt, run_underlying h1, h3, Instr.sureAddr, fieldPlace, h5], hv⟩
        · cases h
      · cases h
    · cases h
  · cases h

def aIndexAddr (E : Env) (t : TypeId) (x ix : AVal) (T : Tab) : Option PV :=
  match E.ty t, ix with
  | some ty, .int k i => match ty.desc with
    | .array n e => match E.ty e with
      | some ety => match aAdd x (mulO i.toNat ety.size) T with
        | some (cs, v) => some (.leI 0 i :: .leI (i + 1) n :: cs, v)
        | none => none
      | none => none
    | .slice e => match E.ty e, x with
      | some ety, .slice sz p g off len cap => match nth T p, Nat.beq sz ety.size with
        | some o, true => some ([.eqN g o.g, .leI 0 i, .leI (i + 1) len], .ptr p g (addO off (mulO i.toNat sz)))
        | _, _ => none
      | _, _ => none
    | _ => none
  | _, _ => none

theorem aIndexAddr_sound {E : Env} (hE : EnvOk E) (hr : HR E.gl ν T w) {t : TypeId} {x ix : AVal} {r : PV} (h : aIndexAddr E t x ix T = some r) (hc : allP r.1) {u v : Value} (hx : VR ν x u) (hix : VR ν ix v) :
    ∃ z, (Instr.indexAt t u v).run E.P w = .ok z w ∧ VR ν r.2 z := by
  unfold aIndexAddr at h
  split at h
  · rename_i ty k i hty
    obtain rfl := hix.int_inv
    split at h
    · rename_i n e hd
      split at h
      · rename_i ety hety
        split at h
        · rename_i cs v' hadd
          injection h with h; subst h
          simp only [allP, Con.h] at hc
          obtain ⟨a, rfl, hv⟩ := aAdd_sound (r := (cs, v')) hr hadd hc.2.2 hx
          rw [mulO_eq] at hv
          have h5 := (hE.ty _ _ hety).sizeOf w
          exact ⟨_, by simp [Instr.indexAt, run_underlying ((hE.ty t ty hty).array hd), asIntOf, Instr.sureAddr, hc.1, Int.lt_of_add_one_le hc.2.1, h5], hv⟩
        · cases h
      · cases h
    · rename_i e hd
      split at h
      · rename_i ety sz p g off len cap hety
        split at h
        · rename_i o ho hsz
          injection h with h; subst h
          simp only [allP, Con.h] at hc
          have hsz' : sz = ety.size := Nat.eq_of_beq_eq_true hsz
          subst hsz'
          have h5 := (hE.ty _ _ hety).sizeOf w
          rcases hx.slice_inv hr ho hc.1 with ⟨l, b, c, hl, rfl, hs⟩ | ⟨bo, l, h0, _⟩
          · refine ⟨.pointer (some (b.add (i.toNat * ety.size))), by simp [Instr.indexAt, run_underlying ((hE.ty t ty hty).slice hd), asIntOf, hc.2.1, Int.lt_of_add_one_le hc.2.2.1, h5], ?_⟩
            rw [hs.2.2.1, add_add, addO_eq, mulO_eq]
            exact .ptr hl (by rw [hc.1]; exact (hr.obj _ o l (nth_some ho) hl).1)
          · omega
        · cases h
      · cases h
    · cases h
  · cases h

/-- a part of a struct or an array by value -/
def aPart (E : Env) (t : TypeId) (d : AVal) (off : Nat) : Option PV :=
  match E.ty t, asData d with
  | some ty, some d => match ty.desc.agg with
    | true => some ([.leN (off + ty.size) d.len], d.sub off ty.size)
    | false => some ([.leN (off + 1) d.len], d.get off)
  | _, _ => none

theorem aPart_sound {E : Env} (hE : EnvOk E) {t : TypeId} {d : AVal} {off : Nat} {r : PV} (h : aPart E t d off = some r) (hc : allP r.1) {cs : Array Value} (hx : VR ν d (.agg cs)) :
    ∃ z, (part t cs off).run E.P w = .ok z w ∧ VR ν r.2 z := by
  unfold aPart at h
  split at h
  · rename_i ty d' hty hd
    obtain ⟨rfl, hdd⟩ := asData_data hd
    have hcells := hx.cells
    simp only [Value.cells] at hcells
    have hsz : cs.size = d.len := by rw [← cells_len hdd, hcells.1]; simp
    have h5 := (hE.ty _ _ hty).sizeOf w
    have h6 := (hE.ty _ _ hty).isAgg w
    split at h
    · rename_i ha
      injection h with h; subst h
      simp only [allP, Con.h] at hc
      refine ⟨_, by simp [part, h6, ha, h5]; rfl, ?_⟩
      have : cs.extract off (off + ty.size) = ((cs.toList.drop off).take ty.size).toArray := by
        apply Array.ext'
        simp [Array.toList_extract, List.extract]
      rw [this]
      apply VR_of_VRs (sub_data hdd _ _)
      rw [sub_cells hdd]
      exact (hcells.drop off).take _
    · rename_i ha
      injection h with h; subst h
      simp only [allP, Con.h] at hc
      have hlt : off < cs.size := by omega
      refine ⟨cs[off], by simp [part, h6, ha, hlt], ?_⟩
      have := hcells.2 off (by rw [cells_len hdd]; exact hc.1)
      rw [cells_get hdd hc.1] at this
      simpa [List.getD, hlt] using this
  · cases h

theorem asData_agg {d d' : AVal} (h : asData d = some d') {x : Value} (hx : VR ν d x) : ∃ cs, x = .agg cs := by
  cases d <;> simp [asData] at h
  · cases hx; exact ⟨_, rfl⟩
  · cases hx; exact ⟨_, rfl⟩
theorem aPart_agg {E : Env} {t : TypeId} {d : AVal} {off : Nat} {r : PV} (h : aPart E t d off = some r) {x : Value} (hx : VR ν d x) : ∃ cs, x = .agg cs := by
  unfold aPart at h
  split at h
  · rename_i ty d' hty hd
    exact asData_agg hd hx
  · cases h

def aField (E : Env) (s : TypeId) (x : AVal) (f : Nat) : Option PV :=
  match E.ty s with
  | some ty => match ty.desc with
    | .struct fs => match nthF fs f with
      | some (off, ft) => aPart E ft x off
      | none => none
    | _ => none
  | none => none
theorem aField_sound {E : Env} (hE : EnvOk E) {s : TypeId} {x : AVal} {f : Nat} {r : PV} (h : aField E s x f = some r) (hc : allP r.1) {u : Value} (hx : VR ν x u) :
    ∃ z, (Instr.field s u f).run E.P w = .ok z w ∧ VR ν r.2 z := by
  unfold aField at h
  split at h
  · rename_i ty hty
    split at h
    · rename_i fs hd
      split at h
      · rename_i off ft hf
        obtain ⟨cs, rfl⟩ := aPart_agg h hx
        obtain ⟨z, hz, hv⟩ := aPart_sound (w := w) hE h hc hx
        obtain ⟨fields, h1, h2⟩ := (hE.ty s ty hty).struct hd
        rw [nthF_eq, ← h2] at hf
        have hf' : ∃ fl, fields[f]? = some fl ∧ fl.offset = off ∧ fl.type = ft := by
          simp only [List.getElem?_map, Option.map_eq_some_iff] at hf
          obtain ⟨fl, h3, h4⟩ := hf
          simp only [Prod.mk.injEq] at h4
          exact ⟨fl, by simpa using h3, h4.1, h4.2⟩
        obtain ⟨fl, h3, rfl, rfl⟩ := hf'
        exact ⟨z, by simp [Instr.field, run_underlying h1, h3, asAgg, hz], hv⟩
      · cases h
    · cases h
  · cases h

def aIndex (E : Env) (t : TypeId) (x ix : AVal) : Option PV :=
  match E.ty t, ix with
  | some ty, .int k i => match ty.desc with
    | .array n e => match E.ty e with
      | some ety => match aPart E e x (mulO i.toNat ety.size) with
        | some (cs, v) => some (.leI 0 i :: .leI (i + 1) n :: cs, v)
        | none => none
      | none => none
    | .str => match x with
      | .str s => some ([.leI 0 i, .leI (i + 1) s.length], .int .u8 ((s.getD i.toNat 0).toNat : Int))
      | _ => none
    | _ => none
  | _, _ => none
theorem aIndex_sound {E : Env} (hE : EnvOk E) {t : TypeId} {x ix : AVal} {r : PV} (h : aIndex E t x ix = some r) (hc : allP r.1) {u v : Value} (hx : VR ν x u) (hix : VR ν ix v) :
    ∃ z, (Instr.index t u v).run E.P w = .ok z w ∧ VR ν r.2 z := by
  unfold aIndex at h
  split at h
  · rename_i ty k i hty
    obtain rfl := hix.int_inv
    split at h
    · rename_i n e hd
      split at h
      · rename_i ety hety
        split at h
        · rename_i cs v' hp
          injection h with h; subst h
          simp only [allP, Con.h] at hc
          obtain ⟨cs', rfl⟩ := aPart_agg hp hx
          obtain ⟨z, hz, hv⟩ := aPart_sound (r := (cs, v')) (w := w) hE hp hc.2.2 hx
          rw [mulO_eq] at hz
          have h5 := (hE.ty _ _ hety).sizeOf w
          exact ⟨z, by simp [Instr.index, run_underlying ((hE.ty t ty hty).array hd), asIntOf, hc.1, Int.lt_of_add_one_le hc.2.1, h5, hz], hv⟩
        · cases h
      · cases h
    · rename_i hd
      split at h
      · rename_i s
        injection h with h; subst h
        simp only [allP, Con.h] at hc
        obtain rfl := hx.str_inv
        have hlt : i.toNat < s.length := by omega
        refine ⟨_, ?_, .int _ _⟩
        have hget : (ByteArray.mk s.toArray)[i.toNat]? = some (s[i.toNat]) := by
          have : i.toNat < (ByteArray.mk s.toArray).size := by simpa [ByteArray.size] using hlt
          rw [getElem?_pos (ByteArray.mk s.toArray) i.toNat this]
          rfl
        simp only [Instr.index, Sem.run_bind, asIntOf, Sem.run_pure, Result.andThen_ok, run_underlying ((hE.ty t ty hty).str hd), hc.1, if_true, hget]
        simp [List.getD, hlt]
      · cases h
    · cases h
  · cases h
end
end Go.Abs

set_option linter.unusedVariables false
set_option linter.unusedSimpArgs false
namespace Go.Abs

section
variable {P : Program} {gl : Nat → Option AVal} {ν : Nu} {T : Tab} {w : World}

/-! ### slices of slices -/
def natOf : Option AVal → Nat → Option (List Con × Nat)
  | none, n => some ([], n)
  | some (.int _ i), _ => some ([.leI 0 i], i.toNat)
  | _, _ => none
def subO (a b : Nat) : Nat := match b with | 0 => a | _ => a - b
theorem subO_eq (a b : Nat) : subO a b = a - b := by unfold subO; split <;> simp

theorem natOf_spec {x : Option AVal} {n m : Nat} {cs : List Con} (h : natOf x n = some (cs, m)) (hc : allP cs) {u : Option Value} (hu : match x, u with | none, none => True | some x, some u => VR ν x u | _, _ => False) :
    (x = none ∧ u = none ∧ m = n) ∨ (∃ k, u = some (.int k (m : Int))) := by
  unfold natOf at h
  split at h
  · injection h with h; injection h with h1 h2
    cases u with
    | none => exact .inl ⟨rfl, rfl, h2.symm⟩
    | some u => exact absurd hu (by simp)
  · injection h with h; injection h with h1 h2
    subst h1; subst h2
    cases u with
    | none => exact absurd hu (by simp)
    | some u =>
      simp only at hu
      obtain rfl := hu.int_inv
      simp only [allP, Con.h] at hc
      rename_i k i
      exact .inr ⟨k, by rw [Int.toNat_of_nonneg hc.1]⟩
  · cases h

theorem run_sliceBound {k : IntKind} {m y : Nat} (h : m ≤ y) (code : BoundsCode) : (Instr.sliceBound (.int k (m : Int)) y code).run P w = .ok m w := by
  have h1 : ((m : Int) ≤ (y : Int)) := by omega
  simp [Instr.sliceBound, asIntOf, h1]

/-- the bounds as the model reckons them -/
theorem run_sliceBounds {isS : Bool} {len cap L H M : Nat} {lo hi mx : Option Value} (hlo : (lo = none ∧ L = 0) ∨ ∃ k, lo = some (.int k (L : Int))) (hhi : (hi = none ∧ H = len) ∨ ∃ k, hi = some (.int k (H : Int)))
    (hmx : (mx = none ∧ M = cap) ∨ ∃ k, mx = some (.int k (M : Int))) (hmh : mx = none ∨ ∃ k, hi = some (.int k (H : Int))) (h1 : L ≤ H) (h2 : hi = none ∨ H ≤ M) (h3 : M ≤ cap) :
    (Instr.sliceBounds isS len cap lo hi mx).run P w = .ok (L, H, M) w := by
  have bm := fun k code => run_sliceBound (P := P) (w := w) (k := k) (m := M) (y := cap) h3 code
  have bl := fun k code => run_sliceBound (P := P) (w := w) (k := k) (m := L) (y := H) h1 code
  rcases hmx with ⟨rfl, rfl⟩ | ⟨km, rfl⟩
  · rcases hhi with ⟨rfl, rfl⟩ | ⟨kh, rfl⟩
    · rcases hlo with ⟨rfl, rfl⟩ | ⟨kl, rfl⟩ <;> cases isS <;> simp [Instr.sliceBounds, bl]
    · have h2' : H ≤ M := h2.resolve_left (by simp)
      have bh := fun code => run_sliceBound (P := P) (w := w) (k := kh) (m := H) (y := M) h2' code
      rcases hlo with ⟨rfl, rfl⟩ | ⟨kl, rfl⟩ <;> cases isS <;> simp [Instr.sliceBounds, bh, bl]
  · obtain ⟨kh, rfl⟩ := hmh.resolve_left (by simp)
    have h2' : H ≤ M := h2.resolve_left (by simp)
    have bh := fun code => run_sliceBound (P := P) (w := w) (k := kh) (m := H) (y := M) h2' code
    rcases hlo with ⟨rfl, rfl⟩ | ⟨kl, rfl⟩ <;> cases isS <;> simp [Instr.sliceBounds, bm, bh, bl]

def capAfter (cap mx : Option Nat) (L : Nat) : Option Nat :=
  match mx with
  | some m => some (subO m L)
  | none => match cap with
    | some c => some (subO c L)
    | none => none

/-- the bound on high: what is known of the capacity -/
def highOk (sz off len dlen H : Nat) (cap : Option Nat) : Prop :=
  match cap with
  | some c => H ≤ c
  | none => H ≤ len ∨ off + H * sz ≤ dlen

def highC (sz off len dlen H : Nat) (cap : Option Nat) : Con :=
  match cap with
  | some c => .leN H c
  | none => .orN H len (off + mulO H sz) dlen
theorem highC_ok {sz off len dlen H : Nat} {cap : Option Nat} : (highC sz off len dlen H cap).h = highOk sz off len dlen H cap := by
  cases cap <;> simp [highC, highOk, Con.h, mulO_eq]

def mxOf : Option AVal → Option (List Con × Option Nat)
  | none => some ([], none)
  | some (.int _ i) => some ([.leI 0 i], some i.toNat)
  | _ => none

def aSlice (E : Env) (t : TypeId) (x : AVal) (lo hi mx : Option AVal) (T : Tab) : Option PV :=
  match E.ty t with
  | some ty => match ty.desc, x with
    | .str, .str s => match natOf lo 0, natOf hi s.length, mx with
      | some (c1, L), some (c2, H), none => some (c1 ++ c2 ++ [.leN L H, .leN H s.length], .str ((s.take H).drop L))
      | _, _, _ => none
    | .slice e, .nilSlice => match E.ty e, natOf lo 0, natOf hi 0, mx with
      | some ety, some (c1, L), some (c2, H), none => some (c1 ++ c2 ++ [.eqN L 0, .eqN H 0], .nilSlice)
      | _, _, _, _ => none
    | .slice e, .slice sz p g off len cap => match E.ty e, nth T p, natOf lo 0, natOf hi len, mxOf mx with
      | some ety, some o, some (c1, L), some (c2, H), some (c3, M) =>
        match Nat.beq sz ety.size, sz, hi, M with
        | true, _ + 1, none, none => some (c1 ++ [.eqN g o.g, .leN L len], .slice sz p g (addO off (mulO L sz)) (subO len L) (capAfter cap none L))
        | true, _ + 1, some _, none => some (c1 ++ c2 ++ [.eqN g o.g, .leN L H, highC sz off len o.data.len H cap], .slice sz p g (addO off (mulO L sz)) (subO H L) (capAfter cap none L))
        | true, _ + 1, some _, some m => some (c1 ++ c2 ++ c3 ++ [.eqN g o.g, .leN L H, .leN H m, highC sz off len o.data.len m cap], .slice sz p g (addO off (mulO L sz)) (subO H L) (some (subO m L)))
        | _, _, _, _ => none
      | _, _, _, _, _ => none
    | .array n e, x => match E.ty e, natOf lo 0, natOf hi n, mx with
      | some ety, some (c1, L), some (c2, H), none =>
        match ety.size, x with
        | s + 1, .var p g => match nth T p with
          | some o => some (c1 ++ c2 ++ [.eqN g o.g, .leN L H, .leN H n, .leN (n * ety.size) o.data.len], .slice (s + 1) p g (mulO L ety.size) (subO H L) (some (subO n L)))
          | none => none
        | s + 1, .ptr p g off => match nth T p with
          | some o => some (c1 ++ c2 ++ [.eqN g o.g, .leN L H, .leN H n, .leN (off + n * ety.size) o.data.len], .slice (s + 1) p g (addO off (mulO L ety.size)) (subO H L) (some (subO n L)))
          | none => none
        | _, _ => none
      | _, _, _, _ => none
    | _, _ => none
  | none => none

/-- what the model makes of a slice: its value, related -/
theorem slice_VR {sz p g off len : Nat} {cap : Option Nat} {l : Loc} {b : Addr} {c : Nat} (hl : ν p = some l) (hg : g = l.g) (hs : SlRel l sz off len cap b c) (hsz : 0 < sz) {L H m : Nat} {mx : Option Nat} (h1 : L ≤ H) (h2 : H ≤ m) (h3 : m ≤ c)
    (hm : (mx = none ∧ m = c) ∨ mx = some m) :
    VR ν (.slice sz p g (addO off (mulO L sz)) (subO H L) (capAfter cap mx L)) (.slice (if m = L then some b else (some b).map (·.add (L * sz))) (H - L) (m - L)) := by
  obtain ⟨s1, s2, s3, s4, s5⟩ := hs
  have hLm : L * sz ≤ m * sz := Nat.mul_le_mul_right _ (by omega)
  have hmc : m * sz ≤ c * sz := Nat.mul_le_mul_right _ h3
  rw [addO_eq, mulO_eq, subO_eq]
  by_cases e : m = L
  · subst e
    have hH : H = m := by omega
    subst hH
    simp only [if_true, Nat.sub_self]
    refine .sliceZ _ hl hg ?_
    rcases hm with ⟨rfl, rfl⟩ | rfl
    · unfold capAfter
      cases cap with
      | none => exact .inr ⟨rfl, by have := s5 rfl; omega⟩
      | some k =>
        have := s2 k rfl
        subst this
        exact .inl (by simp [subO_eq])
    · exact .inl (by simp [capAfter, subO_eq])
  · rw [if_neg e]
    refine .slice hl hg ⟨by omega, ?_, ?_, ?_, ?_⟩
    · intro k hk
      rcases hm with ⟨rfl, rfl⟩ | rfl
      · unfold capAfter at hk
        cases cap with
        | none => cases hk
        | some k' =>
          have := s2 k' rfl
          subst this
          simpa [subO_eq] using hk
      · simpa [capAfter, subO_eq] using hk
    · show b.add (L * sz) = _; rw [s3, add_add]
    · rw [Nat.sub_mul]; omega
    · intro hn
      rcases hm with ⟨rfl, rfl⟩ | rfl
      · cases cap with
        | none => have := s5 rfl; rw [Nat.sub_mul]; omega
        | some k => simp [capAfter] at hn
      · simp [capAfter] at hn

theorem high_le {sz off len dlen H c : Nat} {cap : Option Nat} {l : Loc} {b : Addr} (hs : SlRel l sz off len cap b c) (hd : dlen ≤ l.room) (hsz : 0 < sz) (h : (highC sz off len dlen H cap).h) : H ≤ c := by
  rw [highC_ok] at h
  obtain ⟨s1, s2, s3, s4, s5⟩ := hs
  unfold highOk at h
  cases cap with
  | some k => have := s2 k rfl; simp only at h; omega
  | none =>
    simp only at h
    rcases h with h | h
    · omega
    · have := s5 rfl
      have h2 : H * sz ≤ c * sz := by omega
      exact Nat.le_of_mul_le_mul_right h2 hsz

theorem high_zero {sz off dlen H : Nat} {cap : Option Nat} {l : Loc} (hc : cap = some 0 ∨ (cap = none ∧ l.room ≤ off)) (hd : dlen ≤ l.room) (hsz : 0 < sz) (h : (highC sz off 0 dlen H cap).h) : H = 0 := by
  rw [highC_ok] at h
  unfold highOk at h
  rcases hc with rfl | ⟨rfl, hr⟩
  · simpa using h
  · simp only at h
    rcases h with h | h
    · omega
    · have : H * sz = 0 := by omega
      rcases Nat.mul_eq_zero.1 this with h | h <;> omega

/-- operands that may be absent -/
def VRo (ν : Nu) : Option AVal → Option Value → Prop
  | none, none => True
  | some x, some u => VR ν x u
  | _, _ => False

theorem natOf_ok {x : Option AVal} {n m : Nat} {cs : List Con} (h : natOf x n = some (cs, m)) (hc : allP cs) {u : Option Value} (hu : VRo ν x u) : (u = none ∧ m = n) ∨ (∃ k, u = some (.int k (m : Int))) := by
  rcases natOf_spec (ν := ν) h hc (u := u) (by cases x <;> cases u <;> simp [VRo] at hu ⊢ <;> exact hu) with ⟨_, h1, h2⟩ | h1
  · exact .inl ⟨h1, h2⟩
  · exact .inr h1
theorem VRo_none {u : Option Value} (h : VRo ν none u) : u = none := by cases u <;> simp [VRo] at h ⊢
theorem VRo_some {x : AVal} {u : Option Value} (h : VRo ν (some x) u) : ∃ v, u = some v ∧ VR ν x v := by cases u <;> simp [VRo] at h ⊢; exact h
theorem natOf_some {x : AVal} {n m : Nat} {cs : List Con} (h : natOf (some x) n = some (cs, m)) (hc : allP cs) {u : Option Value} (hu : VRo ν (some x) u) : ∃ k, u = some (.int k (m : Int)) := by
  rcases natOf_ok h hc hu with ⟨rfl, _⟩ | h1
  · simp [VRo] at hu
  · exact h1
theorem natOf_none {n m : Nat} {cs : List Con} (h : natOf none n = some (cs, m)) {u : Option Value} (hu : VRo ν none u) : u = none ∧ m = n := by
  simp only [natOf] at h; injection h with h; injection h with h1 h2
  exact ⟨VRo_none hu, h2.symm⟩
theorem mxOf_some {x : Option AVal} {m : Nat} {cs : List Con} (h : mxOf x = some (cs, some m)) (hc : allP cs) {u : Option Value} (hu : VRo ν x u) : ∃ k, u = some (.int k (m : Int)) := by
  unfold mxOf at h
  split at h
  · injection h with h; injection h with h1 h2; cases h2
  · injection h with h; injection h with h1 h2
    injection h2 with h2
    subst h1; subst h2
    obtain ⟨v, rfl, hv⟩ := VRo_some hu
    obtain rfl := hv.int_inv
    simp only [allP, Con.h] at hc
    rename_i k i
    exact ⟨k, by rw [Int.toNat_of_nonneg hc.1]⟩
  · cases h
theorem mxOf_none {x : Option AVal} {cs : List Con} (h : mxOf x = some (cs, none)) {u : Option Value} (hu : VRo ν x u) : u = none := by
  unfold mxOf at h
  split at h
  · exact VRo_none hu
  · injection h with h; injection h with h1 h2; cases h2
  · cases h

theorem run_slice_slice {t e : TypeId} {ty ety : Ty} (h : TyOk P t ty) (hd : ty.desc = .slice e) (he : TyOk P e ety) {a : Option Addr} {len cap L H M : Nat} {lo hi mx : Option Value}
    (hb : (Instr.sliceBounds true len cap lo hi mx).run P w = .ok (L, H, M) w) :
    (Instr.sliceAt t (.slice a len cap) lo hi mx).run P w = .ok (.slice (if M = L then a else a.map (·.add (L * ety.size))) (H - L) (M - L)) w := by
  have hu := run_underlying (h.slice hd) w
  simp [Instr.sliceAt, Instr.slice, hu, hb, he.sizeOf]

theorem run_slice_array {t e : TypeId} {ty ety : Ty} {n : Nat} (h : TyOk P t ty) (hd : ty.desc = .array n e) (he : TyOk P e ety) {a : Addr} {L H M : Nat} {lo hi mx : Option Value}
    (hb : (Instr.sliceBounds false n n lo hi mx).run P w = .ok (L, H, M) w) :
    (Instr.sliceAt t (.pointer (some a)) lo hi mx).run P w = .ok (.slice (some (if M = L then a else a.add (L * ety.size))) (H - L) (M - L)) w := by
  have hu := run_underlying (h.array hd) w
  simp [Instr.sliceAt, Instr.sureAddr, hu, hb, he.sizeOf]

theorem aSlice_sound {E : Env} (hE : EnvOk E) (hr : HR E.gl ν T w) {t : TypeId} {x : AVal} {lo hi mx : Option AVal} {r : PV} (h : aSlice E t x lo hi mx T = some r) (hc : allP r.1)
    {u : Value} {ulo uhi umx : Option Value} (hx : VR ν x u) (hlo : VRo ν lo ulo) (hhi : VRo ν hi uhi) (hmx : VRo ν mx umx) :
    ∃ z, (Instr.sliceAt t u ulo uhi umx).run E.P w = .ok z w ∧ VR ν r.2 z := by
  unfold aSlice at h
  split at h
  rotate_left
  · cases h
  rename_i ty hty
  have hok := hE.ty t ty hty
  split at h
  · -- strings
    rename_i s hd
    split at h
    · rename_i c1 L c2 H h1 h2
      injection h with h; subst h
      simp only [allP_append, allP, Con.h] at hc
      obtain rfl := hx.str_inv
      obtain rfl := VRo_none hmx
      have b1 := natOf_ok h1 hc.1.1 hlo
      have b2 := natOf_ok h2 hc.1.2 hhi
      have hb := run_sliceBounds (P := E.P) (w := w) (isS := false) (len := s.length) (cap := s.length) (L := L) (H := H) (M := s.length) b1 b2 (.inl ⟨rfl, rfl⟩) (.inl rfl) hc.2.1 (.inr hc.2.2.1) (Nat.le_refl _)
      refine ⟨.string ⟨((s.take H).drop L).toArray⟩, ?_, .str _⟩
      have he : (ByteArray.mk s.toArray).extract L H = ⟨((s.take H).drop L).toArray⟩ := by
        apply ByteArray.ext
        rw [ByteArray.data_extract]
        apply Array.ext'
        simp [Array.toList_extract, List.extract, List.drop_take]
      have hsz : (ByteArray.mk s.toArray).size = s.length := by simp [ByteArray.size]
      have hu := run_underlying (hok.str hd) w
      simp [Instr.sliceAt, Instr.slice, hu, hsz, hb, he]
    · cases h
  · -- nil
    rename_i e hd
    split at h
    · rename_i ety c1 L c2 H hety h1 h2
      injection h with h; subst h
      simp only [allP_append, allP, Con.h] at hc
      obtain rfl := hx.nilSlice_inv
      obtain rfl := VRo_none hmx
      have b1 := natOf_ok h1 hc.1.1 hlo
      have b2 := natOf_ok h2 hc.1.2 hhi
      obtain ⟨rfl, rfl, _⟩ := hc.2
      have hb := run_sliceBounds (P := E.P) (w := w) (isS := true) (len := 0) (cap := 0) (L := 0) (H := 0) (M := 0) b1 b2 (.inl ⟨rfl, rfl⟩) (.inl rfl) (Nat.le_refl _) (.inr (Nat.le_refl _)) (Nat.le_refl _)
      refine ⟨.slice none 0 0, ?_, .nilSlice⟩
      have := run_slice_slice (a := none) hok hd (hE.ty e ety hety) hb
      simpa using this
    · cases h
  · rename_i e sz p g off len cap hd
    split at h
    rotate_left
    · cases h
    rename_i ety o c1 L c2 H c3 M hety ho h1 h2 h3
    have heok := hE.ty e ety hety
    split at h
    · -- low alone
      rename_i n hbeq
      have hsz : n + 1 = ety.size := Nat.eq_of_beq_eq_true hbeq
      injection h with h; subst h
      simp only [allP_append, allP, Con.h] at hc
      have b1 := natOf_ok h1 hc.1 hlo
      obtain ⟨rfl, rfl⟩ := natOf_none h2 hhi
      obtain rfl := mxOf_none h3 hmx
      rcases hx.slice_inv hr ho hc.2.1 with ⟨l, b, c, hl, rfl, hs⟩ | ⟨bo, l, rfl, rfl, hl, hz⟩
      · have hb := run_sliceBounds (P := E.P) (w := w) (isS := true) (len := H) (cap := c) (L := L) (H := H) (M := c) b1 (.inl ⟨rfl, rfl⟩) (.inl ⟨rfl, rfl⟩) (.inl rfl) hc.2.2.1 (.inl rfl) (Nat.le_refl _)
        refine ⟨_, run_slice_slice hok hd heok hb, ?_⟩
        rw [← hsz]
        exact slice_VR hl (hc.2.1.trans (hr.obj _ o l (nth_some ho) hl).1) hs (by omega) hc.2.2.1 hs.1 (Nat.le_refl _) (.inl ⟨rfl, rfl⟩)
      · have hL : L = 0 := by omega
        subst hL
        have hb := run_sliceBounds (P := E.P) (w := w) (isS := true) (len := 0) (cap := 0) (L := 0) (H := 0) (M := 0) b1 (.inl ⟨rfl, rfl⟩) (.inl ⟨rfl, rfl⟩) (.inl rfl) (Nat.le_refl _) (.inl rfl) (Nat.le_refl _)
        refine ⟨_, run_slice_slice hok hd heok hb, ?_⟩
        simp only [if_true, Nat.sub_self, subO_eq, addO_eq, mulO_eq, Nat.zero_mul, Nat.add_zero, Nat.sub_zero]
        refine .sliceZ _ hl (hc.2.1.trans (hr.obj _ o l (nth_some ho) hl).1) ?_
        rcases hz with rfl | ⟨rfl, hz⟩
        · exact .inl (by simp [capAfter, subO_eq])
        · exact .inr ⟨by simp [capAfter], hz⟩
    · -- high, no max
      rename_i n hi' hbeq
      have hsz : n + 1 = ety.size := Nat.eq_of_beq_eq_true hbeq
      injection h with h; subst h
      simp only [allP_append, allP, Con.h] at hc
      have b1 := natOf_ok h1 hc.1.1 hlo
      obtain ⟨kh, rfl⟩ := natOf_some h2 hc.1.2 hhi
      obtain rfl := mxOf_none h3 hmx
      rcases hx.slice_inv hr ho hc.2.1 with ⟨l, b, c, hl, rfl, hs⟩ | ⟨bo, l, rfl, rfl, hl, hz⟩
      · have hob := hr.obj _ o l (nth_some ho) hl
        have hHc := high_le hs hob.2.room (by omega) hc.2.2.2.1
        have hb := run_sliceBounds (P := E.P) (w := w) (isS := true) (len := len) (cap := c) (L := L) (H := H) (M := c) b1 (.inr ⟨kh, rfl⟩) (.inl ⟨rfl, rfl⟩) (.inl rfl) hc.2.2.1 (.inr hHc) (Nat.le_refl _)
        refine ⟨_, run_slice_slice hok hd heok hb, ?_⟩
        rw [← hsz]
        exact slice_VR hl (hc.2.1.trans hob.1) hs (by omega) hc.2.2.1 hHc (Nat.le_refl _) (.inl ⟨rfl, rfl⟩)
      · have hob := hr.obj _ o l (nth_some ho) hl
        have hH : H = 0 := high_zero hz hob.2.room (by omega) hc.2.2.2.1
        subst hH
        have hL : L = 0 := by omega
        subst hL
        have hb := run_sliceBounds (P := E.P) (w := w) (isS := true) (len := 0) (cap := 0) (L := 0) (H := 0) (M := 0) b1 (.inr ⟨kh, rfl⟩) (.inl ⟨rfl, rfl⟩) (.inl rfl) (Nat.le_refl _) (.inr (Nat.le_refl _)) (Nat.le_refl _)
        refine ⟨_, run_slice_slice hok hd heok hb, ?_⟩
        simp only [if_true, Nat.sub_self, subO_eq, addO_eq, mulO_eq, Nat.zero_mul, Nat.add_zero, Nat.sub_zero]
        refine .sliceZ _ hl (hc.2.1.trans hob.1) ?_
        rcases hz with rfl | ⟨rfl, hz⟩
        · exact .inl (by simp [capAfter, subO_eq])
        · exact .inr ⟨by simp [capAfter], hz⟩
    · -- high and max
      rename_i n hi' m hbeq
      have hsz : n + 1 = ety.size := Nat.eq_of_beq_eq_true hbeq
      injection h with h; subst h
      simp only [allP_append, allP, Con.h] at hc
      have b1 := natOf_ok h1 hc.1.1.1 hlo
      obtain ⟨kh, rfl⟩ := natOf_some h2 hc.1.1.2 hhi
      obtain ⟨km, rfl⟩ := mxOf_some h3 hc.1.2 hmx
      rcases hx.slice_inv hr ho hc.2.1 with ⟨l, b, c, hl, rfl, hs⟩ | ⟨bo, l, rfl, rfl, hl, hz⟩
      · have hob := hr.obj _ o l (nth_some ho) hl
        have hMc := high_le hs hob.2.room (by omega) hc.2.2.2.2.1
        have hb := run_sliceBounds (P := E.P) (w := w) (isS := true) (len := len) (cap := c) (L := L) (H := H) (M := m) b1 (.inr ⟨kh, rfl⟩) (.inr ⟨km, rfl⟩) (.inr ⟨kh, rfl⟩) hc.2.2.1 (.inr hc.2.2.2.1) hMc
        refine ⟨_, run_slice_slice hok hd heok hb, ?_⟩
        rw [← hsz]
        exact slice_VR (mx := some m) hl (hc.2.1.trans hob.1) hs (by omega) hc.2.2.1 hc.2.2.2.1 hMc (.inr rfl)
      · have hob := hr.obj _ o l (nth_some ho) hl
        have hM : m = 0 := high_zero hz hob.2.room (by omega) hc.2.2.2.2.1
        subst hM
        have hH : H = 0 := by omega
        subst hH
        have hL : L = 0 := by omega
        subst hL
        have hb := run_sliceBounds (P := E.P) (w := w) (isS := true) (len := 0) (cap := 0) (L := 0) (H := 0) (M := 0) b1 (.inr ⟨kh, rfl⟩) (.inr ⟨km, rfl⟩) (.inr ⟨kh, rfl⟩) (Nat.le_refl _) (.inr (Nat.le_refl _)) (Nat.le_refl _)
        refine ⟨_, run_slice_slice hok hd heok hb, ?_⟩
        simp only [if_true, Nat.sub_self, subO_eq, addO_eq, mulO_eq, Nat.zero_mul, Nat.add_zero, Nat.sub_zero]
        exact .sliceZ _ hl (hc.2.1.trans hob.1) (.inl rfl)
    · cases h
  · -- arrays
    rename_i n e hd
    split at h
    rotate_left
    · cases h
    rename_i ety c1 L c2 H hety h1 h2
    have heok := hE.ty e ety hety
    split at h
    · rename_i s p g hsz
      split at h
      rotate_left
      · cases h
      rename_i o ho
      injection h with h; subst h
      simp only [allP_append, allP, Con.h] at hc
      have b1 := natOf_ok h1 hc.1.1 hlo
      have b2 := natOf_ok h2 hc.1.2 hhi
      obtain rfl := VRo_none hmx
      obtain ⟨l, hl, rfl⟩ := hx.var_inv hr ho hc.2.1
      have hob := hr.obj _ o l (nth_some ho) hl
      have hb := run_sliceBounds (P := E.P) (w := w) (isS := false) (len := n) (cap := n) (L := L) (H := H) (M := n) b1 b2 (.inl ⟨rfl, rfl⟩) (.inl rfl) hc.2.2.1 (.inr hc.2.2.2.1) (Nat.le_refl _)
      refine ⟨_, run_slice_array hok hd heok hb, ?_⟩
      have := slice_VR (ν := ν) (sz := s + 1) (p := p) (g := g) (off := 0) (len := n) (cap := some n) (b := l.a) (c := n) (mx := none) hl (hc.2.1.trans hob.1) ⟨Nat.le_refl _, (by intro k hk; injection hk), (by simp [Addr.add]), (by have := hob.2.room; have h5 := hc.2.2.2.2.1; rw [hsz] at h5; simp only [Nat.succ_eq_add_one] at h5; omega), (by intro hn; cases hn)⟩ (by omega) hc.2.2.1 hc.2.2.2.1 (Nat.le_refl _) (.inl ⟨rfl, rfl⟩)
      rw [hsz]
      have e1 : addO 0 (mulO L (s + 1)) = mulO L (s + 1) := rfl
      rw [e1] at this
      split at this <;> rename_i hcond
      · rw [if_pos hcond]; exact this
      · rw [if_neg hcond]; exact this
    · rename_i s p g off hsz
      split at h
      rotate_left
      · cases h
      rename_i o ho
      injection h with h; subst h
      simp only [allP_append, allP, Con.h] at hc
      have b1 := natOf_ok h1 hc.1.1 hlo
      have b2 := natOf_ok h2 hc.1.2 hhi
      obtain rfl := VRo_none hmx
      obtain ⟨l, hl, rfl⟩ := hx.ptr_inv hr ho hc.2.1
      have hob := hr.obj _ o l (nth_some ho) hl
      have hb := run_sliceBounds (P := E.P) (w := w) (isS := false) (len := n) (cap := n) (L := L) (H := H) (M := n) b1 b2 (.inl ⟨rfl, rfl⟩) (.inl rfl) hc.2.2.1 (.inr hc.2.2.2.1) (Nat.le_refl _)
      refine ⟨_, run_slice_array hok hd heok hb, ?_⟩
      have := slice_VR (ν := ν) (sz := s + 1) (p := p) (g := g) (off := off) (len := n) (cap := some n) (b := l.a.add off) (c := n) (mx := none) hl (hc.2.1.trans hob.1) ⟨Nat.le_refl _, (by intro k hk; injection hk), rfl, (by have := hob.2.room; have h5 := hc.2.2.2.2.1; rw [hsz] at h5; simp only [Nat.succ_eq_add_one] at h5; omega), (by intro hn; cases hn)⟩ (by omega) hc.2.2.1 hc.2.2.2.1 (Nat.le_refl _) (.inl ⟨rfl, rfl⟩)
      rw [hsz]
      split at this <;> rename_i hcond
      · rw [if_pos hcond]; exact this
      · rw [if_neg hcond]; exact this
    · cases h
  · cases h
end
end Go.Abs

set_option linter.unusedVariables false
set_option linter.unusedSimpArgs false
namespace Go.Abs

section
variable {P : Program} {gl : Nat → Option AVal} {ν : Nu} {T : Tab} {w : World}

theorem HR.push (h : HR gl ν T w) : HR gl ν (T ++ [none]) w ∧ (∀ b, Own ν (T ++ [none]) b → Own ν T b) ∧ ν T.length = none := by
  have hn : ν T.length = none := by
    cases hq : ν T.length with
    | none => rfl
    | some l => have := h.lt _ l hq; omega
  have back : ∀ (q : Nat) (o : AObj), (T ++ [none])[q]? = some (some o) → T[q]? = some (some o) := by
    intro q o hq
    rw [List.getElem?_append] at hq
    split at hq
    · exact hq
    · rename_i hlt
      have : q - T.length = 0 ∨ 0 < q - T.length := by omega
      rcases this with h0 | h0
      · rw [h0] at hq; simp at hq
      · rw [List.getElem?_eq_none (by simp; omega)] at hq; cases hq
  have hown : ∀ b, Own ν (T ++ [none]) b → Own ν T b := by
    rintro b ⟨q, oq, lq, hTq, r⟩
    exact ⟨q, oq, lq, back q oq hTq, r⟩
  refine ⟨⟨fun p o l ho hl => h.obj p o l (back p o ho) hl, fun p l hl => by have := h.lt p l hl; simp; omega, fun p hp => ?_, h.blk, fun p q o o' l l' ho ho' => h.sep p q o o' l l' (back p o ho) (back q o' ho'), fun b d hb => ?_, fun p o l ho hl => (h.fam p o l (back p o ho) hl).sub hown⟩, hown, hn⟩
  · rw [List.getElem?_append] at hp
    split at hp
    · exact h.hole p hp
    · rename_i hlt
      have : p = T.length := by
        rcases Nat.eq_or_lt_of_le (Nat.le_of_not_lt hlt) with h1 | h1
        · exact h1.symm
        · rw [List.getElem?_eq_none (by simp; omega)] at hp; cases hp
      rw [this]; exact hn
  · obtain ⟨h1, h2⟩ := h.glob b d hb
    exact ⟨fun h3 => h1 (hown b h3), h2⟩

def emptyOf (z : AVal) : AVal := rep 0 z
theorem emptyOf_cells (z : AVal) : (emptyOf z).cells = [] := by rw [emptyOf, rep_cells]; rfl

/-- what is appended: constraints, how many elements, their cells -/
def appSrc (E : Env) (xT : TypeId) (ety : Ty) (x : AVal) (T : Tab) : Option (List Con × Nat × AVal) :=
  match E.ty xT with
  | none => none
  | some xty => match xty.desc, x with
    | .slice _, .nilSlice => some ([], 0, emptyOf ety.zero)
    | .slice _, .slice sz p g off len cap => match nth T p, Nat.beq sz ety.size with
      | some o, true => some ([.eqN g o.g, .leN (off + mulO len sz) o.data.len, .tt (oneCells o.data)], len, o.data.sub off (mulO len sz))
      | _, _ => none
    | .slice _, .frow p g i n => match nth T p, ety.size with
      | some o, 1 => match o.data with
        | .fam Z => some ([.eqN g o.g], n, .ints .u8 (Z.getD i []))
        | _ => none
      | _, _ => none
    | .str, .str s => match ety.size with
      | 1 => some ([], s.length, .ints .u8 (s.map fun b => (b.toNat : Int)))
      | _ => none
    | .int _, .int _ n => some ([.leI 0 n, .leI n 9223372036854775807, .leN (mulO n.toNat ety.bytes) 281474976710656, .tt (oneCells (rep n.toNat ety.zero))], n.toNat, rep n.toNat ety.zero)
    | _, _ => none

theorem appSrc_sound {E : Env} (hE : EnvOk E) (hr : HR E.gl ν T w) {t xT e : TypeId} {ety : Ty} (ht : E.P.underlying t = some (.slice e)) (hety : E.ty e = some ety) {x : AVal} {cs : List Con} {m : Nat} {ev : AVal}
    (h : appSrc E xT ety x T = some (cs, m, ev)) (hc : allP cs) {u : Value} (hx : VR ν x u) (ty : TypeId) :
    ∃ i z news, E.P.info? e = some i ∧ i.zero = some z ∧ i.size = ety.size ∧ i.bytes = ety.bytes ∧ z.cells.size = i.size ∧ App E.P ν w t xT ty e i z u m ev news := by
  obtain ⟨i, z, hi, hz, hsz, hby, hzc, hzv⟩ := (hE.ty e ety hety).info
  unfold appSrc at h
  split at h
  · cases h
  · rename_i xty hxty
    have hxok := hE.ty xT xty hxty
    split at h
    · rename_i e' hd
      injection h with h; injection h with h1 h; injection h with h2 h3
      subst h1; subst h2; subst h3
      obtain rfl := hx.nilSlice_inv
      exact ⟨i, z, [], hi, hz, hsz, hby, by rw [hzc, hsz], App.empty ht (hxok.slice hd) rfl hi hz none 0 (emptyOf_cells _)⟩
    · rename_i e' sz p g off len cap hd
      split at h
      · rename_i o ho hbeq
        injection h with h; injection h with h1 h; injection h with h2 h3
        subst h1; subst h2; subst h3
        have hs : sz = ety.size := Nat.eq_of_beq_eq_true hbeq
        subst hs
        simp only [allP, Con.h] at hc
        rw [mulO_eq] at *
        rcases hx.slice_inv hr ho hc.1 with ⟨l, b, c, hl, rfl, hs⟩ | ⟨bo, l, rfl, rfl, hl, hz'⟩
        · have := App.slice (P := E.P) (ty := ty) hr ht (hxok.slice hd) rfl hi hz (nth_some ho) hl (off := off) (m := len) (c := c) (by rw [hsz]; exact hc.2.1) hc.2.2.1
          obtain ⟨news, hn⟩ := this
          rw [hsz] at hn
          rw [hs.2.2.1]
          exact ⟨i, z, news, hi, hz, hsz, hby, by rw [hzc, hsz], hn⟩
        · have hd' := (hr.obj p o l (nth_some ho) hl).2.1
          exact ⟨i, z, [], hi, hz, hsz, hby, by rw [hzc, hsz], App.empty ht (hxok.slice hd) rfl hi hz bo 0 (by rw [sub_cells hd']; simp)⟩
      · cases h
    · rename_i e' p g ii n hd
      split at h
      rotate_left
      · cases h
      rename_i o ho h1
      split at h
      rotate_left
      · cases h
      rename_i Z hZ
      injection h with h; injection h with e1 h; injection h with e2 e3
      subst e1; subst e2; subst e3
      simp only [allP, Con.h] at hc
      obtain ⟨bo, c, rfl, hi', hlen, hcell⟩ := hx.frow_inv hr ho hc.1 hZ
      rcases Nat.eq_zero_or_pos n with h0 | h0
      · subst h0
        exact ⟨i, z, [], hi, hz, hsz, hby, by rw [hzc, hsz], App.empty ht (hxok.slice hd) rfl hi hz bo c (by rw [List.eq_nil_of_length_eq_zero hlen]; rfl)⟩
      · obtain ⟨b, rfl, _⟩ := hcell 0 h0
        have hl2 : ((Z.getD ii []).map (Value.int .u8)).length = n * i.size := by rw [List.length_map, hlen, hsz, h1, Nat.mul_one]
        refine ⟨i, z, (Z.getD ii []).map (Value.int .u8), hi, hz, hsz, hby, by rw [hzc, hsz], App.of ht (hxok.slice hd) rfl hi hz (fun W => by simp [Builtin.lenOf]) (fun W hW => ?_) hl2 (VRs.ints ν .u8 _) (fun x hx => ?_)⟩
        · refine run_firstCells_some (P := E.P) W i.size n b n c _ hl2 (fun j v hj => ?_)
          rw [cell?_of_heap hW]
          rw [List.getElem?_map, Option.map_eq_some_iff] at hj
          obtain ⟨y, hy, rfl⟩ := hj
          have hjl : j < (Z.getD ii []).length := (List.getElem?_eq_some_iff.1 hy).1
          obtain ⟨b', hb', hcj⟩ := hcell j (by omega)
          injection hb' with hb'; subst hb'
          rw [hcj]
          simp only [List.getD_eq_getElem?_getD] at hy ⊢
          rw [hy]; rfl
        · rw [List.mem_map] at hx; obtain ⟨y, _, rfl⟩ := hx; rfl
    · rename_i s hd
      split at h
      · rename_i h1
        injection h with h; injection h with h1 h; injection h with h2 h3
        subst h1; subst h2; subst h3
        obtain rfl := hx.str_inv
        exact ⟨i, z, _, hi, hz, hsz, hby, by rw [hzc, hsz], App.string ht (hxok.str hd) hi hz (by omega) s⟩
      · cases h
    · rename_i k kn n hd
      injection h with h; injection h with h1 h; injection h with h2 h3
      subst h1; subst h2; subst h3
      simp only [allP, Con.h] at hc
      obtain rfl := hx.int_inv
      obtain ⟨m, rfl⟩ := Int.eq_ofNat_of_zero_le hc.1
      simp only [Int.toNat_natCast] at hc ⊢
      have hv := rep_VRs (hzv ν) m
      rw [mulO_eq] at hc
      refine ⟨i, z, _, hi, hz, hsz, hby, by rw [hzc, hsz], App.zeros ht (hxok.int hd) hi hz kn m (by omega) (by rw [hby]; exact hc.2.2.1) (by rw [hzc, hsz]) hv ?_⟩
      exact hv.tolist (cells_one (rep_data _ _) hc.2.2.2.1)
    · cases h

def aAppend (E : Env) (t xT : TypeId) (s x : AVal) (T : Tab) : Res :=
  match E.ty t with
  | some ty => match ty.desc with
    | .slice e => match E.ty e with
      | some ety => match appSrc E xT ety x T, ety.bytes, ety.size with
        | some (cs, m, ev), b + 1, z + 1 =>
          match s with
          | .nilSlice => match (emptyOf ety.zero).cat ev with
            | some d => ⟨.leN (mulO m (b + 1)) 140737488355328 :: cs, .slice (z + 1) T.length 0 0 m none, T ++ [some ⟨d, 0, true, e⟩]⟩
            | none => fail
          | .slice sz p g off len cap => match nth T p, Nat.beq sz (z + 1) with
            | some o, true => match (o.data.sub off (mulO len sz)).cat ev with
              | some d => match o.own, Nat.beq o.et e, cap with
                | true, true, _ => ⟨.eqN g o.g :: .leN (off + mulO len sz) o.data.len :: .leN (mulO (addO len m) (b + 1)) 140737488355328 :: cs, .slice (z + 1) p (o.g + 1) 0 (addO len m) none, T.set p (some ⟨d, o.g + 1, true, e⟩)⟩
                | false, _, some c => ⟨.eqN g o.g :: .leN (off + mulO len sz) o.data.len :: .p (c < addO len m ∨ len = 0 ∧ c = 0) :: .leN (mulO (addO len m) (b + 1)) 140737488355328 :: cs, .slice (z + 1) T.length 0 0 (addO len m) none, T ++ [some ⟨d, 0, true, e⟩]⟩
                | _, _, _ => fail
              | none => fail
            | _, _ => fail
          | _ => fail
        | _, _, _ => fail
      | none => fail
    | _ => fail
  | none => fail

theorem set_push (T : Tab) (o : Option AObj) : (T ++ [none]).set T.length o = T ++ [o] := by
  rw [List.set_append]; simp

theorem aAppend_sound {E : Env} (hE : EnvOk E) (hr : HR E.gl ν T w) {t xT : TypeId} {s x : AVal} (hc : allP (aAppend E t xT s x T).cs) {u v : Value} (hs : VR ν s u) (hx : VR ν x v) (rty : TypeId) (nid : Nat) :
    ∃ z w', (Builtin.append_ #[t, xT] rty #[u, v]).run E.P w = .ok z w' ∧ OpPost E.gl ν T w nid (aAppend E t xT s x T) z w' := by
  generalize hR : aAppend E t xT s x T = R at hc ⊢
  unfold aAppend at hR
  split at hR
  rotate_left
  · subst hR; simp [fail, allP, Con.h] at hc
  rename_i ty hty
  split at hR
  rotate_left
  · subst hR; simp [fail, allP, Con.h] at hc
  rename_i e hd
  have ht := (hE.ty t ty hty).slice hd
  split at hR
  rotate_left
  · subst hR; simp [fail, allP, Con.h] at hc
  rename_i ety hety
  split at hR
  rotate_left
  · subst hR; simp [fail, allP, Con.h] at hc
  rename_i cs m ev b zz hsrc hbytes hsize
  replace hbytes : ety.bytes = b + 1 := hbytes
  replace hsize : ety.size = zz + 1 := hsize
  -- a new object, from a slice that has no room
  have fresh : ∀ {ao : Option Addr} {len c : Nat} {e0 d : AVal} {olds : List Value}, allP cs → (∀ i : TypeInfo, i.size = ety.size → (Builtin.firstCells i.size len (.slice ao len c)).run E.P w.drew = .ok olds.toArray w.drew) → VRs ν e0.cells olds → olds.length = len * ety.size →
      e0.cat ev = some d → (c < len + m ∨ (len = 0 ∧ c = 0)) → (len + m) * ety.bytes ≤ 140737488355328 →
      ∃ z w', (Builtin.append_ #[t, xT] rty #[.slice ao len c, v]).run E.P w = .ok z w' ∧ ∀ (q : List Con), OpPost E.gl ν T w nid ⟨q, .slice (zz + 1) T.length 0 0 (len + m) none, T ++ [some ⟨d, 0, true, e⟩]⟩ z w' := by
    intro ao len c e0 d olds hcs hfirst hov hol hcat hg hfit
    obtain ⟨i, z, news, hi, hz, hsz, hby, hzc, app⟩ := appSrc_sound (w := w) hE hr ht hety hsrc hcs hx rty
    obtain ⟨hp1, hp2, hp3⟩ := hr.push
    obtain ⟨x', w', ν', r1, r2, r3, r4, r5, r6⟩ := hp1.append_fresh t xT rty e i z hzc (p := T.length) (g := 0) (by simp) (.inl hp3) (hfirst i hsz) hov (by rw [hsz]; exact hol) app hcat hg (by rw [hby]; exact hfit)
      (by rw [hbytes] at hfit; have : len + m ≤ (len + m) * (b + 1) := Nat.le_mul_of_pos_right _ (by omega); omega)
    rw [set_push] at r5 r6
    refine ⟨x', w', r1, fun q => ⟨⟨ν', r2, fun q hq _ hn => by rw [r3 q (by omega)]; exact hn, by rw [hsz, hsize] at r4; exact r4, r5, ?_⟩⟩⟩
    exact ⟨r6.os, r6.tape, r6.output, r6.size, fun b hb hO => r6.block b hb (fun h => hO (hp2 b h)), fun b hb => (r6.own b hb).imp (hp2 b) id⟩
  split at hR
  · -- nil
    obtain rfl := hs.nilSlice_inv
    split at hR
    · rename_i d hcat
      subst hR
      simp only [allP, Con.h] at hc
      obtain ⟨z, w', r1, r2⟩ := fresh (ao := none) (len := 0) (c := 0) (olds := []) hc.2 (fun i _ => by simp [Builtin.firstCells]) (by rw [emptyOf_cells]; exact VRs.nil ν) (by simp) hcat (.inr ⟨rfl, rfl⟩) (by rw [hbytes]; rw [mulO_eq] at hc; simpa using hc.1)
      refine ⟨z, w', r1, ?_⟩
      have := r2 (.leN (mulO m (b + 1)) 140737488355328 :: cs)
      simpa using this
    · subst hR; simp [fail, allP, Con.h] at hc
  · rename_i sz p g off len cap
    split at hR
    rotate_left
    · subst hR; simp [fail, allP, Con.h] at hc
    rename_i o ho hbeq
    have hsz0 : sz = ety.size := by rw [hsize]; exact Nat.eq_of_beq_eq_true hbeq
    subst hsz0
    split at hR
    rotate_left
    · subst hR; simp [fail, allP, Con.h] at hc
    rename_i d hcat
    rw [mulO_eq] at hcat
    split at hR
    · -- own
      rename_i hown het
      subst hR
      simp only [allP, Con.h, mulO_eq, addO_eq] at hc ⊢
      obtain ⟨hg, hin, hfit, hcs⟩ := hc
      have het' : o.et = e := Nat.eq_of_beq_eq_true het
      obtain ⟨i, z, news, hi, hz, hsz, hby, hzc, app⟩ := appSrc_sound (w := w) hE hr ht hety hsrc hcs hx rty
      have h63 : len + m ≤ 9223372036854775807 := by have : len + m ≤ (len + m) * (b + 1) := Nat.le_mul_of_pos_right _ (by omega); omega
      have hp : p < T.length := by
        have := nth_some ho
        rcases Nat.lt_or_ge p T.length with h1 | h1
        · exact h1
        · rw [List.getElem?_eq_none h1] at this; cases this
      have fin : ∀ {x' : Value} {w' : World} {ν' : Nu}, NuLe ν ν' → (∀ q, q ≠ p → ν' q = ν q) → (∃ l, ν p = some l) → VR ν' (.slice i.size p (o.g + 1) 0 (len + m) none) x' → HR E.gl ν' (T.set p (some ⟨d, o.g + 1, true, e⟩)) w' → Fr (Own ν T) w (Own ν' (T.set p (some ⟨d, o.g + 1, true, e⟩))) w' →
          ∀ q, OpPost E.gl ν T w nid ⟨q, .slice (zz + 1) p (o.g + 1) 0 (len + m) none, T.set p (some ⟨d, o.g + 1, true, e⟩)⟩ x' w' := by
        intro x' w' ν' r2 r3 ⟨l, hl⟩ r4 r5 r6 q
        refine ⟨⟨ν', r2, fun q hq _ hn => ?_, by rw [hsz, hsize] at r4; exact r4, r5, r6⟩⟩
        by_cases e : q = p
        · subst e; rw [hl] at hn; cases hn
        · rw [r3 q e]; exact hn
      rcases hs.slice_inv hr ho hg with ⟨l, ad, c, hl, rfl, hsl⟩ | ⟨bo, l, rfl, rfl, hl, hz'⟩
      · have hob := hr.obj p o l (nth_some ho) hl
        rcases Nat.eq_zero_or_pos c with hc0 | hc0
        · subst hc0
          have hl0 : len = 0 := by have := hsl.1; omega
          subst hl0
          obtain ⟨x', w', ν', r1, r2, r3, r4, r5, r6⟩ := hr.append_fresh t xT rty e i z hzc (p := p) (g := o.g + 1) hp (.inr ⟨l, hl, by rw [hob.1]; omega⟩) (ao := some ad) (len := 0) (c := 0) (e0 := o.data.sub off (0 * ety.size)) (olds := [])
            (by simp [Builtin.firstCells, loadCells, loadCellsFrom]) (by rw [sub_cells hob.2.1]; simp; exact VRs.nil ν) (by simp) app hcat (.inr ⟨rfl, rfl⟩) (by rw [hby, hbytes]; exact hfit) h63
          exact ⟨x', w', r1, fin r2 r3 ⟨l, hl⟩ r4 r5 r6 _⟩
        · have hpos : 0 < i.size := by rw [hsz, hsize]; omega
          have hrel : OwnRel ν o l w := by
            rcases hob.2.2 with ⟨_, h1⟩ | ⟨h1, _⟩ | ⟨_, h1⟩
            · exact h1
            · rw [hown] at h1; cases h1
            · have h2 := hsl.2.2.2.1
              have := Nat.mul_pos hc0 (show 0 < ety.size by omega)
              omega
          obtain ⟨x', w', ν', r1, r2, r3, r4, r5, r6⟩ := hr.append_own t xT rty e i z hzc (nth_some ho) hl hown het' (off := off) (len := len) (c := c) (b := ad) (by rw [hsz]; exact hsl) hrel hc0 hpos (by rw [hsz]; exact hin) app (by rw [hsz]; exact hcat) (by rw [hby, hbytes]; exact hfit) h63
          exact ⟨x', w', r1, fin r2 r3 ⟨l, hl⟩ r4 r5 r6 _⟩
      · have hob := hr.obj p o l (nth_some ho) hl
        obtain ⟨x', w', ν', r1, r2, r3, r4, r5, r6⟩ := hr.append_fresh t xT rty e i z hzc (p := p) (g := o.g + 1) hp (.inr ⟨l, hl, by rw [hob.1]; omega⟩) (ao := bo) (len := 0) (c := 0) (e0 := o.data.sub off (0 * ety.size)) (olds := [])
          (by cases bo <;> simp [Builtin.firstCells, loadCells, loadCellsFrom]) (by rw [sub_cells hob.2.1]; simp; exact VRs.nil ν) (by simp) app hcat (.inr ⟨rfl, rfl⟩) (by rw [hby, hbytes]; exact hfit) h63
        exact ⟨x', w', r1, fin r2 r3 ⟨l, hl⟩ r4 r5 r6 _⟩
    · -- not own, a known capacity
      rename_i c hown
      subst hR
      simp only [allP, Con.h, mulO_eq, addO_eq] at hc ⊢
      obtain ⟨hg, hin, hgrow, hfit, hcs⟩ := hc
      rcases hs.slice_inv hr ho hg with ⟨l, ad, c', hl, rfl, hsl⟩ | ⟨bo, l, rfl, rfl, hl, hz'⟩
      · have hob := hr.obj p o l (nth_some ho) hl
        obtain ⟨xs, h1, h2, h3⟩ := hr.readRow (nth_some ho) hl hin
        have hcc := hsl.2.1 c rfl
        subst hcc
        obtain ⟨z, w', r1, r2⟩ := fresh (ao := some ad) (len := len) (c := c') (e0 := o.data.sub off (len * ety.size)) (olds := xs) hcs (fun i hi => by
            have := run_firstCells_some (P := E.P) w.drew i.size len ad len c' xs (by rw [h1, hi]) (fun j v hj => by rw [hsl.2.2.1]; exact h2 j v hj)
            exact this) h3 h1 hcat hgrow (by rw [hbytes]; exact hfit)
        exact ⟨z, w', r1, r2 _⟩
      · have hob := hr.obj p o l (nth_some ho) hl
        obtain ⟨z, w', r1, r2⟩ := fresh (ao := bo) (len := 0) (c := 0) (e0 := o.data.sub off (0 * ety.size)) (olds := []) hcs (fun i _ => by cases bo <;> simp [Builtin.firstCells, loadCells, loadCellsFrom]) (by rw [sub_cells hob.2.1]; simp; exact VRs.nil ν) (by simp) hcat (.inr ⟨rfl, rfl⟩) (by rw [hbytes]; exact hfit)
        exact ⟨z, w', r1, r2 _⟩
    · subst hR; simp [fail, allP, Con.h] at hc
  · subst hR; simp [fail, allP, Con.h] at hc
end
end Go.Abs

set_option linter.unusedVariables false
set_option linter.unusedSimpArgs false
namespace Go.Abs

section
variable {P : Program} {gl : Nat → Option AVal} {ν : Nu} {T : Tab} {w : World}

/-! ### len, copy, conversions -/
def aLen (E : Env) (t : TypeId) (x : AVal) (T : Tab) : Option PV :=
  match E.ty t with
  | some ty => match ty.desc, x with
    | .str, .str s => some ([], .int .i64 (s.length : Int))
    | .slice _, .nilSlice => some ([], .int .i64 0)
    | .slice _, .slice sz p g off len cap => match nth T p with
      | some o => some ([.eqN g o.g], .int .i64 (len : Int))
      | none => none
    | .slice _, .frow p g i n => match nth T p with
      | some o => some ([.eqN g o.g], .int .i64 (n : Int))
      | none => none
    | .array n _, _ => some ([], .int .i64 (n : Int))
    | .map _ _, .nilMap => some ([], .int .i64 0)
    | _, _ => none
  | none => none

theorem TyOk.map {t : TypeId} {ty : Ty} (h : TyOk P t ty) {k e : TypeId} (hd : ty.desc = .map k e) : P.underlying t = some (.map k e) := by
  obtain ⟨d, h1, h2⟩ := h.und
  rw [hd] at h2
  cases d <;> simp [absDesc] at h2
  obtain ⟨rfl, rfl⟩ := h2; exact h1

theorem aLen_sound {E : Env} (hE : EnvOk E) (hr : HR E.gl ν T w) {t : TypeId} {x : AVal} {r : PV} (h : aLen E t x T = some r) (hc : allP r.1) {u : Value} (hx : VR ν x u) (rty : TypeId) :
    ∃ z, (Builtin.len_ #[t] rty #[u]).run E.P w = .ok z w ∧ VR ν r.2 z := by
  unfold aLen at h
  split at h
  rotate_left
  · cases h
  rename_i ty hty
  have hok := hE.ty t ty hty
  split at h
  · rename_i s hd
    injection h with h; subst h
    obtain rfl := hx.str_inv
    have hsz : (ByteArray.mk s.toArray).size = s.length := by simp [ByteArray.size]
    exact ⟨_, by simp [Builtin.len_, run_underlying (hok.str hd), hsz, goInt], .int _ _⟩
  · rename_i e hd
    injection h with h; subst h
    obtain rfl := hx.nilSlice_inv
    exact ⟨_, by simp [Builtin.len_, run_underlying (hok.slice hd), goInt], .int _ _⟩
  · rename_i e sz p g off len cap hd
    split at h
    · rename_i o ho
      injection h with h; subst h
      simp only [allP, Con.h] at hc
      rcases hx.slice_inv hr ho hc.1 with ⟨l, b, c, hl, rfl, hs⟩ | ⟨bo, l, rfl, rfl, hl, hz⟩
      · exact ⟨_, by simp [Builtin.len_, run_underlying (hok.slice hd), goInt], .int _ _⟩
      · exact ⟨_, by simp [Builtin.len_, run_underlying (hok.slice hd), goInt], .int _ _⟩
    · cases h
  · rename_i e p g i n hd
    split at h
    · rename_i o ho
      injection h with h; subst h
      simp only [allP, Con.h] at hc
      obtain ⟨bo, c, rfl⟩ := hx.frow_form hr ho hc.1
      exact ⟨_, by simp [Builtin.len_, run_underlying (hok.slice hd), goInt], .int _ _⟩
    · cases h
  · rename_i n e hd
    injection h with h; subst h
    exact ⟨_, by simp [Builtin.len_, run_underlying (hok.array hd), goInt], .int _ _⟩
  · rename_i k e hd
    injection h with h; subst h
    obtain rfl : u = .map none := by cases hx; rfl
    exact ⟨_, by simp [Builtin.len_, run_underlying (hok.map hd), goInt], .int _ _⟩
  · cases h

theorem TyOk.float {P : Program} {t : TypeId} {ty : Ty} (h : TyOk P t ty) {k : FloatKind} (hd : ty.desc = .float k) : P.underlying t = some (.float k) := by
  obtain ⟨d, h1, h2⟩ := h.und
  rw [hd] at h2
  cases d <;> simp [absDesc] at h2
  subst h2; exact h1
def byteOf (n : Int) : UInt8 := UInt8.ofNat n.toNat

def aConv (E : Env) (src dst : TypeId) (x : AVal) (nid : Nat) (T : Tab) : Res :=
  match E.ty src, E.ty dst with
  | some s, some d => match d.desc, x with
    | .int k, .int k0 n => match convInt k0 k n with
      | (cs, m) => ⟨cs, .int k m, T⟩
    | .float k, .int k0 n => ⟨[], .float k (k.nearest n), T⟩
    | .int k, .float k0 b => match (k0.decode b).toInt .zero with
      | some n => ⟨[.rng k.min n k.max], .int k n, T⟩
      | none => fail
    | .str, .str b => match s.desc with
      | .str => ⟨[], .str b, T⟩
      | _ => fail
    | .str, .nilSlice => match s.desc with
      | .slice e => match E.ty e with
        | some ety => match ety.desc with
          | .int .u8 => ⟨[], .str [], T⟩
          | _ => fail
        | none => fail
      | _ => fail
    | .str, .slice sz p g off len cap => match s.desc, nth T p with
      | .slice e, some o => match E.ty e, o.data, sz with
        | some ety, .ints .u8 xs, 1 => match ety.desc with
          | .int .u8 => ⟨[.eqN g o.g, .leN (off + len) xs.length], .str (((dropO off xs).take len).map byteOf), T⟩
          | _ => fail
        | _, _, _ => fail
      | _, _ => fail
    | .str, .frow p g i n => match s.desc, nth T p with
      | .slice e, some o => match E.ty e, o.data with
        | some ety, .fam Z => match ety.desc with
          | .int .u8 => ⟨[.eqN g o.g], .str ((Z.getD i []).map byteOf), T⟩
          | _ => fail
        | _, _ => fail
      | _, _ => fail
    | .slice e, .str b => match s.desc, E.ty e with
      | .str, some ety => match ety.desc with
        | .int .u8 => ⟨[], .slice 1 nid 0 0 b.length none, newObj_ T nid (.ints .u8 (b.map fun c => (c.toNat : Int))) false e⟩
        | _ => fail
      | _, _ => fail
    | .slice e, .slice sz p g off len cap => match E.ty e, nth T p with
      | some ety, some o => match ety.desc, Nat.beq src dst, o.own, o.data.noFam with
        | .int .u8, true, true, true => ⟨[.eqN g o.g, .leN 1 len, .leN 1 sz], .slice sz p g off len cap, T.set p (some { o with own := false })⟩
        | _, _, _, _ => fail
      | _, _ => fail
    | _, _ => fail
  | _, _ => fail

/-- a new object that is not written -/
theorem HR.newRo (h : HR gl ν T w) {p : Nat} (hp : p < T.length) (hn : ν p = none) {o : AObj} (ho : o.own = false) (hnf : o.data.noFam = true) (hd : IsData o.data) (hg : o.g = 0) {l : Loc} (hlg : l.g = 0) {w' : World} (hsz : w.heap.size ≤ w'.heap.size)
    (hold : ∀ b, b < w.heap.size → w'.heap[b]? = w.heap[b]?) (hblk : l.a.block = w.heap.size) (hlt : l.a.block < w'.heap.size) (hroom : o.data.len ≤ l.room)
    (hcell : ∀ i, i < o.data.len → ∃ x, w'.cell? (l.a.add i) = some x ∧ ∀ ν, VR ν (o.data.get i) x) (hos : w'.os = w.os) (htape : w'.tape = w.tape) (hout : w'.output = w.output) :
    HR gl (upd ν p l) (T.set p (some o)) w' ∧ NuLe ν (upd ν p l) ∧ Fr (Own ν T) w (Own (upd ν p l) (T.set p (some o))) w' := by
  have hm := NuLe.upd_new (ν := ν) l hn
  have other : ∀ q lq, q ≠ p → upd ν p l q = some lq → ν q = some lq := fun q lq hq h' => by rwa [upd_other ν l hq] at h'
  have hown : ∀ b, Own (upd ν p l) (T.set p (some o)) b → Own ν T b := by
    rintro b ⟨q, oq, lq, hTq, hoq, hlq, h1, hbq⟩
    by_cases e : q = p
    · subst e
      rw [List.getElem?_set_self hp] at hTq
      injection hTq with hTq; injection hTq with hTq; subst hTq
      rw [ho] at hoq; cases hoq
    · rw [List.getElem?_set_ne (Ne.symm e)] at hTq
      exact ⟨q, oq, lq, hTq, hoq, other q lq e hlq, h1, hbq⟩
  refine ⟨⟨fun q o' l' hT hl' => ?_, fun q lq hq => ?_, fun q hq => ?_, fun q lq hq h1 => ?_, fun q r oq or lq lr hTq hTr hoq hqr hlq hlr h1 h1' => ?_, fun b d hb' => ?_, fun q o' l' hT hl' => ?_⟩, hm, hos, htape, hout, hsz, fun b hb _ => hold b hb, fun b hb => .inl (hown b hb)⟩
  · by_cases e : q = p
    · subst e
      rw [List.getElem?_set_self hp] at hT
      injection hT with hT; injection hT with hT; subst hT
      rw [upd_same] at hl'; injection hl' with hl'; subst hl'
      exact ⟨hg.trans hlg.symm, hd, .inr (.inl ⟨ho, hroom, fun i hi => by obtain ⟨x, h1, h2⟩ := hcell i hi; exact ⟨x, h1, h2 _⟩⟩)⟩
    · rw [List.getElem?_set_ne (Ne.symm e)] at hT
      have hl := other q l' e hl'
      obtain ⟨h1, h2⟩ := h.obj q o' l' hT hl
      exact ⟨h1, h2.kept hm fun h0 => hold _ (h.blk q l' hl h0)⟩
  · by_cases e : q = p
    · subst e; simpa using hp
    · simpa using h.lt q lq (other q lq e hq)
  · by_cases e : q = p
    · subst e
      rw [List.getElem?_set_self hp] at hq
      cases hq
    · rw [List.getElem?_set_ne (Ne.symm e)] at hq
      rw [upd_other ν l e]
      exact h.hole q hq
  · by_cases e : q = p
    · subst e
      rw [upd_same] at hq; injection hq with hq; subst hq
      exact hlt
    · exact Nat.lt_of_lt_of_le (h.blk q lq (other q lq e hq) h1) hsz
  · by_cases e : q = p
    · subst e
      rw [List.getElem?_set_self hp] at hTq
      injection hTq with hTq; injection hTq with hTq; subst hTq
      rw [ho] at hoq; cases hoq
    · by_cases e' : r = p
      · subst e'
        rw [upd_same] at hlr; injection hlr with hlr; subst hlr
        have := h.blk q lq (other q lq e hlq) h1
        omega
      · rw [List.getElem?_set_ne (Ne.symm e)] at hTq
        rw [List.getElem?_set_ne (Ne.symm e')] at hTr
        exact h.sep q r oq or lq lr hTq hTr hoq hqr (other q lq e hlq) (other r lr e' hlr) h1 h1'
  · obtain ⟨h1, h2, h3, h4⟩ := h.glob b d hb'
    refine ⟨fun h5 => h1 (hown b h5), Nat.lt_of_lt_of_le h2 hsz, h3, fun i hi => ?_⟩
    obtain ⟨x, hx, hv⟩ := h4 i hi
    exact ⟨x, by rw [World.cell?_of_block (w := w) (hold b h2)]; exact hx, hv⟩
  · by_cases e : q = p
    · subst e
      rw [List.getElem?_set_self hp] at hT
      injection hT with hT; injection hT with hT; subst hT
      exact FamOk.no hnf
    · rw [List.getElem?_set_ne (Ne.symm e)] at hT
      exact (h.fam q o' l' hT (other q l' e hl')).keep hsz (fun b _ h1 h2 => h1 (hown b h2)) (fun b hb _ => hold b hb)

theorem convInt_sound {src dst : IntKind} {n : Int} {cs : List Con} {m : Int} (h : convInt src dst n = (cs, m)) (hc : allP cs) : dst.wrap n = m := by
  unfold convInt at h
  split at h
  · have h1 : (arith dst n).1 = cs := by rw [h]
    have h2 : (arith dst n).2 = m := by rw [h]
    rw [← h2]; exact arith_wrap (by rw [h1]; exact hc)
  · have h1 : (exactly dst n).1 = cs := by rw [h]
    have h2 : (exactly dst n).2 = m := by rw [h]
    rw [← h2]; exact exactly_wrap (by rw [h1]; exact hc)

theorem str_bytes (xs : List Int) : ByteArray.mk (xs.map byteOf).toArray = strOfNums xs := rfl

theorem run_bytes {src dst e : TypeId} (hs : P.underlying src = some (.slice e)) (he : P.underlying e = some (.int .u8)) (hd : P.underlying dst = some .string) {a : Addr} {len cap : Nat} {xs : List Int} (hlen : xs.length = len)
    (hcell : ∀ j v, (xs.map (Value.int .u8))[j]? = some v → w.cell? (a.add j) = some v) : (convert src dst (.slice (some a) len cap)).run P w = .ok (.string (strOfNums xs)) w := by
  have hl : (loadCells a len).run P w = .ok (xs.map (Value.int .u8)).toArray w := by
    have := run_loadCells_list (P := P) w a (xs.map (Value.int .u8)) hcell
    simpa [hlen] using this
  rw [run_convert_bytes_string w src dst e _ len cap hs he hd, run_bytesToString w _ len cap xs hl, foldl_push_bytes]
  simp [strOfNums, ByteArray.empty, ByteArray.emptyWithCapacity]
  rfl

def isSl (E : Env) (t : TypeId) : Bool :=
  match E.ty t with
  | some d => (match d.desc with | .slice _ => true | _ => false)
  | none => false

/-- an own object is marked: it is read alone from there on -/
theorem HR.mark (h : HR gl ν T w) {p : Nat} {o : AObj} {l : Loc} (ho : T[p]? = some (some o)) (hl : ν p = some l) (hown : o.own = true) (hnf : o.data.noFam = true) (h0 : 0 < l.room) {w' : World} (hsz : w'.heap.size = w.heap.size)
    (hblk : ∀ b, b ≠ l.a.block → w'.heap[b]? = w.heap[b]?) (hcell : ∀ a : Addr, w'.cell? a = w.cell? a) (hos : w'.os = w.os) (htape : w'.tape = w.tape) (hout : w'.output = w.output) :
    HR gl ν (T.set p (some { o with own := false })) w' ∧ Fr (Own ν T) w (Own ν (T.set p (some { o with own := false }))) w' := by
  have hp := h.lt p l hl
  have get : ∀ (q : Nat) (oq : AObj), (T.set p (some { o with own := false }))[q]? = some (some oq) → (q = p ∧ oq = { o with own := false }) ∨ (q ≠ p ∧ T[q]? = some (some oq)) := by
    intro q oq hq
    by_cases e : q = p
    · subst e
      rw [List.getElem?_set_self hp] at hq
      injection hq with hq; injection hq with hq
      exact .inl ⟨rfl, hq.symm⟩
    · rw [List.getElem?_set_ne (Ne.symm e)] at hq
      exact .inr ⟨e, hq⟩
  have hown' : ∀ b, Own ν (T.set p (some { o with own := false })) b → Own ν T b := by
    rintro b ⟨q, oq, lq, h1, h2, h3, h4, h5⟩
    rcases get q oq h1 with ⟨rfl, rfl⟩ | ⟨e, h1⟩
    · cases h2
    · exact ⟨q, oq, lq, h1, h2, h3, h4, h5⟩
  have hOwnP : Own ν T l.a.block := ⟨p, o, l, ho, hown, hl, h0, rfl⟩
  refine ⟨⟨fun q oq lq h1 h2 => ?_, fun q lq h1 => by simpa using h.lt q lq h1, fun q h1 => ?_, fun q lq h1 h2 => by rw [hsz]; exact h.blk q lq h1 h2, fun q r oq or lq lr h1 h2 h3 h4 h5 h6 h7 h8 => ?_, fun b d hb => ?_, fun q oq lq h1 h2 => ?_⟩,
    hos, htape, hout, by omega, fun b hb hO => hblk b (by rintro rfl; exact hO hOwnP), fun b hb => .inl (hown' b hb)⟩
  · rcases get q oq h1 with ⟨rfl, rfl⟩ | ⟨e, h1⟩
    · rw [hl] at h2; injection h2 with h2; subst h2
      obtain ⟨g1, g2, g3⟩ := h.obj q o l ho hl
      refine ⟨g1, g2, .inr (.inl ⟨rfl, ObjRel.room (o := o) ⟨g2, g3⟩, fun i hi => ?_⟩)⟩
      obtain ⟨x, hx, hv⟩ := h.read ho hl hi
      exact ⟨x, by rw [hcell]; exact hx, hv⟩
    · obtain ⟨g1, g2⟩ := h.obj q oq lq h1 h2
      exact ⟨g1, g2.kept (NuLe.refl ν) fun hr0 => hblk _ (fun e' => h.sep p q o oq l lq ho h1 hown (Ne.symm e) hl h2 h0 hr0 e'.symm)⟩
  · by_cases e : q = p
    · subst e; rw [List.getElem?_set_self hp] at h1; cases h1
    · rw [List.getElem?_set_ne (Ne.symm e)] at h1; exact h.hole q h1
  · rcases get q oq h1 with ⟨rfl, rfl⟩ | ⟨e1, h1⟩
    · cases h3
    · rcases get r or h2 with ⟨e2, _⟩ | ⟨e2, h2⟩
      · subst e2; exact h.sep q r oq o lq lr (by assumption) ho h3 h4 h5 h6 h7 h8
      · exact h.sep q r oq or lq lr (by assumption) h2 h3 h4 h5 h6 h7 h8
  · obtain ⟨g1, g2, g3, g4⟩ := h.glob b d hb
    refine ⟨fun hO => g1 (hown' b hO), by rw [hsz]; exact g2, g3, fun i hi => ?_⟩
    obtain ⟨x, hx, hv⟩ := g4 i hi
    exact ⟨x, by rw [hcell]; exact hx, hv⟩
  · rcases get q oq h1 with ⟨rfl, rfl⟩ | ⟨e, h1⟩
    · exact FamOk.no hnf
    · exact (h.fam q oq lq h1 h2).keep (by omega) (fun b _ h3 h4 => h3 (hown' b h4)) (fun b _ h3 => hblk b (by rintro rfl; exact h3 hOwnP))

theorem freeze_size (w : World) (a : Addr) (n : Nat) : (w.freeze a n).heap.size = w.heap.size := by unfold World.freeze; split <;> simp
theorem freeze_other (w : World) (a : Addr) (n : Nat) {b : Nat} (h : b ≠ a.block) : (w.freeze a n).heap[b]? = w.heap[b]? := by
  unfold World.freeze
  split
  · rfl
  · simp [Array.getElem?_modify, Ne.symm h]
theorem freeze_cell (w : World) (a : Addr) (n : Nat) (x : Addr) : (w.freeze a n).cell? x = w.cell? x := by
  by_cases h : x.block = a.block
  · by_cases hn : n = 0
    · unfold World.freeze; rw [if_pos hn]
    · have e : (w.freeze a n).heap[x.block]? = (w.heap[x.block]?).map fun o => match o with
          | .cells c elem (lo, hi) => .cells c elem (if lo == hi then (a.off, a.off + n) else (min lo a.off, max hi (a.off + n)))
          | o => o := by
        unfold World.freeze
        rw [if_neg hn]
        simp only [h, Array.getElem?_modify, if_true]
        cases w.heap[a.block]? with
        | none => rfl
        | some o => cases o <;> rfl
      unfold World.cell?
      rw [e]
      cases w.heap[x.block]? with
      | none => rfl
      | some o => cases o <;> rfl
  · exact World.cell?_of_block (freeze_other w a n h)

theorem aConv_sound {E : Env} (hE : EnvOk E) (hr : HR E.gl ν T w) {src dst : TypeId} {x : AVal} {nid : Nat} (hnid : ∀ b, x = .str b → isSl E dst = true → nid < T.length ∧ ν nid = none) (hc : allP (aConv E src dst x nid T).cs) {u : Value} (hx : VR ν x u) {m : Nat} (hm : isSl E dst = true → m = nid) :
    ∃ z w', (convert src dst u).run E.P w = .ok z w' ∧ OpPost E.gl ν T w m (aConv E src dst x nid T) z w' := by
  generalize hR : aConv E src dst x nid T = R at hc ⊢
  unfold aConv at hR
  split at hR
  rotate_left
  · subst hR; simp [fail, allP, Con.h] at hc
  rename_i s d hsty hdty
  have hsok := hE.ty _ _ hsty
  have hdok := hE.ty _ _ hdty
  obtain ⟨sd, hsu, hsd⟩ := hsok.und
  split at hR
  · -- whole numbers
    rename_i k k0 n hd
    obtain rfl := hx.int_inv
    split at hR
    rename_i cs m' hconv
    subst hR
    refine ⟨_, w, ?_, OpPost.pure_ hr (.int k m')⟩
    simp only at hc
    rw [← convInt_sound hconv hc]
    simp [convert, run_underlying hsu, run_underlying (hdok.int hd), Conv.intToInt]
  · rename_i k k0 n hd
    subst hR
    obtain rfl := hx.int_inv
    exact ⟨_, w, by simp [convert, run_underlying hsu, run_underlying (hdok.float hd), Conv.intToFloat], OpPost.pure_ hr (.float _ _)⟩
  · rename_i k k0 b hd
    split at hR
    · rename_i n hn
      subst hR
      obtain rfl := hx.float_inv
      simp only [allP, Con.h] at hc
      exact ⟨_, w, by simp [convert, run_underlying hsu, run_underlying (hdok.int hd), Conv.floatToInt, hn, hc.1.1, hc.1.2], OpPost.pure_ hr (.int _ _)⟩
    · subst hR; simp [fail, allP, Con.h] at hc
  · rename_i b hd
    split at hR
    · rename_i hs
      subst hR
      obtain rfl := hx.str_inv
      exact ⟨_, w, by simp [convert, run_underlying (hsok.str hs), run_underlying (hdok.str hd)], OpPost.pure_ hr (.str b)⟩
    · subst hR; simp [fail, allP, Con.h] at hc
  · rename_i hd
    split at hR
    · rename_i e hs
      split at hR
      · rename_i ety hety
        split at hR
        · rename_i he
          subst hR
          obtain rfl := hx.nilSlice_inv
          exact ⟨_, w, run_convert_bytes_nil w src e (hsok.slice hs) ((hE.ty _ _ hety).int he) 0 0 dst (hdok.str hd), OpPost.pure_ hr (.str [])⟩
        · subst hR; simp [fail, allP, Con.h] at hc
      · subst hR; simp [fail, allP, Con.h] at hc
    · subst hR; simp [fail, allP, Con.h] at hc
  · rename_i sz p g off len cap hd
    split at hR
    rotate_left
    · subst hR; simp [fail, allP, Con.h] at hc
    rename_i e o hs ho
    split at hR
    rotate_left
    · subst hR; simp [fail, allP, Con.h] at hc
    rename_i ety xs hety hdata
    split at hR
    rotate_left
    · subst hR; simp [fail, allP, Con.h] at hc
    rename_i he
    subst hR
    simp only [allP, Con.h] at hc
    refine (fun h => ⟨_, w, h, OpPost.pure_ hr (.str _)⟩ : (convert src dst u).run E.P w = .ok (.string ⟨(((dropO off xs).take len).map byteOf).toArray⟩) w → _) ?_
    rw [str_bytes]
    rcases hx.slice_inv hr ho hc.1 with ⟨l, b, c, hl, rfl, hsl⟩ | ⟨bo, l, rfl, rfl, hl, hz⟩
    · have hob := hr.obj p o l (nth_some ho) hl
      obtain ⟨ys, h1, h2, h3⟩ := hr.readRow (nth_some ho) hl (off := off) (n := len) (by rw [hdata]; exact hc.2.1)
      have hys : ys = ((dropO off xs).take len).map (Value.int .u8) := by
        rw [hdata] at h3
        have := VR_of_VRs (sub_data (.ints .u8 xs) off len) h3
        simp only [AVal.sub] at this
        cases this
        rfl
      subst hys
      refine run_bytes (hsok.slice hs) ((hE.ty _ _ hety).int he) (hdok.str hd) (by simpa using h1) (fun j v hj => ?_)
      rw [hsl.2.2.1]
      exact h2 j v hj
    · simp only [List.take_zero]
      cases bo with
      | none => exact run_convert_bytes_nil w src e (hsok.slice hs) ((hE.ty _ _ hety).int he) 0 0 dst (hdok.str hd)
      | some a => exact run_bytes (hsok.slice hs) ((hE.ty _ _ hety).int he) (hdok.str hd) rfl (fun j v hj => by simp at hj)
  · rename_i p g i n hd
    split at hR
    rotate_left
    · subst hR; simp [fail, allP, Con.h] at hc
    rename_i e o hs ho
    split at hR
    rotate_left
    · subst hR; simp [fail, allP, Con.h] at hc
    rename_i ety Z hety hZ
    split at hR
    rotate_left
    · subst hR; simp [fail, allP, Con.h] at hc
    rename_i he
    subst hR
    simp only [allP, Con.h] at hc
    refine (fun h => ⟨_, w, h, OpPost.pure_ hr (.str _)⟩ : (convert src dst u).run E.P w = .ok (.string ⟨((Z.getD i []).map byteOf).toArray⟩) w → _) ?_
    rw [str_bytes]
    obtain ⟨bo, c, rfl, hi', hlen, hcell⟩ := hx.frow_inv hr ho hc.1 hZ
    rcases Nat.eq_zero_or_pos n with h0 | h0
    · subst h0
      rw [List.eq_nil_of_length_eq_zero hlen]
      cases bo with
      | none => exact run_convert_bytes_nil w src e (hsok.slice hs) ((hE.ty _ _ hety).int he) 0 c dst (hdok.str hd)
      | some a => exact run_bytes (hsok.slice hs) ((hE.ty _ _ hety).int he) (hdok.str hd) rfl (fun j v hj => by simp at hj)
    · obtain ⟨b, rfl, _⟩ := hcell 0 h0
      refine run_bytes (hsok.slice hs) ((hE.ty _ _ hety).int he) (hdok.str hd) hlen (fun j v hj => ?_)
      rw [List.getElem?_map, Option.map_eq_some_iff] at hj
      obtain ⟨y, hy, rfl⟩ := hj
      have hjl : j < (Z.getD i []).length := (List.getElem?_eq_some_iff.1 hy).1
      obtain ⟨b', hb', hcj⟩ := hcell j (by omega)
      injection hb' with hb'; subst hb'
      rw [hcj]
      simp only [List.getD_eq_getElem?_getD] at hy ⊢
      rw [hy]; rfl
  · rename_i e b hd
    split at hR
    rotate_left
    · subst hR; simp [fail, allP, Con.h] at hc
    rename_i ety hs hety
    split at hR
    rotate_left
    · subst hR; simp [fail, allP, Con.h] at hc
    rename_i he
    subst hR
    obtain rfl := hx.str_inv
    obtain ⟨hp, hn⟩ := hnid b rfl (by simp [isSl, hdty, hd])
    obtain rfl := hm (by simp [isSl, hdty, hd])
    have hrun := Lib.run_convert_string_bytes (P := E.P) w src dst e ⟨b.toArray⟩ hsu (hdok.slice hd) ((hE.ty _ _ hety).int he)
    have hge := grownCap_ge w b.length 0 e
    have hsize : (ByteArray.mk b.toArray).size = b.length := by simp [ByteArray.size]
    obtain ⟨h1, h2, h3⟩ := hr.newRo (o := ⟨.ints .u8 (b.map fun c => (c.toNat : Int)), 0, false, e⟩) (l := ⟨⟨w.heap.size, 0, none⟩, 0, grownCap w b.length 0 e⟩) hp hn rfl rfl (.ints _ _) rfl rfl (w' := Lib.bytesWorld w e ⟨b.toArray⟩)
      (by rw [Lib.bytesWorld_size]; omega) (fun k hk => Lib.bytesWorld_at_old w e _ k hk) rfl (by rw [Lib.bytesWorld_size]; simp) (by simpa [AVal.len] using hge)
      (fun i hi => by
        simp only [AVal.len, List.length_map] at hi
        refine ⟨_, by rw [add_plain', Nat.zero_add]; exact Lib.bytesWorld_cell w e _ i (by rw [hsize]; exact hi), fun ν => ?_⟩
        simp only [AVal.get]
        have : (b.map fun c => (c.toNat : Int)).getD i 0 = (((ByteArray.mk b.toArray).data.toList.getD i 0).toNat : Int) := by
          simp [List.getD, hi]
        rw [this]
        exact .int _ _)
      (by simp [Lib.bytesWorld, World.freeze, World.alloc, World.drew, -World.alloc_eq, -World.drew_eq]) (by simp [Lib.bytesWorld, World.freeze, World.alloc, World.drew, -World.alloc_eq, -World.drew_eq]) (by simp [Lib.bytesWorld, World.freeze, World.alloc, World.drew, -World.alloc_eq, -World.drew_eq])
    refine ⟨_, _, hrun, ⟨⟨_, h2, Keep.upd _ _ _ _, ?_, h1, h3⟩⟩⟩
    rw [hsize]
    exact .slice (upd_same _ _ _) rfl ⟨hge, (by intro k hk; cases hk), (by simp [Addr.add]), by simp, fun _ => by simp⟩
  · rename_i e sz p g off len cap hd
    split at hR
    rotate_left
    · subst hR; simp [fail, allP, Con.h] at hc
    rename_i ety o hety ho
    split at hR
    rotate_left
    · subst hR; simp [fail, allP, Con.h] at hc
    rename_i he hsd hown hnf
    subst hR
    simp only [allP, Con.h] at hc
    have hsd := Nat.eq_of_beq_eq_true hsd
    subst hsd
    rcases hx.slice_inv hr ho hc.1 with ⟨l, b, c, hl, rfl, hsl⟩ | ⟨bo, l, h0, _⟩
    · have hlen : 1 ≤ len := hc.2.1
      obtain ⟨hg, hdd, hob⟩ := hr.obj p o l (nth_some ho) hl
      have hroom : 0 < l.room := by
        obtain ⟨s1, _, _, s4, _⟩ := hsl
        cases hx with
        | slice h1 h2 h3 =>
          rw [hl] at h1; injection h1 with h1; subst h1
          rcases Nat.eq_zero_or_pos l.room with hz | hz
          · rcases Nat.eq_zero_or_pos sz with hs0 | hs0
            · exact absurd hc.2.2 (by simp [hs0, allP, Con.h] at *)
            · have : c * sz = 0 := by omega
              rcases Nat.mul_eq_zero.1 this with h | h <;> omega
          · exact hz
        | sliceZ _ _ _ _ => omega
        | sliceOld y h1 h2 h3 => rw [hl] at h2; injection h2 with h2; subst h2; omega
      have hblk : b.block = l.a.block := by rw [hsl.2.2.1, block_add]
      rcases hob with ⟨_, ⟨⟨cur, hcur, _, _⟩, _, _⟩⟩ | ⟨h1, _⟩ | ⟨_, h1⟩
      · have hsh : w.shape? b.block = some (o.et, cur.size) := by unfold World.shape?; rw [hblk, hcur]
        obtain ⟨g1, g2⟩ := hr.mark (nth_some ho) hl hown hnf hroom (w' := w.freeze { block := b.block, off := cur.size } 1) (freeze_size _ _ _) (fun b' hb' => freeze_other _ _ _ (by simpa [hblk] using hb')) (freeze_cell _ _ _) (by unfold World.freeze; split <;> rfl) (by unfold World.freeze; split <;> rfl) (by unfold World.freeze; split <;> rfl)
        refine ⟨_, _, ?_, ⟨⟨ν, NuLe.refl ν, Keep.refl _ _ _, hx, g1, g2⟩⟩⟩
        simp [convert, run_underlying (hdok.slice hd), run_underlying ((hE.ty _ _ hety).int he), markStringish, hsh]
      · rw [hown] at h1; cases h1
      · omega
    · have := hc.2.1; omega
  · subst hR; simp [fail, allP, Con.h] at hc
end
end Go.Abs
