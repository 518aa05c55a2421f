/- What functions of the given program come to, by the abstract machine: texts of a proof. -/
import Derived.Test.YtlnflmjgnmljeaaP0
import Derived.Test.YtlnflmjgnmljeaaAbs2
set_option linter.unusedVariables false
set_option linter.unusedSimpArgs false
set_option maxRecDepth 8000
namespace Go.Abs
open Go.Proofs.Try
/-! ### nothing, told as a slice of an empty object -/
def subA : Fm → Fm → Prop
  | [], _ => True
  | (t, v) :: r, fm => look fm t = some v ∧ subA r fm
theorem subA_ok {fm : Fm} : ∀ {f : Fm}, subA f fm → ∀ t v, look f t = some v → look fm t = some v
  | [], _, t, v, h => by cases h
  | (s, u) :: r, h, t, v, hl => by
    simp only [look] at hl
    split at hl
    · rename_i e
      have := Nat.eq_of_beq_eq_true e
      subst this
      injection hl with hl; subst hl
      exact h.1
    · exact subA_ok h.2 t v hl
theorem AWp.fmSub {E : Env} {n k : Nat} {c : Code} {fm f : Fm} {T : Tab} {post : AExit → Fm → Tab → Prop} (hs : subA f fm) (h : AWp E n k c f T post) : AWp E n k c fm T post :=
  fun rr D ν a w hr hrd => h rr D ν a w ⟨hr.hr, fun t v hv => hr.fm t v (subA_ok hs t v hv), hr.size, hr.defers⟩ hrd
def fillNil (p : Nat) : AVal → AVal
  | .nilSlice => .slice 1 p 0 0 0 none
  | v => v
theorem small_fill {P : Program} {gl : Nat → Option AVal} {f : FuncId} {args args2 : List AVal} {T T2 : Tab} {v : AVal} {T1 : Tab} (e1 : args2 = args.map (fillNil T.length)) (e2 : T2 = T ++ [some ⟨.ints .u8 [], 0, true, 5⟩]) (h : Small P gl f args2 T2 v T1) : Small P gl f args T v T1 := by
  subst e1 e2
  intro ν w vs hr hvs
  obtain ⟨l0, g1, g2, g3, g4, g5⟩ := hr.pushEmpty .u8 5
  refine (h _ w vs g3 ⟨by simpa using hvs.1, fun i hi => ?_⟩).mono ?_
  · have hi' : i < args.length := by simpa using hi
    have h0 := hvs.2 i hi'
    have e : (args.map (fillNil T.length)).getD i un = fillNil T.length (args.getD i un) := by
      simp [List.getD, List.getElem?_eq_getElem hi']
    rw [e]
    generalize args.getD i un = v at h0 ⊢
    generalize vs.toList.getD i undef = x at h0 ⊢
    cases v with
    | nilSlice => exact VR.nil_slice (upd_same _ _ _) g1 g2 (.inr rfl) (h0.mono g4)
    | _ => exact h0.mono g4
  · rintro e w' ⟨x, ν', rfl, h1, h2, h3, h4⟩
    refine ⟨x, ν', rfl, h1, h2, (g4.b T.length).trans (fun p hp => h3 p (by simp; omega)), ?_⟩
    exact ⟨h4.os, h4.tape, h4.output, h4.size, fun b hb hO => h4.block b hb (fun h => hO (g5 b h)), fun b hb => (h4.own b hb).imp (g5 b) id⟩
theorem HR.pushEmptyG {gl : Nat → Option AVal} {ν : Nu} {T : Tab} {w : World} (hr : HR gl ν T w) (kk : IntKind) (et : TypeId) (gg : Nat) :
    ∃ l0 : Loc, l0.g = gg ∧ l0.room = 0 ∧ HR gl (upd ν T.length l0) (T ++ [some ⟨.ints kk [], gg, true, et⟩]) w ∧ NuLe ν (upd ν T.length l0) ∧ (∀ b, Own (upd ν T.length l0) (T ++ [some ⟨.ints kk [], gg, true, et⟩]) b → Own ν T b) := by
  have hn : ν T.length = none := by
    cases hν : ν T.length with
    | none => rfl
    | some l => have := hr.lt _ l hν; omega
  obtain ⟨l0, hl0⟩ : ∃ l0 : Loc, l0 = ⟨⟨0, 0, none⟩, gg, 0⟩ := ⟨_, rfl⟩
  have hm : NuLe ν (upd ν T.length l0) := NuLe.upd_new (ν := ν) l0 hn
  have same : ∀ p, p ≠ T.length → upd ν T.length l0 p = ν p := fun p hp => upd_other ν l0 hp
  have self : upd ν T.length l0 T.length = some l0 := upd_same ν _ l0
  have getT : ∀ p o, (T ++ [some (⟨.ints kk [], gg, true, et⟩ : AObj)])[p]? = some o → (p < T.length ∧ T[p]? = some o) ∨ (p = T.length ∧ o = some ⟨.ints kk [], gg, true, et⟩) := by
    intro p o ho
    rcases Nat.lt_or_ge p T.length with hp | hp
    · rw [List.getElem?_append_left hp] at ho; exact .inl ⟨hp, ho⟩
    · rw [List.getElem?_append_right hp] at ho
      have hlt := (List.getElem?_eq_some_iff.1 ho).1
      have hp0 : p = T.length := by simp at hlt; omega
      subst hp0
      simp at ho
      exact .inr ⟨rfl, ho.symm⟩
  have hown : ∀ b, Own (upd ν T.length l0) (T ++ [some ⟨.ints kk [], gg, true, et⟩]) b → Own ν T b := by
    rintro b ⟨p, o, l, h1, h2, h3, h4, h5⟩
    rcases getT p _ h1 with ⟨hp, h1⟩ | ⟨hp, h1⟩
    · rw [same p (by omega)] at h3; exact ⟨p, o, l, h1, h2, h3, h4, h5⟩
    · subst hp; rw [self] at h3; injection h3 with h3; subst h3; subst hl0; simp at h4
  refine ⟨l0, by rw [hl0], by rw [hl0], ⟨fun p o l ho hl => ?_, fun p l hl => ?_, fun p hp => ?_, fun p l hl h0 => ?_, fun p q o o' l l' ho ho' hw hne hl hl' h0 h0' => ?_, fun b d hb => ?_⟩, hm, hown⟩
  · rcases getT p _ ho with ⟨hp, h1⟩ | ⟨hp, h1⟩
    · rw [same p (by omega)] at hl
      obtain ⟨g1, g2⟩ := hr.obj p o l h1 hl
      exact ⟨g1, g2.kept hm fun _ => rfl⟩
    · subst hp; rw [self] at hl; injection hl with hl; subst hl; subst hl0
      injection h1 with h1; subst h1
      exact ⟨rfl, .ints _ _, .inr (.inr ⟨rfl, rfl⟩)⟩
  · by_cases e : p = T.length
    · subst e; simp
    · rw [same p e] at hl; have := hr.lt p l hl; simp; omega
  · rcases getT p _ hp with ⟨hp', h1⟩ | ⟨hp', h1⟩
    · rw [same p (by omega)]; exact hr.hole p h1
    · cases h1
  · by_cases e : p = T.length
    · subst e; rw [self] at hl; injection hl with hl; subst hl; subst hl0; simp at h0
    · rw [same p e] at hl; exact hr.blk p l hl h0
  · rcases getT p _ ho with ⟨hp, h1⟩ | ⟨hp, h1⟩
    · rcases getT q _ ho' with ⟨hq, h2⟩ | ⟨hq, h2⟩
      · rw [same p (by omega)] at hl; rw [same q (by omega)] at hl'
        exact hr.sep p q o o' l l' h1 h2 hw hne hl hl' h0 h0'
      · subst hq; rw [self] at hl'; injection hl' with hl'; subst hl'; subst hl0; simp at h0'
    · subst hp; rw [self] at hl; injection hl with hl; subst hl; subst hl0; simp at h0
  · obtain ⟨h1, h2⟩ := hr.glob b d hb
    exact ⟨fun h3 => h1 (hown b h3), h2⟩

theorem To.outNil {E : Env} {n k : Nat} {c : Code} {fm fm1 fm2 : Fm} {T T1 : Tab} {ex : AExit} (kk : IntKind) (et : TypeId) (gg : Nat) (h : To E n k c fm T ex fm1 T1)
    (hf : ∀ t v, look fm2 t = some v → look fm1 t = some v ∨ (look fm1 t = some .nilSlice ∧ v = .slice 1 T1.length gg 0 0 none)) : To E n k c fm T ex fm2 (T1 ++ [some ⟨.ints kk [], gg, true, et⟩]) := by
  intro rr D ν a w hs hrd
  refine wpIn_mono (h rr D ν a w hs hrd) fun e a' w' ⟨ex', fm', T', ν', e1, ⟨e2, e3, e4⟩, ⟨ms, s', mk⟩, n', f'⟩ => ?_
  subst e2 e3 e4
  obtain ⟨l0, g1, g2, g3, g4, g5⟩ := s'.hr.pushEmptyG kk et gg
  refine ⟨ex', fm2, _, _, e1, ⟨rfl, rfl, rfl⟩, ⟨ms, ⟨g3, fun t v hv => ?_, s'.size, s'.defers⟩, mk⟩, n'.trans (g4.b k), f'.sub g5⟩
  rcases hf t v hv with h1 | ⟨h1, rfl⟩
  · exact (s'.fm t v h1).mono g4
  · have := s'.fm t _ h1
    generalize a'.tmps.getD t undef = x at this ⊢
    cases this
    exact .sliceZ none (upd_same _ _ _) g1.symm (.inr ⟨rfl, by rw [g2]; exact Nat.le_refl _⟩)
/-! Clone -/
noncomputable def R70 (zs : List Int) (g off n : Nat) (cp : Option Nat) (ow : Bool) : Res := resG 1 [0,1] (runF (eA []) f70 [] 400 [.slice 1 0 g off n cp] [some ⟨.ints .u8 zs, g, ow, 5⟩] [some false])
theorem R70_ok {zs : List Int} {g off n : Nat} {cp : Option Nat} {ow : Bool} (h : allP [.eqN g g, .leN 1 n, .p (false = false), .leN n 140737488355328, .eqN g g, .leN (off + n) zs.length]) : OkR (R70 zs g off n cp ow) := OkR.dem (fl := [false, false, false, true, true, true, false, false, false, true]) (by kernel_rfl) (by kernel_rfl) (by kernel_rfl) h
theorem R70_val {zs : List Int} {g off n : Nat} {cp : Option Nat} {ow : Bool} : (R70 zs g off n cp ow).val = .slice 1 1 1 0 n none := by kernel_rfl
theorem R70_tab {zs : List Int} {g off n : Nat} {cp : Option Nat} {ow : Bool} : (R70 zs g off n cp ow).tab = [some ⟨.ints .u8 zs, g, ow, 5⟩, some ⟨.ints .u8 ([] ++ List.take n (dropO off zs)), 1, true, 5⟩] := by kernel_rfl
noncomputable def c70a : Code := match bodyOf f70 with | .seq _ (.seq (.seq r _) _) => r | c => c
noncomputable def r70ops : Array Oper := match c70a with | .region _ o _ => o | _ => #[]
noncomputable def r70a : Code := match bodyOf f70 with | .seq r _ => r | c => c
noncomputable def r70b : Code := match bodyOf f70 with | .seq _ (.seq (.seq _ c) _) => c | c => c
noncomputable def r70c : Code := match bodyOf f70 with | .seq _ (.seq (.seq _ _) c) => c | c => c
theorem split70 : bodyOf f70 = .seq r70a (.seq (.seq (.region 1 r70ops false) r70b) r70c) := by kernel_rfl
noncomputable def P70 (zs : List Int) (g off n : Nat) (cp : Option Nat) (ow : Bool) : Out := trim 1 1 [0] (run (eA []) 8 ⟨1, []⟩ 400 r70a [(0, .slice 1 0 g off n cp)] [some ⟨.ints .u8 zs, g, ow, 5⟩] [])
theorem P70_ok {zs : List Int} {g off n : Nat} {cp : Option Nat} {ow : Bool} (h : allP []) : Ok (P70 zs g off n cp ow) := Ok.dem (fl := []) (by kernel_rfl) (by kernel_rfl) (by kernel_rfl) h
theorem P70_ex {zs : List Int} {g off n : Nat} {cp : Option Nat} {ow : Bool} : (P70 zs g off n cp ow).ex = .normal := by kernel_rfl
theorem P70_fm {zs : List Int} {g off n : Nat} {cp : Option Nat} {ow : Bool} : (P70 zs g off n cp ow).fm = [(0, .slice 1 0 g off n cp)] := by kernel_rfl
theorem P70_tab {zs : List Int} {g off n : Nat} {cp : Option Nat} {ow : Bool} : (P70 zs g off n cp ow).tab = [some ⟨.ints .u8 zs, g, ow, 5⟩] := by kernel_rfl
noncomputable def Q70 (zs : List Int) (g off n : Nat) (cp : Option Nat) (ow : Bool) : Out := runOps (eA []) r70ops.toList 8 (r70ops.toList.take 1) [(0, .slice 1 0 g off n cp)] (([some ⟨.ints .u8 zs, g, ow, 5⟩] : Tab) ++ holes (cntA (eA []) (r70ops.toList.take 1))) ([some ⟨.ints .u8 zs, g, ow, 5⟩] : Tab).length []
theorem Q70_ok {zs : List Int} {g off n : Nat} {cp : Option Nat} {ow : Bool} (h : allP []) : Ok (Q70 zs g off n cp ow) := Ok.dem (fl := []) (by kernel_rfl) (by kernel_rfl) (by kernel_rfl) h
theorem Q70_fm {zs : List Int} {g off n : Nat} {cp : Option Nat} {ow : Bool} : (Q70 zs g off n cp ow).fm = [(3, .slice 1 0 g off n cp), (0, .slice 1 0 g off n cp)] := by kernel_rfl
theorem Q70_tab {zs : List Int} {g off n : Nat} {cp : Option Nat} {ow : Bool} : (Q70 zs g off n cp ow).tab = [some ⟨.ints .u8 zs, g, ow, 5⟩] := by kernel_rfl
noncomputable def U70 (zs : List Int) (g off n : Nat) (cp : Option Nat) (ow : Bool) : Out := trim 1 1 [2] (run (eA []) 8 ⟨1, []⟩ 400 r70b [(0, .slice 1 0 g off n cp), (4, .bool true)] [some ⟨.ints .u8 zs, g, ow, 5⟩] [])
theorem U70_ok {zs : List Int} {g off n : Nat} {cp : Option Nat} {ow : Bool} (h : allP []) : Ok (U70 zs g off n cp ow) := Ok.dem (fl := []) (by kernel_rfl) (by kernel_rfl) (by kernel_rfl) h
theorem U70_ex {zs : List Int} {g off n : Nat} {cp : Option Nat} {ow : Bool} : (U70 zs g off n cp ow).ex = .ret := by kernel_rfl
theorem U70_fm {zs : List Int} {g off n : Nat} {cp : Option Nat} {ow : Bool} : (U70 zs g off n cp ow).fm = [(2, .nilSlice)] := by kernel_rfl
theorem U70_tab {zs : List Int} {g off n : Nat} {cp : Option Nat} {ow : Bool} : (U70 zs g off n cp ow).tab = [some ⟨.ints .u8 zs, g, ow, 5⟩] := by kernel_rfl
noncomputable def W70 (zs : List Int) (g off n : Nat) (cp : Option Nat) (ow : Bool) : Out := trim 1 1 [0] (run (eA []) 8 ⟨1, []⟩ 400 r70b [(0, .slice 1 0 g off n cp), (4, .bool false)] [some ⟨.ints .u8 zs, g, ow, 5⟩] [])
theorem W70_ok {zs : List Int} {g off n : Nat} {cp : Option Nat} {ow : Bool} (h : allP []) : Ok (W70 zs g off n cp ow) := Ok.dem (fl := []) (by kernel_rfl) (by kernel_rfl) (by kernel_rfl) h
theorem W70_ex {zs : List Int} {g off n : Nat} {cp : Option Nat} {ow : Bool} : (W70 zs g off n cp ow).ex = .normal := by kernel_rfl
theorem W70_fm {zs : List Int} {g off n : Nat} {cp : Option Nat} {ow : Bool} : (W70 zs g off n cp ow).fm = [(0, .slice 1 0 g off n cp)] := by kernel_rfl
theorem W70_tab {zs : List Int} {g off n : Nat} {cp : Option Nat} {ow : Bool} : (W70 zs g off n cp ow).tab = [some ⟨.ints .u8 zs, g, ow, 5⟩] := by kernel_rfl
noncomputable def Y70 (zs : List Int) (g off n : Nat) (cp : Option Nat) (ow : Bool) : Out := trimG 1 [0,1] [2] (run (eA []) 8 ⟨1, []⟩ 400 r70c [(0, .slice 1 0 g off n cp)] [some ⟨.ints .u8 zs, g, ow, 5⟩] [])
theorem Y70_ok {zs : List Int} {g off n : Nat} {cp : Option Nat} {ow : Bool} (h : allP [.leN n 140737488355328, .eqN g g, .leN (off + n) zs.length]) : Ok (Y70 zs g off n cp ow) := Ok.dem (fl := [true, true, true, false, false, false, true]) (by kernel_rfl) (by kernel_rfl) (by kernel_rfl) h
theorem Y70_ex {zs : List Int} {g off n : Nat} {cp : Option Nat} {ow : Bool} : (Y70 zs g off n cp ow).ex = .ret := by kernel_rfl
theorem Y70_fm {zs : List Int} {g off n : Nat} {cp : Option Nat} {ow : Bool} : (Y70 zs g off n cp ow).fm = [(2, .slice 1 1 1 0 n none)] := by kernel_rfl
theorem Y70_tab {zs : List Int} {g off n : Nat} {cp : Option Nat} {ow : Bool} : (Y70 zs g off n cp ow).tab = [some ⟨.ints .u8 zs, g, ow, 5⟩, some ⟨.ints .u8 ([] ++ List.take n (dropO off zs)), 1, true, 5⟩] := by kernel_rfl
theorem eq70 : ∃ oy : Oper, r70ops.toList = r70ops.toList.take 1 ++ [oy] ∧ oy.op = .binOp .eql 25 (.tmp 3) (.const (.slice none 0 0)) 25 ∧ oy.guard = none ∧ oy.dst = some 4 := ⟨r70ops.toList.getD 1 default, by kernel_rfl, by kernel_rfl, by kernel_rfl, by kernel_rfl⟩
noncomputable def sm70c (args : List AVal) (T : Tab) (zs : List Int) (g : Nat) (off : Nat) (n : Nat) (cp : Option Nat) (ow : Bool) : Res := ⟨[.tab T [some ⟨.ints .u8 zs, g, ow, 5⟩], .val (.tuple args) (.tuple [.slice 1 0 g off n cp]), .leN (off + n) zs.length, .leN n 140737488355000], .slice 1 1 1 0 n none, [some ⟨.ints .u8 zs, g, ow, 5⟩, some ⟨.ints .u8 (subLaw zs off n), 1, true, 5⟩]⟩
theorem sm70c_ok {args : List AVal} {T : Tab} {zs : List Int} {g : Nat} {off : Nat} {n : Nat} {cp : Option Nat} {ow : Bool} (h : allP (sm70c args T zs g off n cp ow).cs) : Small prog (fun _ => none) 70 args T (sm70c args T zs g off n cp ow).val (sm70c args T zs g off n cp ow).tab := by
  obtain ⟨hT, hv, h1, h2, _⟩ := h
  simp only [Con.h] at hT hv h1 h2
  injection hv with hv
  subst hT hv
  by_cases hn : 1 ≤ n
  · refine small_ofG (R := R70 zs g off n cp ow) (keep := [0,1]) eA0_ok hmA (f := 70) (fn := f70) (by kernel_rfl) (by kernel_rfl) FnOrc.nil rfl (R70_ok ?_) R70_val (by rw [R70_tab]; simp only [dropO_eq, List.nil_append]; rfl)
    simp only [allP, Con.h, hn, h1, eq_self, true_and, and_true]
    omega
  · obtain rfl : n = 0 := by omega
    have hs0 : subLaw zs off 0 = [] := by unfold subLaw; exact List.take_zero
    obtain ⟨oy, q1, q2, q3, q4⟩ := eq70
    refine small_of_awp eA0_ok (f := 70) (fn := f70) (c := bodyOf f70) (by kernel_rfl) (by kernel_rfl) (by kernel_rfl) ?_
    rw [split70]
    show AWp (eA []) 8 1 _ [(0, .slice 1 0 g off 0 cp)] _ _
    refine AWp.seq (AWp.mono (To.of (o := P70 zs g off 0 cp ow) eA0_ok hmA (Nat.le_refl 1) OrcOk.nil rfl (P70_ok trivial) P70_ex P70_fm P70_tab) fun ex fm T hP => ?_)
    obtain ⟨rfl, rfl, rfl⟩ := hP
    refine AWp.seq (AWp.seq (AWp.eqNil eA0_ok q1 (ds1 := []) (o1 := Q70 zs g off 0 cp ow) rfl (Q70_ok trivial) q2 q3 q4 (by decide) (e := 5) (by kernel_rfl) (sz := 1) (p := 0) (g := g) (off := off) (len := 0) (cap := cp) (o := ⟨.ints .u8 zs, g, ow, 5⟩) (by rw [Q70_fm]; rfl) (by kernel_rfl) (by rw [Q70_tab]; rfl) rfl (fun b => ?_)))
    rw [Q70_fm, Q70_tab]
    cases b with
    | true =>
      refine AWp.mono (To.outNil (fm2 := [(2, .slice 1 1 1 0 0 none)]) .u8 5 1 (AWp.fmSub (f := [(0, .slice 1 0 g off 0 cp), (4, .bool true)]) ⟨rfl, rfl, trivial⟩ (To.of (o := U70 zs g off 0 cp ow) eA0_ok hmA (Nat.le_refl 1) OrcOk.nil rfl (U70_ok trivial) U70_ex U70_fm U70_tab)) (fun t v hv => ?_)) fun ex fm T hP => ?_
      · simp only [look] at hv
        split at hv
        · rename_i e
          have := Nat.eq_of_beq_eq_true e
          subst this
          injection hv with hv; subst hv
          exact .inr ⟨rfl, rfl⟩
        · cases hv
      · obtain ⟨rfl, rfl, rfl⟩ := hP
        refine ⟨.inr rfl, ?_, _, _, rfl, trivial, rfl⟩
        show _ = [_, some (⟨.ints .u8 (subLaw zs off 0), 1, true, 5⟩ : AObj)]
        rw [hs0]; rfl
    | false =>
      refine AWp.mono (AWp.fmSub (f := [(0, .slice 1 0 g off 0 cp), (4, .bool false)]) ⟨rfl, rfl, trivial⟩ (To.of (o := W70 zs g off 0 cp ow) eA0_ok hmA (Nat.le_refl 1) OrcOk.nil rfl (W70_ok trivial) W70_ex W70_fm W70_tab)) fun ex fm T hP => ?_
      obtain ⟨rfl, rfl, rfl⟩ := hP
      refine AWp.mono (To.ofG (o := Y70 zs g off 0 cp ow) eA0_ok hmA (Nat.le_refl 1) OrcOk.nil rfl (Y70_ok (by simp only [allP, Con.h, h1, eq_self, true_and, and_true]; omega)) Y70_ex Y70_fm Y70_tab) fun ex fm T hP => ?_
      obtain ⟨rfl, rfl, rfl⟩ := hP
      refine ⟨.inr rfl, ?_, _, _, rfl, trivial, rfl⟩
      show [_, some (⟨.ints .u8 ([] ++ List.take 0 (dropO off zs)), 1, true, 5⟩ : AObj)] = [_, some (⟨.ints .u8 (subLaw zs off 0), 1, true, 5⟩ : AObj)]
      rw [hs0, List.take_zero]; rfl
noncomputable def sm70 : Summary := fun args T => sm70c args T (xsAt T 0) (gAt T 0) (offOf (vAt args 0)) (lenOf (vAt args 0)) (capOf (vAt args 0)) (owAt T 0)
theorem sm70_ok : SmOk prog (fun _ => none) 70 sm70 := fun args T h => sm70c_ok h
noncomputable def S70 : Summary := callR sm70 []
theorem S70_ok : SumOk prog (fun _ => none) 70 S70 := callR_ok sm70_ok []
end Go.Abs

set_option linter.unusedVariables false
set_option linter.unusedSimpArgs false
set_option maxRecDepth 8000
namespace Go.Abs
open Go.Proofs.Try
/-! ### counters -/
noncomputable def eGc : Env := eA [(23, S23), (70, S70)]
theorem eGc_ok : EnvOk eGc := envOf_ok tysA_ok (SumsOk.cons (fn := f23) S23_ok (by kernel_rfl) (by kernel_rfl) (by kernel_rfl) (SumsOk.cons (fn := f70) S70_ok (by kernel_rfl) (by kernel_rfl) (by kernel_rfl) trivial))
noncomputable def R71 (zs ns : List Int) (gk gn : Nat) (cpk cpn : Option Nat) (m : Int) : Res := resG 2 [0,1,5] (runF eGc f71 [] 400 [.agg [.slice 1 0 gk 0 16 cpk, .slice 1 1 gn 0 12 cpn], .int .i64 m] [some ⟨.ints .u8 zs, gk, false, 5⟩, some ⟨.ints .u8 ns, gn, false, 5⟩] [])
theorem R71_ok {zs ns : List Int} {gk gn : Nat} {cpk cpn : Option Nat} {m : Int} (h : allP [.eqN gn gn, .leN 12 ns.length, .leN 12 (subLaw ns 0 12).length, .eqN gk gk, .eqN gk gk, .leN 16 zs.length, .leN 16 (List.take 12 (subLaw ns 0 12) ++ [m / 16777216 % 256, m / 65536 % 256, m / 256 % 256, m % 256]).length, .p (Bytes (subLaw zs 0 16)), .p (Bytes (subLaw (List.take 12 (subLaw ns 0 12) ++ [m /
 16777216 % 256, m / 65536 % 256, m / 256 % 256, m % 256]) 0 16))]) : OkR (R71 zs ns gk gn cpk cpn m) := OkR.dem (fl := bitsF 77 3092711372111604734934) (by kernel_rfl) (by kernel_rfl) (by kernel_rfl) h
theorem R71_val {zs ns : List Int} {gk gn : Nat} {cpk cpn : Option Nat} {m : Int} : (R71 zs ns gk gn cpk cpn m).val = .slice 1 2 0 0 16 (some 16) := by kernel_rfl
theorem R71_tab {zs ns : List Int} {gk gn : Nat} {cpk cpn : Option Nat} {m : Int} : (R71 zs ns gk gn cpk cpn m).tab = [some ⟨.ints .u8 zs, gk, false, 5⟩, some ⟨.ints .u8 ns, gn, false, 5⟩, some ⟨.ints .u8 (blockLaw (ksLaw (subLaw zs 0 16) 176) (subLaw (List.take 12 (subLaw ns 0 12) ++ [m / 16777216 % 256, m / 65536 % 256, m / 256 % 256, m % 256]) 0 16)), 0, true, 48⟩] := by kernel_rfl
def fourLaw (m : Int) : List Int := [m / 16777216 % 256, m / 65536 % 256, m / 256 % 256, m % 256]
theorem four_bytes (m : Int) : Bytes (fourLaw m) := fun i hi => by
  match i, hi with
  | 0, _ => exact ⟨Int.emod_nonneg _ (by decide), Int.emod_lt_of_pos _ (by decide)⟩
  | 1, _ => exact ⟨Int.emod_nonneg _ (by decide), Int.emod_lt_of_pos _ (by decide)⟩
  | 2, _ => exact ⟨Int.emod_nonneg _ (by decide), Int.emod_lt_of_pos _ (by decide)⟩
  | 3, _ => exact ⟨Int.emod_nonneg _ (by decide), Int.emod_lt_of_pos _ (by decide)⟩
  | i + 4, hi => simp [fourLaw] at hi; omega
def ctLaw (K N : List Int) (m : Int) : List Int := blockLaw (ksLaw K 176) (N ++ fourLaw m)
theorem ct_bytes {K N : List Int} (hk : Bytes K) (hn : Bytes N) (m : Int) : Bytes (ctLaw K N m) := enc_bytes (ksLaw_bytes hk 176) (hn.append (four_bytes m)) 10
theorem sub_n {l : List Int} {n : Nat} (h : l.length = n) : subLaw l 0 n = l := by unfold subLaw; rw [List.drop_zero, List.take_of_length_le (by omega)]
theorem take_n {l : List Int} {n : Nat} (h : l.length = n) : List.take n l = l := List.take_of_length_le (by omega)
noncomputable def sm71c (args : List AVal) (T : Tab) (zs : List Int) (ns : List Int) (gk : Nat) (gn : Nat) (cpk : Option Nat) (cpn : Option Nat) (m : Int) : Res := ⟨[.tab T [some ⟨.ints .u8 zs, gk, false, 5⟩, some ⟨.ints .u8 ns, gn, false, 5⟩], .val (.tuple args) (.tuple [.agg [.slice 1 0 gk 0 16 cpk, .slice 1 1 gn 0 12 cpn], .int .i64 m]), .leN 16 zs.length, .leN 12 ns.length, .p (Bytes zs), .p (Bytes ns), .leI 0 m], .slice 1 2 0 0 16 (some 16), [some ⟨.ints .u8 zs, gk, false, 5⟩, some ⟨.ints .u8 ns, gn, false, 5⟩, some ⟨.ints .u8 (ctLaw (subLaw zs 0 16) (subLaw ns 0 12) m), 0, true, 48⟩]⟩
theorem sm71c_ok {args : List AVal} {T : Tab} {zs : List Int} {ns : List Int} {gk : Nat} {gn : Nat} {cpk : Option Nat} {cpn : Option Nat} {m : Int} (h : allP (sm71c args T zs ns gk gn cpk cpn m).cs) : Small prog (fun _ => none) 71 args T (sm71c args T zs ns gk gn cpk cpn m).val (sm71c args T zs ns gk gn cpk cpn m).tab := by
  obtain ⟨hT, hv, h1, h2, h3, h4, h5, _⟩ := h
  simp only [Con.h] at hT hv h1 h2 h3 h4 h5
  injection hv with hv
  subst hT hv
  have l1 : (subLaw ns 0 12).length = 12 := subLaw_len (by omega)
  have b1 := sub_bytes h3 0 16
  have b2 := sub_bytes h4 0 12
  have l2 : ((subLaw ns 0 12) ++ fourLaw m).length = 16 := by rw [List.length_append, l1]; rfl
  have b3 := b2.append (four_bytes m)
  have et : List.take 12 (subLaw ns 0 12) ++ [m / 16777216 % 256, m / 65536 % 256, m / 256 % 256, m % 256] = (subLaw ns 0 12) ++ fourLaw m := by rw [take_n l1]; rfl
  refine small_ofG (R := R71 zs ns gk gn cpk cpn m) (keep := [0,1,5]) eGc_ok hmA (f := 71) (fn := f71) (by kernel_rfl) (by kernel_rfl) FnOrc.nil rfl (R71_ok ?_) R71_val (by rw [R71_tab, et, sub_n l2]; rfl)
  rw [et, sub_n l2]
  simp only [allP, Con.h, l1, l2, b1, b2, b3, h1, h2, eq_self, true_and, and_true]
  first | omega | decide
noncomputable def sm71 : Summary := fun args T => sm71c args T (xsAt T 0) (xsAt T 1) (gAt T 0) (gAt T 1) (capOf (vAt (vsOf (vAt args 0)) 0)) (capOf (vAt (vsOf (vAt args 0)) 1)) (iOf (vAt args 1))
theorem sm71_ok : SmOk prog (fun _ => none) 71 sm71 := fun args T h => sm71c_ok h
noncomputable def S71 : Summary := callR sm71 []
theorem S71_ok : SumOk prog (fun _ => none) 71 S71 := callR_ok sm71_ok []
/-! ### turn -/
noncomputable def eGt : Env := eA [(70, S70), (71, S71)]
theorem eGt_ok : EnvOk eGt := envOf_ok tysA_ok (SumsOk.cons (fn := f70) S70_ok (by kernel_rfl) (by kernel_rfl) (by kernel_rfl) (SumsOk.cons (fn := f71) S71_ok (by kernel_rfl) (by kernel_rfl) (by kernel_rfl) trivial))
noncomputable def A54 (zs ns : List Int) (gk gn : Nat) (cpk cpn : Option Nat) (ts : List Int) (gt : Nat) (owt : Bool) (n : Nat) (xs c : List Int) (i k : Int) : Out := trim 6 6 [2,5,6,21,22,23] (run eGt 45 ⟨6, []⟩ 400 (roundOf 2 f54) [(2, .var 3 0), (5, .slice 1 4 1 0 n none), (6, .int .i64 i), (21, .slice 1 5 0 0 16 (some 16)), (22, .int .i64 16), (23, .int .i64 k)] [some ⟨.ints .u8 zs, gk, false, 5⟩, some ⟨.ints .u8 ns, gn, false, 5⟩, some ⟨.ints .u8 ts, gt, owt, 5⟩, some ⟨.agg [.slice 1 0 gk 0 16 cpk, .slice 1 1 gn 0 12 cpn], 0, true, 60⟩, some ⟨.ints .u8 xs, 1, true, 5⟩, some ⟨.ints .u8 c, 0, true, 48⟩] [some true, some true])
theorem A54_ok {zs ns : List Int} {gk gn : Nat} {cpk cpn : Option Nat} {ts : List Int} {gt : Nat} {owt : Bool} {n : Nat} {xs c : List Int} {i k : Int} (h : allP [.p (decide (k < 16) = true), .leI 0 k, .leI (k + 1) 16, .leN (k.toNat + 1) c.length, .rng (-9223372036854775808) (i + k) 9223372036854775807, .p (decide (i + k < (↑n : Int)) = true), .rng (-9223372036854775808) (i + k) 9223372036854775807,
 .leI 0 (i + k), .leI (i + k + 1) (↑n : Int), .leN ((i + k).toNat + 1) xs.length, .nn .u8 (xs.getD (i + k).toNat 0), .nn .u8 (c.getD k.toNat 0), .leI 0 (i + k), .leI (i + k + 1) (↑n : Int), .leN ((i + k).toNat + 1) xs.length, .rng (-9223372036854775808) (k + 1) 9223372036854775807]) : Ok (A54 zs ns gk gn cpk cpn ts gt owt n xs c i k) := Ok.dem (fl := bitsF 25 11674770) (by kernel_rfl) (by
 kernel_rfl) (by kernel_rfl) h
theorem A54_ex {zs ns : List Int} {gk gn : Nat} {cpk cpn : Option Nat} {ts : List Int} {gt : Nat} {owt : Bool} {n : Nat} {xs c : List Int} {i k : Int} : (A54 zs ns gk gn cpk cpn ts gt owt n xs c i k).ex = .normal := by kernel_rfl
theorem A54_fm {zs ns : List Int} {gk gn : Nat} {cpk cpn : Option Nat} {ts : List Int} {gt : Nat} {owt : Bool} {n : Nat} {xs c : List Int} {i k : Int} : (A54 zs ns gk gn cpk cpn ts gt owt n xs c i k).fm = [(2, .var 3 0), (5, .slice 1 4 1 0 n none), (6, .int .i64 i), (21, .slice 1 5 0 0 16 (some 16)), (22, .int .i64 16), (23, .int .i64 (k + 1))] := by kernel_rfl
theorem A54_tab {zs ns : List Int} {gk gn : Nat} {cpk cpn : Option Nat} {ts : List Int} {gt : Nat} {owt : Bool} {n : Nat} {xs c : List Int} {i k : Int} : (A54 zs ns gk gn cpk cpn ts gt owt n xs c i k).tab = [some ⟨.ints .u8 zs, gk, false, 5⟩, some ⟨.ints .u8 ns, gn, false, 5⟩, some ⟨.ints .u8 ts, gt, owt, 5⟩, some ⟨.agg [.slice 1 0 gk 0 16 cpk, .slice 1 1 gn 0 12 cpn], 0, true, 60⟩, some ⟨.ints .u8
 (xs.set (i + k).toNat (ixor (xs.getD (i + k).toNat 0) (c.getD k.toNat 0))), 1, true, 5⟩, some ⟨.ints .u8 c, 0, true, 48⟩] := by kernel_rfl
noncomputable def B54 (zs ns : List Int) (gk gn : Nat) (cpk cpn : Option Nat) (ts : List Int) (gt : Nat) (owt : Bool) (n : Nat) (xs c : List Int) (i k : Int) : Out := trim 6 6 [2,5,6,21,22,23] (run eGt 45 ⟨6, []⟩ 400 (roundOf 2 f54) [(2, .var 3 0), (5, .slice 1 4 1 0 n none), (6, .int .i64 i), (21, .slice 1 5 0 0 16 (some 16)), (22, .int .i64 16), (23, .int .i64 k)] [some ⟨.ints .u8 zs, gk, false, 5⟩, some ⟨.ints .u8 ns, gn, false, 5⟩, some ⟨.ints .u8 ts, gt, owt, 5⟩, some ⟨.agg [.slice 1 0 gk 0 16 cpk, .slice 1 1 gn 0 12 cpn], 0, true, 60⟩, some ⟨.ints .u8 xs, 1, true, 5⟩, some ⟨.ints .u8 c, 0, true, 48⟩] [some true, some false])
theorem B54_ok {zs ns : List Int} {gk gn : Nat} {cpk cpn : Option Nat} {ts : List Int} {gt : Nat} {owt : Bool} {n : Nat} {xs c : List Int} {i k : Int} (h : allP [.p (decide (k < 16) = true), .leI 0 k, .leI (k + 1) 16, .leN (k.toNat + 1) c.length, .rng (-9223372036854775808) (i + k) 9223372036854775807, .p (decide (i + k < (↑n : Int)) = false), .rng (-9223372036854775808) (k + 1)
 9223372036854775807]) : Ok (B54 zs ns gk gn cpk cpn ts gt owt n xs c i k) := Ok.dem (fl := [false, true, false, false, true, false, false, true, false, false]) (by kernel_rfl) (by kernel_rfl) (by kernel_rfl) h
theorem B54_ex {zs ns : List Int} {gk gn : Nat} {cpk cpn : Option Nat} {ts : List Int} {gt : Nat} {owt : Bool} {n : Nat} {xs c : List Int} {i k : Int} : (B54 zs ns gk gn cpk cpn ts gt owt n xs c i k).ex = .normal := by kernel_rfl
theorem B54_fm {zs ns : List Int} {gk gn : Nat} {cpk cpn : Option Nat} {ts : List Int} {gt : Nat} {owt : Bool} {n : Nat} {xs c : List Int} {i k : Int} : (B54 zs ns gk gn cpk cpn ts gt owt n xs c i k).fm = [(2, .var 3 0), (5, .slice 1 4 1 0 n none), (6, .int .i64 i), (21, .slice 1 5 0 0 16 (some 16)), (22, .int .i64 16), (23, .int .i64 (k + 1))] := by kernel_rfl
theorem B54_tab {zs ns : List Int} {gk gn : Nat} {cpk cpn : Option Nat} {ts : List Int} {gt : Nat} {owt : Bool} {n : Nat} {xs c : List Int} {i k : Int} : (B54 zs ns gk gn cpk cpn ts gt owt n xs c i k).tab = [some ⟨.ints .u8 zs, gk, false, 5⟩, some ⟨.ints .u8 ns, gn, false, 5⟩, some ⟨.ints .u8 ts, gt, owt, 5⟩, some ⟨.agg [.slice 1 0 gk 0 16 cpk, .slice 1 1 gn 0 12 cpn], 0, true, 60⟩, some ⟨.ints .u8
 xs, 1, true, 5⟩, some ⟨.ints .u8 c, 0, true, 48⟩] := by kernel_rfl
noncomputable def D54 (zs ns : List Int) (gk gn : Nat) (cpk cpn : Option Nat) (ts : List Int) (gt : Nat) (owt : Bool) (n : Nat) (xs c : List Int) (i : Int) : Out := trim 6 6 [2,5,6] (run eGt 45 ⟨6, []⟩ 400 (roundOf 2 f54) [(2, .var 3 0), (5, .slice 1 4 1 0 n none), (6, .int .i64 i), (21, .slice 1 5 0 0 16 (some 16)), (22, .int .i64 16), (23, .int .i64 16)] [some ⟨.ints .u8 zs, gk, false, 5⟩, some ⟨.ints .u8 ns, gn, false, 5⟩, some ⟨.ints .u8 ts, gt, owt, 5⟩, some ⟨.agg [.slice 1 0 gk 0 16 cpk, .slice 1 1 gn 0 12 cpn], 0, true, 60⟩, some ⟨.ints .u8 xs, 1, true, 5⟩, some ⟨.ints .u8 c, 0, true, 48⟩] [])
theorem D54_ok {zs ns : List Int} {gk gn : Nat} {cpk cpn : Option Nat} {ts : List Int} {gt : Nat} {owt : Bool} {n : Nat} {xs c : List Int} {i : Int} (h : allP []) : Ok (D54 zs ns gk gn cpk cpn ts gt owt n xs c i) := Ok.dem (fl := []) (by kernel_rfl) (by kernel_rfl) (by kernel_rfl) h
theorem D54_ex {zs ns : List Int} {gk gn : Nat} {cpk cpn : Option Nat} {ts : List Int} {gt : Nat} {owt : Bool} {n : Nat} {xs c : List Int} {i : Int} : (D54 zs ns gk gn cpk cpn ts gt owt n xs c i).ex = .exit 2 := by kernel_rfl
theorem D54_fm {zs ns : List Int} {gk gn : Nat} {cpk cpn : Option Nat} {ts : List Int} {gt : Nat} {owt : Bool} {n : Nat} {xs c : List Int} {i : Int} : (D54 zs ns gk gn cpk cpn ts gt owt n xs c i).fm = [(2, .var 3 0), (5, .slice 1 4 1 0 n none), (6, .int .i64 i)] := by kernel_rfl
theorem D54_tab {zs ns : List Int} {gk gn : Nat} {cpk cpn : Option Nat} {ts : List Int} {gt : Nat} {owt : Bool} {n : Nat} {xs c : List Int} {i : Int} : (D54 zs ns gk gn cpk cpn ts gt owt n xs c i).tab = [some ⟨.ints .u8 zs, gk, false, 5⟩, some ⟨.ints .u8 ns, gn, false, 5⟩, some ⟨.ints .u8 ts, gt, owt, 5⟩, some ⟨.agg [.slice 1 0 gk 0 16 cpk, .slice 1 1 gn 0 12 cpn], 0, true, 60⟩, some ⟨.ints .u8 xs,
 1, true, 5⟩, some ⟨.ints .u8 c, 0, true, 48⟩] := by kernel_rfl
def xk2Law (c xs : List Int) (i : Nat) : Nat → List Int
  | 0 => xs
  | k + 1 => if i + k < xs.length then (xk2Law c xs i k).set (i + k) (ixor ((xk2Law c xs i k).getD (i + k) 0) (c.getD k 0)) else xk2Law c xs i k
theorem bx_len (c xs : List Int) (i : Nat) : ∀ k, (xk2Law c xs i k).length = xs.length
  | 0 => rfl
  | k + 1 => by unfold xk2Law; split <;> simp only [List.length_set, bx_len c xs i k]
theorem Bytes.set {l : List Int} (h : Bytes l) (i : Nat) {v : Int} (hv : 0 ≤ v ∧ v < 256) : Bytes (l.set i v) := fun j hj => by
  rw [List.getD_eq_getElem?_getD, List.getElem?_set]
  have := h.get j
  rw [List.getD_eq_getElem?_getD] at this
  split
  · split
    · exact hv
    · exact ⟨Int.le_refl 0, by decide⟩
  · exact this
theorem bx_bytes {c xs : List Int} (hc : Bytes c) (hx : Bytes xs) (i : Nat) : ∀ k, Bytes (xk2Law c xs i k)
  | 0 => hx
  | k + 1 => by
    unfold xk2Law
    split
    · exact (bx_bytes hc hx i k).set _ (ixor_lt8 ((bx_bytes hc hx i k).get _) (hc.get _))
    · exact bx_bytes hc hx i k
def xkLaw (c xs : List Int) (i : Nat) : List Int := xk2Law c xs i 16
theorem loop54 {zs ns : List Int} {gk gn : Nat} {cpk cpn : Option Nat} {ts : List Int} {gt : Nat} {owt : Bool} {n : Nat} {xs c : List Int} (hn : n = xs.length) (hb : n ≤ 140737488352000) (hx : Bytes xs) (hc : Bytes c) (hl : c.length = 16) {i : Nat} (hi : i ≤ n) : To eGt 45 6 (.block 2 (.loop (roundOf 2 f54))) [(2, .var 3 0), (5, .slice 1 4 1 0 n none), (6, .int .i64 (i : Nat)), (21, .slice 1 5 0 0 16 (some 16)), (22, .int .i64 16), (23, .int .i64 0)] [some ⟨.ints .u8 zs, gk, false, 5⟩, some ⟨.ints .u8 ns, gn, false, 5⟩, some ⟨.ints .u8 ts, gt, owt, 5⟩, some ⟨.agg [.slice 1 0 gk 0 16 cpk, .slice 1 1 gn 0 12 cpn], 0, true, 60⟩, some ⟨.ints .u8 xs, 1, true, 5⟩, some ⟨.ints .u8 c, 0, true, 48⟩] .normal [(2, .var 3 0), (5, .slice 1 4 1 0 n none), (6, .int .i64 (i : Nat))] [some ⟨.ints .u8 zs, gk, false, 5⟩, some ⟨.ints .u8 ns, gn, false, 5⟩, some ⟨.ints .u8 ts, gt, owt, 5⟩, some ⟨.agg [.slice 1 0 gk 0 16 cpk, .slice 1 1 gn 0 12 cpn], 0, true, 60⟩, some ⟨.ints .u8 (xkLaw c xs i), 1, true, 5⟩, some ⟨.ints .u8 c, 0, true, 48⟩] := by
  refine To.rounds (fun k : Nat => [(2, .var 3 0), (5, .slice 1 4 1 0 n none), (6, .int .i64 (i : Nat)), (21, .slice 1 5 0 0 16 (some 16)), (22, .int .i64 16), (23, .int .i64 (k : Nat))]) (fun k => [some ⟨.ints .u8 zs, gk, false, 5⟩, some ⟨.ints .u8 ns, gn, false, 5⟩, some ⟨.ints .u8 ts, gt, owt, 5⟩, some ⟨.agg [.slice 1 0 gk 0 16 cpk, .slice 1 1 gn 0 12 cpn], 0, true, 60⟩, some ⟨.ints .u8 (xk2Law c xs i k), 1, true, 5⟩, some ⟨.ints .u8 c, 0, true, 48⟩]) 16 (fun k hk => ?_) (To.of (o := D54 zs ns gk gn cpk cpn ts gt owt n (xk2Law c xs i 16) c (i : Nat)) eGt_ok hmA (Nat.le_refl 6) OrcOk.nil rfl (D54_ok trivial) D54_ex D54_fm D54_tab)
  have h1 := bx_len c xs i k
  have h2 := (bx_bytes hc hx i k).get (i + k)
  have h3 := hc.get k
  have e : ((i : Int) + k).toNat = i + k := by omega
  by_cases h : i + k < n
  · refine To.of (o := A54 zs ns gk gn cpk cpn ts gt owt n (xk2Law c xs i k) c (i : Nat) (k : Nat)) eGt_ok hmA (Nat.le_refl 6) OrcOk.nil rfl (A54_ok ?_) A54_ex A54_fm ?_
    · rw [e]
      simp only [allP, Con.h, nonneg, addO_eq, Nat.zero_add, Nat.add_zero, Int.toNat_natCast, h1, hl, decide_eq_true_eq, eq_self, true_and, and_true]
      omega
    · rw [A54_tab, e]
      simp only [addO_eq, Nat.zero_add, Nat.add_zero, Int.toNat_natCast]
      rw [show xk2Law c xs i (k + 1) = (xk2Law c xs i k).set (i + k) (ixor ((xk2Law c xs i k).getD (i + k) 0) (c.getD k 0)) from if_pos (by omega)]
  · refine To.of (o := B54 zs ns gk gn cpk cpn ts gt owt n (xk2Law c xs i k) c (i : Nat) (k : Nat)) eGt_ok hmA (Nat.le_refl 6) OrcOk.nil rfl (B54_ok ?_) B54_ex B54_fm ?_
    · simp only [allP, Con.h, nonneg, addO_eq, Nat.zero_add, Nat.add_zero, Int.toNat_natCast, h1, hl, decide_eq_true_eq, decide_eq_false_iff_not, eq_self, true_and, and_true]
      omega
    · rw [B54_tab, show xk2Law c xs i (k + 1) = xk2Law c xs i k from if_neg (by omega)]
noncomputable def g54ic (vs : List AVal) (T : Tab) (zs : List Int) (ns : List Int) (gk : Nat) (gn : Nat) (cpk : Option Nat) (cpn : Option Nat) (ts : List Int) (gt : Nat) (owt : Bool) (n : Nat) (xs : List Int) (c : List Int) (i : Nat) (ii : Int) : Out := ⟨[.tab T [some ⟨.ints .u8 zs, gk, false, 5⟩, some ⟨.ints .u8 ns, gn, false, 5⟩, some ⟨.ints .u8 ts, gt, owt, 5⟩, some ⟨.agg [.slice 1 0 gk 0 16 cpk, .slice 1 1 gn 0 12 cpn], 0, true, 60⟩, some ⟨.ints .u8 xs, 1, true, 5⟩, some ⟨.ints .u8 c, 0, true, 48⟩], .val (.tuple vs) (.tuple [.var 3 0, .slice 1 4 1 0 n none, .int .i64 ii, .slice 1 5 0 0 16 (some 16), .int .i64 16, .int .i64 0]), .eqN n xs.length, .leN n 140737488352000, .p (Bytes xs), .p (Bytes c), .eqN c.length 16, .p (ii = (i : Nat)), .leN i n], .normal, [(2, .var 3 0), (5, .slice 1 4 1 0 n none), (6, .int .i64 ii)], [some ⟨.ints .u8 zs, gk, false, 5⟩, some ⟨.ints .u8 ns, gn, false, 5⟩, some ⟨.ints .u8 ts, gt, owt, 5⟩, some ⟨.agg [.slice 1 0 gk 0 16 cpk, .slice 1 1 gn 0 12 cpn], 0, true, 60⟩, some ⟨.ints .u8 (xkLaw c xs i), 1, true, 5⟩, some ⟨.ints .u8 c, 0, true, 48⟩], []⟩
theorem g54ic_ok {vs : List AVal} {T : Tab} {zs : List Int} {ns : List Int} {gk : Nat} {gn : Nat} {cpk : Option Nat} {cpn : Option Nat} {ts : List Int} {gt : Nat} {owt : Bool} {n : Nat} {xs : List Int} {c : List Int} {i : Nat} {ii : Int} (h : Ok (g54ic vs T zs ns gk gn cpk cpn ts gt owt n xs c i ii)) : To eGt 45 6 (.block 2 (.loop (roundOf 2 f54))) (zipF [2,5,6,21,22,23] vs) T (g54ic vs T zs ns gk gn cpk cpn ts gt owt n xs c i ii).ex (g54ic vs T zs ns gk gn cpk cpn ts gt owt n xs c i ii).fm (g54ic vs T zs ns gk gn cpk cpn ts gt owt n xs c i ii).tab := by
  obtain ⟨hT, hv, h1, h2, h3, h4, h5, h6, h7, _⟩ := h.h
  simp only [Con.h] at hT hv h1 h2 h3 h4 h5 h6 h7
  injection hv with hv
  subst hT hv
  subst h6
  exact loop54 h1 h2 h3 h4 h5 h7
noncomputable def g54i : List AVal → Tab → Out := fun vs T => g54ic vs T (xsAt T 0) (xsAt T 1) (gAt T 0) (gAt T 1) (capOf (cAt T 3 0)) (capOf (cAt T 3 1)) (xsAt T 2) (gAt T 2) (owAt T 2) (lenOf (vAt vs 1)) (xsAt T 4) (xsAt T 5) ((iOf (vAt vs 2)).toNat) (iOf (vAt vs 2))
theorem g54i_ok : BlkOk eGt f54 2 (.loop (roundOf 2 f54)) (blkS 6 [2,5,6,21,22,23] g54i) := blkS_ok fun vs T h => g54ic_ok h
noncomputable def orc54i : OrcL := [(2, blkS 6 [2,5,6,21,22,23] g54i)]
noncomputable def O54 (zs ns : List Int) (gk gn : Nat) (cpk cpn : Option Nat) (ts : List Int) (gt : Nat) (owt : Bool) (n : Nat) (xs : List Int) (i : Int) : Out := trim 5 5 [2,5,6] (run eGt 45 ⟨5, orc54i⟩ 400 (roundOf 0 f54) [(2, .var 3 0), (5, .slice 1 4 1 0 n none), (6, .int .i64 i)] [some ⟨.ints .u8 zs, gk, false, 5⟩, some ⟨.ints .u8 ns, gn, false, 5⟩, some ⟨.ints .u8 ts, gt, owt, 5⟩, some ⟨.agg [.slice 1 0 gk 0 16 cpk, .slice 1 1 gn 0 12 cpn], 0, true, 60⟩, some ⟨.ints .u8 xs, 1, true, 5⟩] [some true])
theorem O54_ok {zs ns : List Int} {gk gn : Nat} {cpk cpn : Option Nat} {ts : List Int} {gt : Nat} {owt : Bool} {n : Nat} {xs : List Int} {i : Int} (h : allP [.p (decide (i < (↑n : Int)) = true), .rng (-9223372036854775808) (i.tdiv 16) 9223372036854775807, .rng (-9223372036854775808) (2 + i.tdiv 16) 9223372036854775807, .eqN gk gk, .eqN gn gn, .leN 16 zs.length, .leN 12 ns.length, .p (Bytes zs), .p
 (Bytes ns), .leI 0 (2 + i.tdiv 16), .eqN n xs.length, .leN n 140737488352000, .p (Bytes xs), .p (Bytes (ctLaw (subLaw zs 0 16) (subLaw ns 0 12) (2 + i.tdiv 16))), .p (i = (↑i.toNat : Int)), .leN i.toNat n, .rng (-9223372036854775808) (i + 16) 9223372036854775807]) : Ok (O54 zs ns gk gn cpk cpn ts gt owt n xs i) := Ok.dem (fl := bitsF 27 8454173) (by kernel_rfl) (by kernel_rfl) (by kernel_rfl) h
theorem O54_ex {zs ns : List Int} {gk gn : Nat} {cpk cpn : Option Nat} {ts : List Int} {gt : Nat} {owt : Bool} {n : Nat} {xs : List Int} {i : Int} : (O54 zs ns gk gn cpk cpn ts gt owt n xs i).ex = .normal := by kernel_rfl
theorem O54_fm {zs ns : List Int} {gk gn : Nat} {cpk cpn : Option Nat} {ts : List Int} {gt : Nat} {owt : Bool} {n : Nat} {xs : List Int} {i : Int} : (O54 zs ns gk gn cpk cpn ts gt owt n xs i).fm = [(2, .var 3 0), (5, .slice 1 4 1 0 n none), (6, .int .i64 (i + 16))] := by kernel_rfl
theorem O54_tab {zs ns : List Int} {gk gn : Nat} {cpk cpn : Option Nat} {ts : List Int} {gt : Nat} {owt : Bool} {n : Nat} {xs : List Int} {i : Int} : (O54 zs ns gk gn cpk cpn ts gt owt n xs i).tab = [some ⟨.ints .u8 zs, gk, false, 5⟩, some ⟨.ints .u8 ns, gn, false, 5⟩, some ⟨.ints .u8 ts, gt, owt, 5⟩, some ⟨.agg [.slice 1 0 gk 0 16 cpk, .slice 1 1 gn 0 12 cpn], 0, true, 60⟩, some ⟨.ints .u8 (xkLaw
 (ctLaw (subLaw zs 0 16) (subLaw ns 0 12) (2 + i.tdiv 16)) xs i.toNat), 1, true, 5⟩] := by kernel_rfl
noncomputable def E54 (zs ns : List Int) (gk gn : Nat) (cpk cpn : Option Nat) (ts : List Int) (gt : Nat) (owt : Bool) (n : Nat) (xs : List Int) (i : Int) : Out := trim 5 5 [5] (run eGt 45 ⟨5, []⟩ 400 (roundOf 0 f54) [(2, .var 3 0), (5, .slice 1 4 1 0 n none), (6, .int .i64 i)] [some ⟨.ints .u8 zs, gk, false, 5⟩, some ⟨.ints .u8 ns, gn, false, 5⟩, some ⟨.ints .u8 ts, gt, owt, 5⟩, some ⟨.agg [.slice 1 0 gk 0 16 cpk, .slice 1 1 gn 0 12 cpn], 0, true, 60⟩, some ⟨.ints .u8 xs, 1, true, 5⟩] [some false])
theorem E54_ok {zs ns : List Int} {gk gn : Nat} {cpk cpn : Option Nat} {ts : List Int} {gt : Nat} {owt : Bool} {n : Nat} {xs : List Int} {i : Int} (h : allP [.p (decide (i < (↑n : Int)) = false)]) : Ok (E54 zs ns gk gn cpk cpn ts gt owt n xs i) := Ok.dem (fl := [true, false]) (by kernel_rfl) (by kernel_rfl) (by kernel_rfl) h
theorem E54_ex {zs ns : List Int} {gk gn : Nat} {cpk cpn : Option Nat} {ts : List Int} {gt : Nat} {owt : Bool} {n : Nat} {xs : List Int} {i : Int} : (E54 zs ns gk gn cpk cpn ts gt owt n xs i).ex = .exit 0 := by kernel_rfl
theorem E54_fm {zs ns : List Int} {gk gn : Nat} {cpk cpn : Option Nat} {ts : List Int} {gt : Nat} {owt : Bool} {n : Nat} {xs : List Int} {i : Int} : (E54 zs ns gk gn cpk cpn ts gt owt n xs i).fm = [(5, .slice 1 4 1 0 n none)] := by kernel_rfl
theorem E54_tab {zs ns : List Int} {gk gn : Nat} {cpk cpn : Option Nat} {ts : List Int} {gt : Nat} {owt : Bool} {n : Nat} {xs : List Int} {i : Int} : (E54 zs ns gk gn cpk cpn ts gt owt n xs i).tab = [some ⟨.ints .u8 zs, gk, false, 5⟩, some ⟨.ints .u8 ns, gn, false, 5⟩, some ⟨.ints .u8 ts, gt, owt, 5⟩, some ⟨.agg [.slice 1 0 gk 0 16 cpk, .slice 1 1 gn 0 12 cpn], 0, true, 60⟩, some ⟨.ints .u8 xs, 1,
 true, 5⟩] := by kernel_rfl
end Go.Abs

set_option linter.unusedVariables false
set_option linter.unusedSimpArgs false
set_option maxRecDepth 8000
namespace Go.Abs
open Go.Proofs.Try
/-! ### hash: its codes -/
noncomputable def S77 : Summary := sumI modeO (eA []) f77 [] 100 [] []
theorem S77_ok : SumOk prog (fun _ => none) 77 S77 := sumI_ok eA0_ok hmA (fn := f77) (by kernel_rfl) (by kernel_rfl) [] FnOrc.nil 100 [] []
noncomputable def S80 : Summary := sumI modeO (eA []) f80 [] 100 [] []
theorem S80_ok : SumOk prog (fun _ => none) 80 S80 := sumI_ok eA0_ok hmA (fn := f80) (by kernel_rfl) (by kernel_rfl) [] FnOrc.nil 100 [] []
noncomputable def eGh : Env := eA [(59, S59), (60, S60), (73, S73), (77, S77), (80, S80)]
theorem eGh_ok : EnvOk eGh := envOf_ok tysA_ok (SumsOk.cons (fn := f59) S59_ok (by kernel_rfl) (by kernel_rfl) (by kernel_rfl) (SumsOk.cons (fn := f60) S60_ok (by kernel_rfl) (by kernel_rfl) (by kernel_rfl) (SumsOk.cons (fn := f73) S73_ok (by kernel_rfl) (by kernel_rfl) (by kernel_rfl) (SumsOk.cons (fn := f77) S77_ok (by kernel_rfl) (by kernel_rfl) (by kernel_rfl) (SumsOk.cons (fn := f80) S80_ok (by kernel_rfl) (by kernel_rfl) (by kernel_rfl) trivial)))))
def fstC : Code → Code
  | .seq a b => a
  | c => c
def sndC : Code → Code
  | .seq a b => b
  | c => c
def blkC : Code → Code
  | .block _ c => c
  | .loop c => c
  | c => c
def rfAssign : Code → Code
  | .rangeFunc _ _ a _ => a
  | c => c
def rfBody : Code → Code
  | .rangeFunc _ _ _ b => b
  | c => c
def opsC : Code → Array Oper
  | .region _ o _ => o
  | _ => #[]
def theCall (o : Oper) : Call := match o.op with | .call c => c | _ => default
noncomputable def rf63 : Code := blkC (sndC (fstC (sndC (sndC (bodyOf f63)))))
noncomputable def as63 : Code := rfAssign rf63
noncomputable def bd63 : Code := rfBody rf63
noncomputable def hd79 : Code := fstC (roundOf 0 f79)
noncomputable def c79 : Code := fstC (sndC (roundOf 0 f79))
noncomputable def x79 : Code := blkC (fstC (sndC (sndC (roundOf 0 f79))))
noncomputable def rf79 : Code := blkC (sndC (sndC x79))
noncomputable def as79 : Code := rfAssign rf79
noncomputable def bd79 : Code := rfBody rf79
noncomputable def ops79 : Array Oper := opsC (fstC (blkC bd79))
noncomputable def cnd79 : Code := sndC (blkC bd79)
noncomputable def r79 : Code := sndC (sndC (sndC (roundOf 0 f79)))
noncomputable def hd81 : Code := fstC (roundOf 0 f81)
noncomputable def x81 : Code := blkC (fstC (sndC (roundOf 0 f81)))
noncomputable def m81 : Code := fstC x81
noncomputable def ops81 : Array Oper := opsC (fstC (sndC x81))
noncomputable def cnd81 : Code := sndC (sndC x81)
noncomputable def r81 : Code := sndC (sndC (roundOf 0 f81))
theorem rf63_eq : rf63 = .rangeFunc (.tmp 8) #[9] as63 bd63 := by kernel_rfl
theorem rf79_eq : rf79 = .rangeFunc (.tmp 13) #[14] as79 bd79 := by kernel_rfl
theorem split79 : roundOf 0 f79 = .seq hd79 (.seq c79 (.seq (.block 1 (.seq (fstC x79) (.seq (fstC (sndC x79)) (.block 2 rf79)))) r79)) := by kernel_rfl
theorem splitb79 : bodyOf f79 = .seq (fstC (bodyOf f79)) (.seq (fstC (sndC (bodyOf f79))) (.block 0 (.loop (roundOf 0 f79)))) := by kernel_rfl
theorem bd79_eq : bd79 = .block 3 (.seq (.region 6 ops79 true) cnd79) := by kernel_rfl
theorem split81 : roundOf 0 f81 = .seq hd81 (.seq (.block 1 (.seq m81 (.seq (.region 4 ops81 false) cnd81))) r81) := by kernel_rfl
theorem splitb81 : bodyOf f81 = .seq (fstC (bodyOf f81)) (.block 0 (.loop (roundOf 0 f81))) := by kernel_rfl
theorem res79 : f79.results.toList = [] := by kernel_rfl
theorem res81 : f81.results.toList = [] := by kernel_rfl
end Go.Abs

set_option linter.unusedVariables false
set_option linter.unusedSimpArgs false
set_option maxRecDepth 8000
namespace Go.Abs
open Go.Proofs.Try
/-! ### hash: pure -/
def ckLaw (z : List Int) (n j : Nat) : List Int := List.take (min 16 (n - 16 * j)) (List.drop (16 * j) z) ++ List.replicate (16 - (n - 16 * j)) 0
def hyLaw (h y z : List Int) (n : Nat) : Nat → List Int
  | 0 => y
  | j + 1 => mwLaw (xwLaw (hyLaw h y z n j) (gwLaw (ckLaw z n j))) h
def hsLaw (h y z : List Int) (n : Nat) : List Int := hyLaw h y z n ((n + 15) / 16)
theorem ck_len {z : List Int} {n : Nat} (h : n ≤ z.length) (j : Nat) : (ckLaw z n j).length = 16 := by
  unfold ckLaw
  rw [List.length_append, List.length_take, List.length_drop, List.length_replicate]; omega
theorem Bytes.zer (n : Nat) : Bytes (List.replicate n 0) := fun i hi => by
  rw [List.getD_eq_getElem?_getD, List.getElem?_replicate]; split <;> decide
theorem ck_bytes {z : List Int} (hb : Bytes z) (n j : Nat) : Bytes (ckLaw z n j) := ((hb.drop _).take _).append (Bytes.zer _)
theorem ck_full {z : List Int} {n j : Nat} (h : 16 * j + 16 ≤ n) : ckLaw z n j = subLaw z (16 * j) 16 := by
  unfold ckLaw
  rw [show min 16 (n - 16 * j) = 16 by omega, show 16 - (n - 16 * j) = 0 by omega, List.replicate_zero, List.append_nil]; rfl
theorem ck_part {z : List Int} {n j : Nat} (h : n < 16 * j + 16) : ckLaw z n j = List.take (n - 16 * j) (List.drop (16 * j) z) ++ List.replicate (16 - (n - 16 * j)) 0 := by
  unfold ckLaw
  rw [show min 16 (n - 16 * j) = n - 16 * j by omega]
theorem hy_wp {h y z : List Int} {n : Nat} (hy : WpLaw y) (hn : n ≤ z.length) (hb : Bytes z) : ∀ j, WpLaw (hyLaw h y z n j)
  | 0 => hy
  | j + 1 => ((hy_wp hy hn hb j).xw (.gw (ck_bytes hb n j) (ck_len hn j))).mw
theorem hs_wp {h y z : List Int} {n : Nat} (hy : WpLaw y) (hn : n ≤ z.length) (hb : Bytes z) : WpLaw (hsLaw h y z n) := hy_wp hy hn hb _
theorem WpLaw.zero : WpLaw [0, 0] := ⟨0, by decide, by kernel_rfl⟩
theorem take_sub {z : List Int} : subLaw z 0 16 = List.take 16 z := rfl
theorem cnd79_eq : cnd79 = .cond (.tmp 28) .ret .skip := by kernel_rfl
theorem cnd81_eq : cnd81 = .cond (.tmp 30) .ret .skip := by kernel_rfl
theorem c79_eq : c79 = .cond (.tmp 9) .skip (.exit 0) := by kernel_rfl
def subF : Fm → Fm → Prop
  | [], _ => True
  | (t, v) :: r, fm => look fm t = some v ∧ subF r fm
theorem subF_ok {fm : Fm} : ∀ {f : Fm}, subF f fm → ∀ t v, look f t = some v → look fm t = some v
  | [], _, t, v, h => by cases h
  | (s, u) :: r, h, t, v, hl => by
    simp only [look] at hl
    split at hl
    · rename_i e
      have := Nat.eq_of_beq_eq_true e
      subst this
      injection hl with hl; subst hl
      exact h.1
    · exact subF_ok h.2 t v hl
theorem YWp.sub {E : Env} {n k : Nat} {A : Amb} {c : Code} {fm f : Fm} {T : Tab} {σ : List St} {post : AExit → Fm → Tab → List St → Prop} (hs : subF f fm) (h : YWp E n k A c f T σ post) : YWp E n k A c fm T σ post :=
  fun rr D ν a w hr hrd hA => h rr D ν a w ⟨hr.hr, fun t v hv => hr.fm t v (subF_ok hs t v hv), hr.size, hr.defers⟩ hrd hA
theorem YWp.base {E : Env} {n k kb : Nat} {A : Amb} {c : Code} {fm : Fm} {T : Tab} {σ : List St} {post : AExit → Fm → Tab → List St → Prop} (hk : k ≤ kb) (h : YWp E n kb A c fm T σ post) : YWp E n k A c fm T σ post :=
  fun rr D ν a w hs hrd hA => wpIn_mono (h rr D ν a w hs hrd hA) fun e a' w' ⟨ex, fm', T', σ', ν', h1, h2, h3, h6, h4, h5⟩ => ⟨ex, fm', T', σ', ν', h1, h2, h3, h6, fun p hp => h4 p (Nat.lt_of_lt_of_le hp hk), h5⟩
theorem YWp.skip {E : Env} {n k : Nat} {A : Amb} {fm : Fm} {T : Tab} {σ : List St} {post : AExit → Fm → Tab → List St → Prop} (hin : ambIn k A) (h : post .normal fm T σ) : YWp E n k A .skip fm T σ post := YWp.lift hin (AWp.skip h)
theorem YWp.exit {E : Env} {n k id : Nat} {A : Amb} {fm : Fm} {T : Tab} {σ : List St} {post : AExit → Fm → Tab → List St → Prop} (hin : ambIn k A) (h : post (.exit id) fm T σ) : YWp E n k A (.exit id) fm T σ post := YWp.lift hin (AWp.exit h)
theorem min16 (x : Nat) : (if ((x : Nat) : Int) < 16 then (x : Int) else 16) = ((min 16 x : Nat) : Int) := by split <;> omega
def TBa (z0 : List Int) (g0 n0 ga : Nat) (kx : List Int) (y : List Int) : Tab := [some ⟨.agg [.slice 1 1 g0 0 n0 none], ga, false, 25⟩, some ⟨.ints .u8 z0, g0, false, 5⟩, some ⟨.ints .u64 kx, 0, true, 65⟩, some ⟨.ints .u64 [0, 0], 0, true, 65⟩, some ⟨.ints .u64 y, 0, true, 65⟩, some ⟨.agg [.slice 1 0 ga 0 1 (some 1)], 0, true, 81⟩]
def TPa (z0 : List Int) (g0 n0 ga : Nat) (kx : List Int) (y : List Int) (l1 : Nat) : Tab := [some ⟨.agg [.slice 1 1 g0 0 n0 none], ga, false, 25⟩, some ⟨.ints .u8 z0, g0, false, 5⟩, some ⟨.ints .u64 kx, 0, true, 65⟩, some ⟨.ints .u64 [0, 0], 0, true, 65⟩, some ⟨.ints .u64 y, 0, true, 65⟩, some ⟨.agg [.slice 1 0 ga 0 1 (some 1)], 0, true, 81⟩, some ⟨.agg [.func (.yield l1) [] []], 0, true, 85⟩]
def TNa0 (z0 : List Int) (g0 n0 ga : Nat) (kx : List Int) (y : List Int) (l1 : Nat) : Tab := [some ⟨.agg [.slice 1 1 g0 0 n0 none], ga, false, 25⟩, some ⟨.ints .u8 z0, g0, false, 5⟩, some ⟨.ints .u64 kx, 0, true, 65⟩, some ⟨.ints .u64 [0, 0], 0, true, 65⟩, some ⟨.ints .u64 y, 0, true, 65⟩, some ⟨.agg [.slice 1 0 ga 0 1 (some 1)], 0, true, 81⟩, some ⟨.agg [.func (.yield l1) [] []], 0, true, 85⟩, some ⟨.agg [.slice 1 1 g0 0 n0 none], 0, true, 25⟩, some ⟨.ints .i64 [16], 0, true, 3⟩]
def TQa0 (z0 : List Int) (g0 n0 ga : Nat) (kx : List Int) (y : List Int) (l1 : Nat) (x : List Int) : Tab := [some ⟨.agg [.slice 1 1 g0 0 n0 none], ga, false, 25⟩, some ⟨.ints .u8 z0, g0, false, 5⟩, some ⟨.ints .u64 kx, 0, true, 65⟩, some ⟨.ints .u64 [0, 0], 0, true, 65⟩, some ⟨.ints .u64 y, 0, true, 65⟩, some ⟨.agg [.slice 1 0 ga 0 1 (some 1)], 0, true, 81⟩, some ⟨.agg [.func (.yield l1) [] []], 0, true, 85⟩, some ⟨.agg [.slice 1 1 g0 0 n0 none], 0, true, 25⟩, some ⟨.ints .i64 [16], 0, true, 3⟩, some ⟨.ints .u8 x, 0, true, 5⟩]
def TUa0 (z0 : List Int) (g0 n0 ga : Nat) (kx : List Int) (y : List Int) (l1 : Nat) (b : List Int) : Tab := [some ⟨.agg [.slice 1 1 g0 0 n0 none], ga, false, 25⟩, some ⟨.ints .u8 z0, g0, false, 5⟩, some ⟨.ints .u64 kx, 0, true, 65⟩, some ⟨.ints .u64 [0, 0], 0, true, 65⟩, some ⟨.ints .u64 y, 0, true, 65⟩, some ⟨.agg [.slice 1 0 ga 0 1 (some 1)], 0, true, 81⟩, some ⟨.agg [.func (.yield l1) [] []], 0, true, 85⟩, some ⟨.agg [.slice 1 1 g0 0 n0 none], 0, true, 25⟩, some ⟨.ints .i64 [16], 0, true, 3⟩, some ⟨.ints .u64 b, 0, true, 65⟩]
def TVa0 (z0 : List Int) (g0 n0 ga : Nat) (kx : List Int) (y : List Int) (l1 : Nat) (x b : List Int) : Tab := [some ⟨.agg [.slice 1 1 g0 0 n0 none], ga, false, 25⟩, some ⟨.ints .u8 z0, g0, false, 5⟩, some ⟨.ints .u64 kx, 0, true, 65⟩, some ⟨.ints .u64 [0, 0], 0, true, 65⟩, some ⟨.ints .u64 y, 0, true, 65⟩, some ⟨.agg [.slice 1 0 ga 0 1 (some 1)], 0, true, 81⟩, some ⟨.agg [.func (.yield l1) [] []], 0, true, 85⟩, some ⟨.agg [.slice 1 1 g0 0 n0 none], 0, true, 25⟩, some ⟨.ints .i64 [16], 0, true, 3⟩, some ⟨.ints .u8 x, 0, true, 5⟩, some ⟨.ints .u64 b, 0, true, 65⟩]
/-! text 0 of 1 -/
noncomputable def Hya0 (z0 : List Int) (g0 n0 ga : Nat) (kx : List Int) (y : List Int) (l1 l2 : Nat) (i : Int) : Out := trim 9 9 [0,1,2,4] (run eGh 31 ⟨9, []⟩ 400 hd81 [(0, .func (.yield l2) [] []), (1, .var 7 0), (2, .var 8 0), (4, .int .i64 i)] (TNa0 z0 g0 n0 ga kx y l1) [some true])
theorem Hya0_ok {z0 : List Int} {g0 n0 ga : Nat} {kx : List Int} {y : List Int} {l1 l2 : Nat} {i : Int} (h : allP [.eqN g0 g0, .p (decide (i < (↑n0 : Int)) = true)]) : Ok (Hya0 z0 g0 n0 ga kx y l1 l2 i) := Ok.dem (fl := [true, true, false, false]) (by kernel_rfl) (by kernel_rfl) (by kernel_rfl) h
theorem Hya0_ex {z0 : List Int} {g0 n0 ga : Nat} {kx : List Int} {y : List Int} {l1 l2 : Nat} {i : Int} : (Hya0 z0 g0 n0 ga kx y l1 l2 i).ex = .normal := by kernel_rfl
theorem Hya0_fm {z0 : List Int} {g0 n0 ga : Nat} {kx : List Int} {y : List Int} {l1 l2 : Nat} {i : Int} : (Hya0 z0 g0 n0 ga kx y l1 l2 i).fm = [(0, .func (Fn.yield l2) [] []), (1, .var 7 0), (2, .var 8 0), (4, .int .i64 i)] := by kernel_rfl
theorem Hya0_tab {z0 : List Int} {g0 n0 ga : Nat} {kx : List Int} {y : List Int} {l1 l2 : Nat} {i : Int} : (Hya0 z0 g0 n0 ga kx y l1 l2 i).tab = TNa0 z0 g0 n0 ga kx y l1 := by kernel_rfl
noncomputable def Hna0 (z0 : List Int) (g0 n0 ga : Nat) (kx : List Int) (y : List Int) (l1 l2 : Nat) (i : Int) : Out := trim 9 9 [] (run eGh 31 ⟨9, []⟩ 400 hd81 [(0, .func (.yield l2) [] []), (1, .var 7 0), (2, .var 8 0), (4, .int .i64 i)] (TNa0 z0 g0 n0 ga kx y l1) [some false])
theorem Hna0_ok {z0 : List Int} {g0 n0 ga : Nat} {kx : List Int} {y : List Int} {l1 l2 : Nat} {i : Int} (h : allP [.eqN g0 g0, .p (decide (i < (↑n0 : Int)) = false)]) : Ok (Hna0 z0 g0 n0 ga kx y l1 l2 i) := Ok.dem (fl := [true, true, false, false]) (by kernel_rfl) (by kernel_rfl) (by kernel_rfl) h
theorem Hna0_ex {z0 : List Int} {g0 n0 ga : Nat} {kx : List Int} {y : List Int} {l1 l2 : Nat} {i : Int} : (Hna0 z0 g0 n0 ga kx y l1 l2 i).ex = .exit 0 := by kernel_rfl
theorem Hna0_fm {z0 : List Int} {g0 n0 ga : Nat} {kx : List Int} {y : List Int} {l1 l2 : Nat} {i : Int} : (Hna0 z0 g0 n0 ga kx y l1 l2 i).fm = [] := by kernel_rfl
theorem Hna0_tab {z0 : List Int} {g0 n0 ga : Nat} {kx : List Int} {y : List Int} {l1 l2 : Nat} {i : Int} : (Hna0 z0 g0 n0 ga kx y l1 l2 i).tab = TNa0 z0 g0 n0 ga kx y l1 := by kernel_rfl
noncomputable def Msa0 (z0 : List Int) (g0 n0 ga : Nat) (kx : List Int) (y : List Int) (l1 l2 : Nat) (i : Int) : Out := trim 9 9 [0,1,2,4,5] (run eGh 31 ⟨9, []⟩ 400 m81 [(0, .func (.yield l2) [] []), (1, .var 7 0), (2, .var 8 0), (4, .int .i64 i)] (TNa0 z0 g0 n0 ga kx y l1) [])
theorem Msa0_ok {z0 : List Int} {g0 n0 ga : Nat} {kx : List Int} {y : List Int} {l1 l2 : Nat} {i : Int} (h : allP [.leI 0 i, .eqN g0 g0, .leN i.toNat n0, .eqN g0 g0]) : Ok (Msa0 z0 g0 n0 ga kx y l1 l2 i) := Ok.dem (fl := [false, true, true, true, true, false, false, false, false]) (by kernel_rfl) (by kernel_rfl) (by kernel_rfl) h
theorem Msa0_ex {z0 : List Int} {g0 n0 ga : Nat} {kx : List Int} {y : List Int} {l1 l2 : Nat} {i : Int} : (Msa0 z0 g0 n0 ga kx y l1 l2 i).ex = .normal := by kernel_rfl
theorem Msa0_fm {z0 : List Int} {g0 n0 ga : Nat} {kx : List Int} {y : List Int} {l1 l2 : Nat} {i : Int} : (Msa0 z0 g0 n0 ga kx y l1 l2 i).fm = [(0, .func (Fn.yield l2) [] []), (1, .var 7 0), (2, .var 8 0), (4, .int .i64 i), (5, .int .i64 (if (↑(subO n0 i.toNat) : Int) < 16 then (↑(subO n0 i.toNat) : Int) else 16))] := by kernel_rfl
theorem Msa0_tab {z0 : List Int} {g0 n0 ga : Nat} {kx : List Int} {y : List Int} {l1 l2 : Nat} {i : Int} : (Msa0 z0 g0 n0 ga kx y l1 l2 i).tab = TNa0 z0 g0 n0 ga kx y l1 := by kernel_rfl
noncomputable def Yaa0 (z0 : List Int) (g0 n0 ga : Nat) (kx : List Int) (y : List Int) (l1 l2 : Nat) (i r : Int) : Out := runOps eGh ops81.toList 31 (ops81.toList.take 10) ([(0, .func (.yield l2) [] []), (1, .var 7 0), (2, .var 8 0), (4, .int .i64 i)] ++ [(5, .int .i64 r)]) (((TNa0 z0 g0 n0 ga kx y l1) : Tab) ++ holes (cntA eGh (ops81.toList.take 10))) ((TNa0 z0 g0 n0 ga kx y l1) : Tab).length []
theorem Yaa0_ok {z0 : List Int} {g0 n0 ga : Nat} {kx : List Int} {y : List Int} {l1 l2 : Nat} {i r : Int} (h : allP [.rng (-9223372036854775808) (i + r) 9223372036854775807, .rng (-9223372036854775808) (i + r) 9223372036854775807, .leI 0 i, .leI 0 (i + r), .leI 0 (i + r), .eqN g0 g0, .leN i.toNat (i + r).toNat, .leN (i + r).toNat (i + r).toNat, .orN (i + r).toNat n0 (0 + (i + r).toNat) z0.length])
 : Ok (Yaa0 z0 g0 n0 ga kx y l1 l2 i r) := Ok.dem (fl := [true, true, false, false, false, false, false, false, false, false, false]) (by kernel_rfl) (by kernel_rfl) (by kernel_rfl) h
theorem Yaa0_fm {z0 : List Int} {g0 n0 ga : Nat} {kx : List Int} {y : List Int} {l1 l2 : Nat} {i r : Int} : (Yaa0 z0 g0 n0 ga kx y l1 l2 i r).fm = [(28, .slice 1 1 g0 i.toNat (subO (i + r).toNat i.toNat) (some (subO (i + r).toNat i.toNat))), (27, .int .i64 (i + r)), (26, .int .i64 r), (25, .int .i64 i), (24, .int .i64 (i + r)), (23, .int .i64 r), (22, .int .i64 i), (21, .int .i64 i), (20, .slice 1
 1 g0 0 n0 none), (19, .func (Fn.yield l2) [] []), (0, .func (Fn.yield l2) [] []), (1, .var 7 0), (2, .var 8 0), (4, .int .i64 i), (5, .int .i64 r)] := by kernel_rfl
theorem Yaa0_tab {z0 : List Int} {g0 n0 ga : Nat} {kx : List Int} {y : List Int} {l1 l2 : Nat} {i r : Int} : (Yaa0 z0 g0 n0 ga kx y l1 l2 i r).tab = TNa0 z0 g0 n0 ga kx y l1 := by kernel_rfl
noncomputable def Asa0 (z0 : List Int) (g0 n0 ga : Nat) (kx : List Int) (y : List Int) (l1 l2 : Nat) (o r : Nat) : Out := trim 9 9 [2,5] (run eGh 30 ⟨9, []⟩ 400 as79 ((14, .slice 1 1 g0 o r (some r)) :: [(1, .var 5 0), (2, .var 6 0), (6, .slice 1 0 ga 0 1 (some 1)), (7, .int .i64 1), (8, .int .i64 0), (13, .func (.func 81) [] [.var 7 0, .var 8 0])]) (TNa0 z0 g0 n0 ga kx y l1) [])
theorem Asa0_ok {z0 : List Int} {g0 n0 ga : Nat} {kx : List Int} {y : List Int} {l1 l2 : Nat} {o r : Nat} (h : allP []) : Ok (Asa0 z0 g0 n0 ga kx y l1 l2 o r) := Ok.dem (fl := []) (by kernel_rfl) (by kernel_rfl) (by kernel_rfl) h
theorem Asa0_ex {z0 : List Int} {g0 n0 ga : Nat} {kx : List Int} {y : List Int} {l1 l2 : Nat} {o r : Nat} : (Asa0 z0 g0 n0 ga kx y l1 l2 o r).ex = .normal := by kernel_rfl
theorem Asa0_fm {z0 : List Int} {g0 n0 ga : Nat} {kx : List Int} {y : List Int} {l1 l2 : Nat} {o r : Nat} : (Asa0 z0 g0 n0 ga kx y l1 l2 o r).fm = [(2, .var 6 0), (5, .slice 1 1 g0 o r (some r))] := by kernel_rfl
theorem Asa0_tab {z0 : List Int} {g0 n0 ga : Nat} {kx : List Int} {y : List Int} {l1 l2 : Nat} {o r : Nat} : (Asa0 z0 g0 n0 ga kx y l1 l2 o r).tab = TNa0 z0 g0 n0 ga kx y l1 := by kernel_rfl
noncomputable def Dfa0 (z0 : List Int) (g0 n0 ga : Nat) (kx : List Int) (y : List Int) (l1 l2 : Nat) (o : Nat) : Out := drawRun eGh (ops79.toList.take 12) 30 [(2, .var 6 0), (5, .slice 1 1 g0 o 16 (some 16))] (TNa0 z0 g0 n0 ga kx y l1) [some true]
theorem Dfa0_ok {z0 : List Int} {g0 n0 ga : Nat} {kx : List Int} {y : List Int} {l1 l2 : Nat} {o : Nat} (h : allP [.eqN g0 g0, .eqN g0 g0, .eqN g0 g0, .eqN g0 g0, .eqN g0 g0, .eqN g0 g0, .leN (addO o 0 + 16) z0.length, .p (Bytes z0)]) : Ok (Dfa0 z0 g0 n0 ga kx y l1 l2 o) := Ok.dem (fl := bitsF 29 135649502) (by kernel_rfl) (by kernel_rfl) (by kernel_rfl) h
theorem Dfa0_fm {z0 : List Int} {g0 n0 ga : Nat} {kx : List Int} {y : List Int} {l1 l2 : Nat} {o : Nat} : (Dfa0 z0 g0 n0 ga kx y l1 l2 o).fm = [(15, .func (Fn.yield l1) [] []), (16, .slice 1 1 g0 o 16 (some 16)), (17, .slice 1 1 g0 o 16 (some 16)), (18, .int .i64 16), (19, .slice 1 1 g0 o 16 (some 16)), (20, .int .i64 16), (21, .slice 1 1 g0 (addO o 0) 16 (some 16)), (22, .slice 1 1 g0 o 16 (some
 16)), (23, .int .i64 16), (24, .int .i64 0), (25, .slice 1 1 g0 (addO o 0) 16 (some 16)), (26, .ints .u64 (gwLaw (subLaw z0 (addO o 0) 16))), (2, .var 6 0), (5, .slice 1 1 g0 o 16 (some 16))] := by kernel_rfl
theorem Dfa0_tab {z0 : List Int} {g0 n0 ga : Nat} {kx : List Int} {y : List Int} {l1 l2 : Nat} {o : Nat} : (Dfa0 z0 g0 n0 ga kx y l1 l2 o).tab = TNa0 z0 g0 n0 ga kx y l1 := by kernel_rfl
noncomputable def Dpa0 (z0 : List Int) (g0 n0 ga : Nat) (kx : List Int) (y : List Int) (l1 l2 : Nat) (o r : Nat) : Out := drawRun eGh (ops79.toList.take 12) 30 [(2, .var 6 0), (5, .slice 1 1 g0 o r (some r))] (TNa0 z0 g0 n0 ga kx y l1) [some false]
theorem Dpa0_ok {z0 : List Int} {g0 n0 ga : Nat} {kx : List Int} {y : List Int} {l1 l2 : Nat} {o r : Nat} (h : allP [.eqN g0 g0, .eqN g0 g0, .leI 0 (↑r : Int), .leI 0 (↑r : Int), .eqN g0 g0, .leN 0 r, .leN r r, .leN r r, .eqN g0 g0, .rng (-9223372036854775808) (16 - (↑r : Int)) 9223372036854775807, .eqN g0 g0, .leN (addO o 0 + r) z0.length, .p (r < addO r (16 - (↑r : Int)).toNat ∨ r = 0 ∧ r = 0),
 .leN (addO r (16 - (↑r : Int)).toNat) 140737488355328, .leI 0 (16 - (↑r : Int)), .leI (16 - (↑r : Int)) 9223372036854775807, .leN (16 - (↑r : Int)).toNat 281474976710656, .leN 16 (List.take r (dropO (addO o 0) z0) ++ List.replicate (16 - (↑r : Int)).toNat 0).length, .p (Bytes (List.take r (dropO (addO o 0) z0) ++ List.replicate (16 - (↑r : Int)).toNat 0)), .eqN (addO r (16 - (↑r : Int)).toNat) 16])
 : Ok (Dpa0 z0 g0 n0 ga kx y l1 l2 o r) := Ok.dem (fl := bitsF 35 335544542) (by kernel_rfl) (by kernel_rfl) (by kernel_rfl) h
theorem Dpa0_fm {z0 : List Int} {g0 n0 ga : Nat} {kx : List Int} {y : List Int} {l1 l2 : Nat} {o r : Nat} : (Dpa0 z0 g0 n0 ga kx y l1 l2 o r).fm = [(15, .func (Fn.yield l1) [] []), (16, .slice 1 1 g0 o r (some r)), (17, .slice 1 1 g0 o r (some r)), (18, .int .i64 (↑r : Int)), (19, .slice 1 1 g0 o r (some r)), (20, .int .i64 (↑r : Int)), (21, .slice 1 1 g0 (addO o 0) r (some r)), (22, .slice 1 1 g0
 o r (some r)), (23, .int .i64 (↑r : Int)), (24, .int .i64 (16 - (↑r : Int))), (25, .slice 1 9 0 0 (addO r (16 - (↑r : Int)).toNat) none), (26, .ints .u64 (gwLaw (subLaw (List.take r (dropO (addO o 0) z0) ++ List.replicate (16 - (↑r : Int)).toNat 0) 0 16))), (2, .var 6 0), (5, .slice 1 1 g0 o r (some r))] := by kernel_rfl
theorem Dpa0_tab {z0 : List Int} {g0 n0 ga : Nat} {kx : List Int} {y : List Int} {l1 l2 : Nat} {o r : Nat} : (Dpa0 z0 g0 n0 ga kx y l1 l2 o r).tab = TQa0 z0 g0 n0 ga kx y l1 ((List.take r (dropO (addO o 0) z0) ++ List.replicate (16 - (↑r : Int)).toNat 0)) := by kernel_rfl
noncomputable def Rba0 (z0 : List Int) (g0 n0 ga : Nat) (kx : List Int) (y : List Int) (l1 l2 : Nat) (i : Int) : Out := trim 9 9 [0,1,2,4] (run eGh 31 ⟨9, []⟩ 400 r81 [(0, .func (.yield l2) [] []), (1, .var 7 0), (2, .var 8 0), (4, .int .i64 i)] (TNa0 z0 g0 n0 ga kx y l1) [])
theorem Rba0_ok {z0 : List Int} {g0 n0 ga : Nat} {kx : List Int} {y : List Int} {l1 l2 : Nat} {i : Int} (h : allP [.rng (-9223372036854775808) (i + 16) 9223372036854775807]) : Ok (Rba0 z0 g0 n0 ga kx y l1 l2 i) := Ok.dem (fl := [true, true, false]) (by kernel_rfl) (by kernel_rfl) (by kernel_rfl) h
theorem Rba0_ex {z0 : List Int} {g0 n0 ga : Nat} {kx : List Int} {y : List Int} {l1 l2 : Nat} {i : Int} : (Rba0 z0 g0 n0 ga kx y l1 l2 i).ex = .normal := by kernel_rfl
theorem Rba0_fm {z0 : List Int} {g0 n0 ga : Nat} {kx : List Int} {y : List Int} {l1 l2 : Nat} {i : Int} : (Rba0 z0 g0 n0 ga kx y l1 l2 i).fm = [(0, .func (Fn.yield l2) [] []), (1, .var 7 0), (2, .var 8 0), (4, .int .i64 (i + 16))] := by kernel_rfl
theorem Rba0_tab {z0 : List Int} {g0 n0 ga : Nat} {kx : List Int} {y : List Int} {l1 l2 : Nat} {i : Int} : (Rba0 z0 g0 n0 ga kx y l1 l2 i).tab = TNa0 z0 g0 n0 ga kx y l1 := by kernel_rfl
noncomputable def Rra0 (z0 : List Int) (g0 n0 ga : Nat) (kx : List Int) (y : List Int) (l1 : Nat) : Out := trim 7 7 [1,2,6,7,8] (run eGh 30 ⟨7, []⟩ 400 r79 [(1, .var 5 0), (2, .var 6 0), (6, .slice 1 0 ga 0 1 (some 1)), (7, .int .i64 1), (8, .int .i64 0), (13, .func (.func 81) [] [.var 7 0, .var 8 0])] (TNa0 z0 g0 n0 ga kx y l1) [])
theorem Rra0_ok {z0 : List Int} {g0 n0 ga : Nat} {kx : List Int} {y : List Int} {l1 : Nat} (h : allP []) : Ok (Rra0 z0 g0 n0 ga kx y l1) := Ok.dem (fl := [true]) (by kernel_rfl) (by kernel_rfl) (by kernel_rfl) h
theorem Rra0_ex {z0 : List Int} {g0 n0 ga : Nat} {kx : List Int} {y : List Int} {l1 : Nat} : (Rra0 z0 g0 n0 ga kx y l1).ex = .normal := by kernel_rfl
theorem Rra0_fm {z0 : List Int} {g0 n0 ga : Nat} {kx : List Int} {y : List Int} {l1 : Nat} : (Rra0 z0 g0 n0 ga kx y l1).fm = [(1, .var 5 0), (2, .var 6 0), (6, .slice 1 0 ga 0 1 (some 1)), (7, .int .i64 1), (8, .int .i64 1)] := by kernel_rfl
theorem Rra0_tab {z0 : List Int} {g0 n0 ga : Nat} {kx : List Int} {y : List Int} {l1 : Nat} : (Rra0 z0 g0 n0 ga kx y l1).tab = TPa z0 g0 n0 ga kx y l1 := by kernel_rfl
noncomputable def A6fa0 (z0 : List Int) (g0 n0 ga : Nat) (kx : List Int) (y : List Int) (l1 : Nat) (b : List Int) : Out := trim 9 10 [2,5,6] (run eGh 16 ⟨9, []⟩ 400 as63 ((9, .ints .u64 b) :: [(2, .var 2 0), (4, .var 3 0), (5, .var 4 0), (8, .func (.func 79) [] [.var 5 0])]) (TNa0 z0 g0 n0 ga kx y l1) [])
theorem A6fa0_ok {z0 : List Int} {g0 n0 ga : Nat} {kx : List Int} {y : List Int} {l1 : Nat} {b : List Int} (h : allP [.eqN b.length 2]) : Ok (A6fa0 z0 g0 n0 ga kx y l1 b) := Ok.dem (fl := [true, false, true, true]) (by kernel_rfl) (by kernel_rfl) (by kernel_rfl) h
theorem A6fa0_ex {z0 : List Int} {g0 n0 ga : Nat} {kx : List Int} {y : List Int} {l1 : Nat} {b : List Int} : (A6fa0 z0 g0 n0 ga kx y l1 b).ex = .normal := by kernel_rfl
theorem A6fa0_fm {z0 : List Int} {g0 n0 ga : Nat} {kx : List Int} {y : List Int} {l1 : Nat} {b : List Int} : (A6fa0 z0 g0 n0 ga kx y l1 b).fm = [(2, .var 2 0), (5, .var 4 0), (6, .var 9 0)] := by kernel_rfl
theorem A6fa0_tab {z0 : List Int} {g0 n0 ga : Nat} {kx : List Int} {y : List Int} {l1 : Nat} {b : List Int} : (A6fa0 z0 g0 n0 ga kx y l1 b).tab = TUa0 z0 g0 n0 ga kx y l1 b := by kernel_rfl
noncomputable def B6fa0 (z0 : List Int) (g0 n0 ga : Nat) (kx : List Int) (y : List Int) (l1 : Nat) (b : List Int) : Out := trim 9 9 [] (run eGh 16 ⟨9, []⟩ 400 bd63 [(2, .var 2 0), (5, .var 4 0), (6, .var 9 0)] (TUa0 z0 g0 n0 ga kx y l1 b) [])
theorem B6fa0_ok {z0 : List Int} {g0 n0 ga : Nat} {kx : List Int} {y : List Int} {l1 : Nat} {b : List Int} (h : allP [.eqN y.length 2, .eqN b.length 2, .p (WpLaw y), .p (WpLaw b), .eqN kx.length 2, .eqN kx.length 2, .p (WpLaw (xwLaw y b)), .p (WpLaw kx), .eqN y.length 2]) : Ok (B6fa0 z0 g0 n0 ga kx y l1 b) := Ok.dem (fl := bitsF 25 11539466) (by kernel_rfl) (by kernel_rfl) (by kernel_rfl) h
theorem B6fa0_ex {z0 : List Int} {g0 n0 ga : Nat} {kx : List Int} {y : List Int} {l1 : Nat} {b : List Int} : (B6fa0 z0 g0 n0 ga kx y l1 b).ex = .normal := by kernel_rfl
theorem B6fa0_fm {z0 : List Int} {g0 n0 ga : Nat} {kx : List Int} {y : List Int} {l1 : Nat} {b : List Int} : (B6fa0 z0 g0 n0 ga kx y l1 b).fm = [] := by kernel_rfl
theorem B6fa0_tab {z0 : List Int} {g0 n0 ga : Nat} {kx : List Int} {y : List Int} {l1 : Nat} {b : List Int} : (B6fa0 z0 g0 n0 ga kx y l1 b).tab = TNa0 z0 g0 n0 ga kx ((mwLaw (xwLaw y b) kx)) l1 := by kernel_rfl
noncomputable def A6pa0 (z0 : List Int) (g0 n0 ga : Nat) (kx : List Int) (y : List Int) (l1 : Nat) (x : List Int) (b : List Int) : Out := trim 10 11 [2,5,6] (run eGh 16 ⟨10, []⟩ 400 as63 ((9, .ints .u64 b) :: [(2, .var 2 0), (4, .var 3 0), (5, .var 4 0), (8, .func (.func 79) [] [.var 5 0])]) (TQa0 z0 g0 n0 ga kx y l1 x) [])
theorem A6pa0_ok {z0 : List Int} {g0 n0 ga : Nat} {kx : List Int} {y : List Int} {l1 : Nat} {x : List Int} {b : List Int} (h : allP [.eqN b.length 2]) : Ok (A6pa0 z0 g0 n0 ga kx y l1 x b) := Ok.dem (fl := [true, false, true, true]) (by kernel_rfl) (by kernel_rfl) (by kernel_rfl) h
theorem A6pa0_ex {z0 : List Int} {g0 n0 ga : Nat} {kx : List Int} {y : List Int} {l1 : Nat} {x : List Int} {b : List Int} : (A6pa0 z0 g0 n0 ga kx y l1 x b).ex = .normal := by kernel_rfl
theorem A6pa0_fm {z0 : List Int} {g0 n0 ga : Nat} {kx : List Int} {y : List Int} {l1 : Nat} {x : List Int} {b : List Int} : (A6pa0 z0 g0 n0 ga kx y l1 x b).fm = [(2, .var 2 0), (5, .var 4 0), (6, .var 10 0)] := by kernel_rfl
theorem A6pa0_tab {z0 : List Int} {g0 n0 ga : Nat} {kx : List Int} {y : List Int} {l1 : Nat} {x : List Int} {b : List Int} : (A6pa0 z0 g0 n0 ga kx y l1 x b).tab = TVa0 z0 g0 n0 ga kx y l1 x b := by kernel_rfl
noncomputable def B6pa0 (z0 : List Int) (g0 n0 ga : Nat) (kx : List Int) (y : List Int) (l1 : Nat) (x : List Int) (b : List Int) : Out := trim 10 10 [] (run eGh 16 ⟨10, []⟩ 400 bd63 [(2, .var 2 0), (5, .var 4 0), (6, .var 10 0)] (TVa0 z0 g0 n0 ga kx y l1 x b) [])
theorem B6pa0_ok {z0 : List Int} {g0 n0 ga : Nat} {kx : List Int} {y : List Int} {l1 : Nat} {x : List Int} {b : List Int} (h : allP [.eqN y.length 2, .eqN b.length 2, .p (WpLaw y), .p (WpLaw b), .eqN kx.length 2, .eqN kx.length 2, .p (WpLaw (xwLaw y b)), .p (WpLaw kx), .eqN y.length 2]) : Ok (B6pa0 z0 g0 n0 ga kx y l1 x b) := Ok.dem (fl := bitsF 25 11539466) (by kernel_rfl) (by kernel_rfl) (by
 kernel_rfl) h
theorem B6pa0_ex {z0 : List Int} {g0 n0 ga : Nat} {kx : List Int} {y : List Int} {l1 : Nat} {x : List Int} {b : List Int} : (B6pa0 z0 g0 n0 ga kx y l1 x b).ex = .normal := by kernel_rfl
theorem B6pa0_fm {z0 : List Int} {g0 n0 ga : Nat} {kx : List Int} {y : List Int} {l1 : Nat} {x : List Int} {b : List Int} : (B6pa0 z0 g0 n0 ga kx y l1 x b).fm = [] := by kernel_rfl
theorem B6pa0_tab {z0 : List Int} {g0 n0 ga : Nat} {kx : List Int} {y : List Int} {l1 : Nat} {x : List Int} {b : List Int} : (B6pa0 z0 g0 n0 ga kx y l1 x b).tab = TQa0 z0 g0 n0 ga kx ((mwLaw (xwLaw y b) kx)) l1 x := by kernel_rfl
noncomputable def Saa (z0 : List Int) (g0 n0 ga : Nat) (kx : List Int) (l1 : Nat) : Out := trim 6 7 [1,2] (run eGh 30 ⟨6, []⟩ 400 (fstC (bodyOf f79)) (argF [.func (.yield l1) [] [], .var 5 0] 0) (TBa z0 g0 n0 ga kx [0, 0]) [])
theorem Saa_ok {z0 : List Int} {g0 n0 ga : Nat} {kx : List Int} {l1 : Nat} (h : allP []) : Ok (Saa z0 g0 n0 ga kx l1) := Ok.dem (fl := []) (by kernel_rfl) (by kernel_rfl) (by kernel_rfl) h
theorem Saa_ex {z0 : List Int} {g0 n0 ga : Nat} {kx : List Int} {l1 : Nat} : (Saa z0 g0 n0 ga kx l1).ex = .normal := by kernel_rfl
theorem Saa_fm {z0 : List Int} {g0 n0 ga : Nat} {kx : List Int} {l1 : Nat} : (Saa z0 g0 n0 ga kx l1).fm = [(1, .var 5 0), (2, .var 6 0)] := by kernel_rfl
theorem Saa_tab {z0 : List Int} {g0 n0 ga : Nat} {kx : List Int} {l1 : Nat} : (Saa z0 g0 n0 ga kx l1).tab = TPa z0 g0 n0 ga kx ([0, 0]) l1 := by kernel_rfl
noncomputable def Sba (z0 : List Int) (g0 n0 ga : Nat) (kx : List Int) (l1 : Nat) : Out := trim 7 7 [1,2,6,7,8] (run eGh 30 ⟨7, []⟩ 400 (fstC (sndC (bodyOf f79))) [(1, .var 5 0), (2, .var 6 0)] (TPa z0 g0 n0 ga kx [0, 0] l1) [])
theorem Sba_ok {z0 : List Int} {g0 n0 ga : Nat} {kx : List Int} {l1 : Nat} (h : allP [.eqN ga ga]) : Ok (Sba z0 g0 n0 ga kx l1) := Ok.dem (fl := [true, true, false]) (by kernel_rfl) (by kernel_rfl) (by kernel_rfl) h
theorem Sba_ex {z0 : List Int} {g0 n0 ga : Nat} {kx : List Int} {l1 : Nat} : (Sba z0 g0 n0 ga kx l1).ex = .normal := by kernel_rfl
theorem Sba_fm {z0 : List Int} {g0 n0 ga : Nat} {kx : List Int} {l1 : Nat} : (Sba z0 g0 n0 ga kx l1).fm = [(1, .var 5 0), (2, .var 6 0), (6, .slice 1 0 ga 0 1 (some 1)), (7, .int .i64 1), (8, .int .i64 0)] := by kernel_rfl
theorem Sba_tab {z0 : List Int} {g0 n0 ga : Nat} {kx : List Int} {l1 : Nat} : (Sba z0 g0 n0 ga kx l1).tab = TPa z0 g0 n0 ga kx ([0, 0]) l1 := by kernel_rfl
noncomputable def Zsa0 (z0 : List Int) (g0 n0 ga : Nat) (kx : List Int) (y : List Int) (l1 l2 : Nat) : Out := trim 9 9 [0,1,2,4] (run eGh 31 ⟨9, []⟩ 400 (fstC (bodyOf f81)) (argF [.func (.yield l2) [] [], .var 7 0, .var 8 0] 0) (TNa0 z0 g0 n0 ga kx y l1) [])
theorem Zsa0_ok {z0 : List Int} {g0 n0 ga : Nat} {kx : List Int} {y : List Int} {l1 l2 : Nat} (h : allP []) : Ok (Zsa0 z0 g0 n0 ga kx y l1 l2) := Ok.dem (fl := []) (by kernel_rfl) (by kernel_rfl) (by kernel_rfl) h
theorem Zsa0_ex {z0 : List Int} {g0 n0 ga : Nat} {kx : List Int} {y : List Int} {l1 l2 : Nat} : (Zsa0 z0 g0 n0 ga kx y l1 l2).ex = .normal := by kernel_rfl
theorem Zsa0_fm {z0 : List Int} {g0 n0 ga : Nat} {kx : List Int} {y : List Int} {l1 l2 : Nat} : (Zsa0 z0 g0 n0 ga kx y l1 l2).fm = [(0, .func (Fn.yield l2) [] []), (1, .var 7 0), (2, .var 8 0), (4, .int .i64 0)] := by kernel_rfl
theorem Zsa0_tab {z0 : List Int} {g0 n0 ga : Nat} {kx : List Int} {y : List Int} {l1 l2 : Nat} : (Zsa0 z0 g0 n0 ga kx y l1 l2).tab = TNa0 z0 g0 n0 ga kx y l1 := by kernel_rfl
noncomputable def Hda0 (z0 : List Int) (g0 n0 ga : Nat) (kx : List Int) (y : List Int) (l1 : Nat) : Out := trim 7 7 [1,2,6,7,8,9] (run eGh 30 ⟨7, []⟩ 400 hd79 [(1, .var 5 0), (2, .var 6 0), (6, .slice 1 0 ga 0 1 (some 1)), (7, .int .i64 1), (8, .int .i64 0)] (TPa z0 g0 n0 ga kx y l1) [none])
theorem Hda0_ok {z0 : List Int} {g0 n0 ga : Nat} {kx : List Int} {y : List Int} {l1 : Nat} (h : allP []) : Ok (Hda0 z0 g0 n0 ga kx y l1) := Ok.dem (fl := []) (by kernel_rfl) (by kernel_rfl) (by kernel_rfl) h
theorem Hda0_ex {z0 : List Int} {g0 n0 ga : Nat} {kx : List Int} {y : List Int} {l1 : Nat} : (Hda0 z0 g0 n0 ga kx y l1).ex = .normal := by kernel_rfl
theorem Hda0_fm {z0 : List Int} {g0 n0 ga : Nat} {kx : List Int} {y : List Int} {l1 : Nat} : (Hda0 z0 g0 n0 ga kx y l1).fm = [(1, .var 5 0), (2, .var 6 0), (6, .slice 1 0 ga 0 1 (some 1)), (7, .int .i64 1), (8, .int .i64 0), (9, .bool true)] := by kernel_rfl
theorem Hda0_tab {z0 : List Int} {g0 n0 ga : Nat} {kx : List Int} {y : List Int} {l1 : Nat} : (Hda0 z0 g0 n0 ga kx y l1).tab = TPa z0 g0 n0 ga kx y l1 := by kernel_rfl
noncomputable def Paa0 (z0 : List Int) (g0 n0 ga : Nat) (kx : List Int) (y : List Int) (l1 : Nat) : Out := trim 7 7 [1,2,4,6,7,8] (run eGh 30 ⟨7, []⟩ 400 (fstC x79) [(1, .var 5 0), (2, .var 6 0), (6, .slice 1 0 ga 0 1 (some 1)), (7, .int .i64 1), (8, .int .i64 0)] (TPa z0 g0 n0 ga kx y l1) [])
theorem Paa0_ok {z0 : List Int} {g0 n0 ga : Nat} {kx : List Int} {y : List Int} {l1 : Nat} (h : allP [.eqN ga ga, .eqN ga ga]) : Ok (Paa0 z0 g0 n0 ga kx y l1) := Ok.dem (fl := [false, true, true, false, true]) (by kernel_rfl) (by kernel_rfl) (by kernel_rfl) h
theorem Paa0_ex {z0 : List Int} {g0 n0 ga : Nat} {kx : List Int} {y : List Int} {l1 : Nat} : (Paa0 z0 g0 n0 ga kx y l1).ex = .normal := by kernel_rfl
theorem Paa0_fm {z0 : List Int} {g0 n0 ga : Nat} {kx : List Int} {y : List Int} {l1 : Nat} : (Paa0 z0 g0 n0 ga kx y l1).fm = [(1, .var 5 0), (2, .var 6 0), (4, .slice 1 1 g0 0 n0 none), (6, .slice 1 0 ga 0 1 (some 1)), (7, .int .i64 1), (8, .int .i64 0)] := by kernel_rfl
theorem Paa0_tab {z0 : List Int} {g0 n0 ga : Nat} {kx : List Int} {y : List Int} {l1 : Nat} : (Paa0 z0 g0 n0 ga kx y l1).tab = TPa z0 g0 n0 ga kx y l1 := by kernel_rfl
noncomputable def Pba0 (z0 : List Int) (g0 n0 ga : Nat) (kx : List Int) (y : List Int) (l1 : Nat) : Out := trim 7 9 [1,2,6,7,8,13] (run eGh 30 ⟨7, []⟩ 400 (fstC (sndC x79)) ((4, .slice 1 1 g0 0 n0 none) :: [(1, .var 5 0), (2, .var 6 0), (6, .slice 1 0 ga 0 1 (some 1)), (7, .int .i64 1), (8, .int .i64 0)]) (TPa z0 g0 n0 ga kx y l1) [])
theorem Pba0_ok {z0 : List Int} {g0 n0 ga : Nat} {kx : List Int} {y : List Int} {l1 : Nat} (h : allP [.eqN g0 g0]) : Ok (Pba0 z0 g0 n0 ga kx y l1) := Ok.dem (fl := [false, true, true]) (by kernel_rfl) (by kernel_rfl) (by kernel_rfl) h
theorem Pba0_ex {z0 : List Int} {g0 n0 ga : Nat} {kx : List Int} {y : List Int} {l1 : Nat} : (Pba0 z0 g0 n0 ga kx y l1).ex = .normal := by kernel_rfl
theorem Pba0_fm {z0 : List Int} {g0 n0 ga : Nat} {kx : List Int} {y : List Int} {l1 : Nat} : (Pba0 z0 g0 n0 ga kx y l1).fm = [(1, .var 5 0), (2, .var 6 0), (6, .slice 1 0 ga 0 1 (some 1)), (7, .int .i64 1), (8, .int .i64 0), (13, .func (Fn.func 81) [] [.var 7 0, .var 8 0])] := by kernel_rfl
theorem Pba0_tab {z0 : List Int} {g0 n0 ga : Nat} {kx : List Int} {y : List Int} {l1 : Nat} : (Pba0 z0 g0 n0 ga kx y l1).tab = TNa0 z0 g0 n0 ga kx y l1 := by kernel_rfl
noncomputable def Nqa0 (z0 : List Int) (g0 n0 ga : Nat) (kx : List Int) (y : List Int) (l1 : Nat) (x : List Int) (fm : Fm) : Out := runOps eGh ops79.toList 30 [ops79.toList.getD 13 default] ((27, .bool true) :: fm) (((TQa0 z0 g0 n0 ga kx y l1 x) : Tab) ++ holes (cntA eGh [ops79.toList.getD 13 default])) ((TQa0 z0 g0 n0 ga kx y l1 x) : Tab).length []
theorem Nqa0_ok {z0 : List Int} {g0 n0 ga : Nat} {kx : List Int} {y : List Int} {l1 : Nat} {x : List Int} {fm : Fm} (h : allP []) : Ok (Nqa0 z0 g0 n0 ga kx y l1 x fm) := Ok.dem (fl := []) (by kernel_rfl) (by kernel_rfl) (by kernel_rfl) h
theorem Nqa0_fm {z0 : List Int} {g0 n0 ga : Nat} {kx : List Int} {y : List Int} {l1 : Nat} {x : List Int} {fm : Fm} : (Nqa0 z0 g0 n0 ga kx y l1 x fm).fm = (28, .bool false) :: (27, .bool true) :: fm := by kernel_rfl
theorem Nqa0_tab {z0 : List Int} {g0 n0 ga : Nat} {kx : List Int} {y : List Int} {l1 : Nat} {x : List Int} {fm : Fm} : (Nqa0 z0 g0 n0 ga kx y l1 x fm).tab = TQa0 z0 g0 n0 ga kx y l1 x := by kernel_rfl
noncomputable def Cpa0 (z0 : List Int) (g0 n0 ga : Nat) (kx : List Int) (y : List Int) (l1 : Nat) (x : List Int) : Out := trim 9 9 [] (run eGh 30 ⟨9, []⟩ 400 cnd79 [(28, .bool false)] (TQa0 z0 g0 n0 ga kx y l1 x) [])
theorem Cpa0_ok {z0 : List Int} {g0 n0 ga : Nat} {kx : List Int} {y : List Int} {l1 : Nat} {x : List Int} (h : allP []) : Ok (Cpa0 z0 g0 n0 ga kx y l1 x) := Ok.dem (fl := []) (by kernel_rfl) (by kernel_rfl) (by kernel_rfl) h
theorem Cpa0_ex {z0 : List Int} {g0 n0 ga : Nat} {kx : List Int} {y : List Int} {l1 : Nat} {x : List Int} : (Cpa0 z0 g0 n0 ga kx y l1 x).ex = .normal := by kernel_rfl
theorem Cpa0_fm {z0 : List Int} {g0 n0 ga : Nat} {kx : List Int} {y : List Int} {l1 : Nat} {x : List Int} : (Cpa0 z0 g0 n0 ga kx y l1 x).fm = [] := by kernel_rfl
theorem Cpa0_tab {z0 : List Int} {g0 n0 ga : Nat} {kx : List Int} {y : List Int} {l1 : Nat} {x : List Int} : (Cpa0 z0 g0 n0 ga kx y l1 x).tab = TNa0 z0 g0 n0 ga kx y l1 := by kernel_rfl
noncomputable def Nta0 (z0 : List Int) (g0 n0 ga : Nat) (kx : List Int) (y : List Int) (l1 : Nat) (fm : Fm) : Out := runOps eGh ops79.toList 30 [ops79.toList.getD 13 default] ((27, .bool true) :: fm) (((TNa0 z0 g0 n0 ga kx y l1) : Tab) ++ holes (cntA eGh [ops79.toList.getD 13 default])) ((TNa0 z0 g0 n0 ga kx y l1) : Tab).length []
theorem Nta0_ok {z0 : List Int} {g0 n0 ga : Nat} {kx : List Int} {y : List Int} {l1 : Nat} {fm : Fm} (h : allP []) : Ok (Nta0 z0 g0 n0 ga kx y l1 fm) := Ok.dem (fl := []) (by kernel_rfl) (by kernel_rfl) (by kernel_rfl) h
theorem Nta0_fm {z0 : List Int} {g0 n0 ga : Nat} {kx : List Int} {y : List Int} {l1 : Nat} {fm : Fm} : (Nta0 z0 g0 n0 ga kx y l1 fm).fm = (28, .bool false) :: (27, .bool true) :: fm := by kernel_rfl
theorem Nta0_tab {z0 : List Int} {g0 n0 ga : Nat} {kx : List Int} {y : List Int} {l1 : Nat} {fm : Fm} : (Nta0 z0 g0 n0 ga kx y l1 fm).tab = TNa0 z0 g0 n0 ga kx y l1 := by kernel_rfl
noncomputable def Nua0 (z0 : List Int) (g0 n0 ga : Nat) (kx : List Int) (y : List Int) (l1 : Nat) (fm : Fm) : Out := runOps eGh ops81.toList 31 (ops81.toList.drop 11) ((29, .bool true) :: fm) (((TNa0 z0 g0 n0 ga kx y l1) : Tab) ++ holes (cntA eGh (ops81.toList.drop 11))) ((TNa0 z0 g0 n0 ga kx y l1) : Tab).length []
theorem Nua0_ok {z0 : List Int} {g0 n0 ga : Nat} {kx : List Int} {y : List Int} {l1 : Nat} {fm : Fm} (h : allP []) : Ok (Nua0 z0 g0 n0 ga kx y l1 fm) := Ok.dem (fl := []) (by kernel_rfl) (by kernel_rfl) (by kernel_rfl) h
theorem Nua0_fm {z0 : List Int} {g0 n0 ga : Nat} {kx : List Int} {y : List Int} {l1 : Nat} {fm : Fm} : (Nua0 z0 g0 n0 ga kx y l1 fm).fm = (30, .bool false) :: (29, .bool true) :: fm := by kernel_rfl
theorem Nua0_tab {z0 : List Int} {g0 n0 ga : Nat} {kx : List Int} {y : List Int} {l1 : Nat} {fm : Fm} : (Nua0 z0 g0 n0 ga kx y l1 fm).tab = TNa0 z0 g0 n0 ga kx y l1 := by kernel_rfl
noncomputable def Hda1 (z0 : List Int) (g0 n0 ga : Nat) (kx : List Int) (y : List Int) (l1 : Nat) : Out := trim 6 6 [9] (run eGh 30 ⟨6, []⟩ 400 hd79 [(1, .var 5 0), (2, .var 6 0), (6, .slice 1 0 ga 0 1 (some 1)), (7, .int .i64 1), (8, .int .i64 1)] (TPa z0 g0 n0 ga kx y l1) [none])
theorem Hda1_ok {z0 : List Int} {g0 n0 ga : Nat} {kx : List Int} {y : List Int} {l1 : Nat} (h : allP []) : Ok (Hda1 z0 g0 n0 ga kx y l1) := Ok.dem (fl := []) (by kernel_rfl) (by kernel_rfl) (by kernel_rfl) h
theorem Hda1_ex {z0 : List Int} {g0 n0 ga : Nat} {kx : List Int} {y : List Int} {l1 : Nat} : (Hda1 z0 g0 n0 ga kx y l1).ex = .normal := by kernel_rfl
theorem Hda1_fm {z0 : List Int} {g0 n0 ga : Nat} {kx : List Int} {y : List Int} {l1 : Nat} : (Hda1 z0 g0 n0 ga kx y l1).fm = [(9, .bool false)] := by kernel_rfl
theorem Hda1_tab {z0 : List Int} {g0 n0 ga : Nat} {kx : List Int} {y : List Int} {l1 : Nat} : (Hda1 z0 g0 n0 ga kx y l1).tab = TBa z0 g0 n0 ga kx y := by kernel_rfl
end Go.Abs

set_option linter.unusedVariables false
set_option linter.unusedSimpArgs false
set_option maxRecDepth 8000
namespace Go.Abs
open Go.Proofs.Try
def TBc (z0 z1 z2 : List Int) (g0 n0 g1 n1 g2 n2 ga : Nat) (kx : List Int) (y : List Int) : Tab := [some ⟨.agg [.slice 1 1 g0 0 n0 none, .slice 1 2 g1 0 n1 none, .slice 1 3 g2 0 n2 none], ga, false, 25⟩, some ⟨.ints .u8 z0, g0, false, 5⟩, some ⟨.ints .u8 z1, g1, false, 5⟩, some ⟨.ints .u8 z2, g2, false, 5⟩, some ⟨.ints .u64 kx, 0, true, 65⟩, some ⟨.ints .u64 [0, 0], 0, true, 65⟩, some ⟨.ints .u64 y, 0, true, 65⟩, some ⟨.agg [.slice 1 0 ga 0 3 (some 3)], 0, true, 81⟩]
def TPc (z0 z1 z2 : List Int) (g0 n0 g1 n1 g2 n2 ga : Nat) (kx : List Int) (y : List Int) (l1 : Nat) : Tab := [some ⟨.agg [.slice 1 1 g0 0 n0 none, .slice 1 2 g1 0 n1 none, .slice 1 3 g2 0 n2 none], ga, false, 25⟩, some ⟨.ints .u8 z0, g0, false, 5⟩, some ⟨.ints .u8 z1, g1, false, 5⟩, some ⟨.ints .u8 z2, g2, false, 5⟩, some ⟨.ints .u64 kx, 0, true, 65⟩, some ⟨.ints .u64 [0, 0], 0, true, 65⟩, some ⟨.ints .u64 y, 0, true, 65⟩, some ⟨.agg [.slice 1 0 ga 0 3 (some 3)], 0, true, 81⟩, some ⟨.agg [.func (.yield l1) [] []], 0, true, 85⟩]
def TNc0 (z0 z1 z2 : List Int) (g0 n0 g1 n1 g2 n2 ga : Nat) (kx : List Int) (y : List Int) (l1 : Nat) : Tab := [some ⟨.agg [.slice 1 1 g0 0 n0 none, .slice 1 2 g1 0 n1 none, .slice 1 3 g2 0 n2 none], ga, false, 25⟩, some ⟨.ints .u8 z0, g0, false, 5⟩, some ⟨.ints .u8 z1, g1, false, 5⟩, some ⟨.ints .u8 z2, g2, false, 5⟩, some ⟨.ints .u64 kx, 0, true, 65⟩, some ⟨.ints .u64 [0, 0], 0, true, 65⟩, some ⟨.ints .u64 y, 0, true, 65⟩, some ⟨.agg [.slice 1 0 ga 0 3 (some 3)], 0, true, 81⟩, some ⟨.agg [.func (.yield l1) [] []], 0, true, 85⟩, some ⟨.agg [.slice 1 1 g0 0 n0 none], 0, true, 25⟩, some ⟨.ints .i64 [16], 0, true, 3⟩]
def TQc0 (z0 z1 z2 : List Int) (g0 n0 g1 n1 g2 n2 ga : Nat) (kx : List Int) (y : List Int) (l1 : Nat) (x : List Int) : Tab := [some ⟨.agg [.slice 1 1 g0 0 n0 none, .slice 1 2 g1 0 n1 none, .slice 1 3 g2 0 n2 none], ga, false, 25⟩, some ⟨.ints .u8 z0, g0, false, 5⟩, some ⟨.ints .u8 z1, g1, false, 5⟩, some ⟨.ints .u8 z2, g2, false, 5⟩, some ⟨.ints .u64 kx, 0, true, 65⟩, some ⟨.ints .u64 [0, 0], 0, true, 65⟩, some ⟨.ints .u64 y, 0, true, 65⟩, some ⟨.agg [.slice 1 0 ga 0 3 (some 3)], 0, true, 81⟩, some ⟨.agg [.func (.yield l1) [] []], 0, true, 85⟩, some ⟨.agg [.slice 1 1 g0 0 n0 none], 0, true, 25⟩, some ⟨.ints .i64 [16], 0, true, 3⟩, some ⟨.ints .u8 x, 0, true, 5⟩]
def TUc0 (z0 z1 z2 : List Int) (g0 n0 g1 n1 g2 n2 ga : Nat) (kx : List Int) (y : List Int) (l1 : Nat) (b : List Int) : Tab := [some ⟨.agg [.slice 1 1 g0 0 n0 none, .slice 1 2 g1 0 n1 none, .slice 1 3 g2 0 n2 none], ga, false, 25⟩, some ⟨.ints .u8 z0, g0, false, 5⟩, some ⟨.ints .u8 z1, g1, false, 5⟩, some ⟨.ints .u8 z2, g2, false, 5⟩, some ⟨.ints .u64 kx, 0, true, 65⟩, some ⟨.ints .u64 [0, 0], 0, true, 65⟩, some ⟨.ints .u64 y, 0, true, 65⟩, some ⟨.agg [.slice 1 0 ga 0 3 (some 3)], 0, true, 81⟩, some ⟨.agg [.func (.yield l1) [] []], 0, true, 85⟩, some ⟨.agg [.slice 1 1 g0 0 n0 none], 0, true, 25⟩, some ⟨.ints .i64 [16], 0, true, 3⟩, some ⟨.ints .u64 b, 0, true, 65⟩]
def TVc0 (z0 z1 z2 : List Int) (g0 n0 g1 n1 g2 n2 ga : Nat) (kx : List Int) (y : List Int) (l1 : Nat) (x b : List Int) : Tab := [some ⟨.agg [.slice 1 1 g0 0 n0 none, .slice 1 2 g1 0 n1 none, .slice 1 3 g2 0 n2 none], ga, false, 25⟩, some ⟨.ints .u8 z0, g0, false, 5⟩, some ⟨.ints .u8 z1, g1, false, 5⟩, some ⟨.ints .u8 z2, g2, false, 5⟩, some ⟨.ints .u64 kx, 0, true, 65⟩, some ⟨.ints .u64 [0, 0], 0, true, 65⟩, some ⟨.ints .u64 y, 0, true, 65⟩, some ⟨.agg [.slice 1 0 ga 0 3 (some 3)], 0, true, 81⟩, some ⟨.agg [.func (.yield l1) [] []], 0, true, 85⟩, some ⟨.agg [.slice 1 1 g0 0 n0 none], 0, true, 25⟩, some ⟨.ints .i64 [16], 0, true, 3⟩, some ⟨.ints .u8 x, 0, true, 5⟩, some ⟨.ints .u64 b, 0, true, 65⟩]
def TNc1 (z0 z1 z2 : List Int) (g0 n0 g1 n1 g2 n2 ga : Nat) (kx : List Int) (y : List Int) (l1 : Nat) : Tab := [some ⟨.agg [.slice 1 1 g0 0 n0 none, .slice 1 2 g1 0 n1 none, .slice 1 3 g2 0 n2 none], ga, false, 25⟩, some ⟨.ints .u8 z0, g0, false, 5⟩, some ⟨.ints .u8 z1, g1, false, 5⟩, some ⟨.ints .u8 z2, g2, false, 5⟩, some ⟨.ints .u64 kx, 0, true, 65⟩, some ⟨.ints .u64 [0, 0], 0, true, 65⟩, some ⟨.ints .u64 y, 0, true, 65⟩, some ⟨.agg [.slice 1 0 ga 0 3 (some 3)], 0, true, 81⟩, some ⟨.agg [.func (.yield l1) [] []], 0, true, 85⟩, some ⟨.agg [.slice 1 2 g1 0 n1 none], 0, true, 25⟩, some ⟨.ints .i64 [16], 0, true, 3⟩]
def TQc1 (z0 z1 z2 : List Int) (g0 n0 g1 n1 g2 n2 ga : Nat) (kx : List Int) (y : List Int) (l1 : Nat) (x : List Int) : Tab := [some ⟨.agg [.slice 1 1 g0 0 n0 none, .slice 1 2 g1 0 n1 none, .slice 1 3 g2 0 n2 none], ga, false, 25⟩, some ⟨.ints .u8 z0, g0, false, 5⟩, some ⟨.ints .u8 z1, g1, false, 5⟩, some ⟨.ints .u8 z2, g2, false, 5⟩, some ⟨.ints .u64 kx, 0, true, 65⟩, some ⟨.ints .u64 [0, 0], 0, true, 65⟩, some ⟨.ints .u64 y, 0, true, 65⟩, some ⟨.agg [.slice 1 0 ga 0 3 (some 3)], 0, true, 81⟩, some ⟨.agg [.func (.yield l1) [] []], 0, true, 85⟩, some ⟨.agg [.slice 1 2 g1 0 n1 none], 0, true, 25⟩, some ⟨.ints .i64 [16], 0, true, 3⟩, some ⟨.ints .u8 x, 0, true, 5⟩]
def TUc1 (z0 z1 z2 : List Int) (g0 n0 g1 n1 g2 n2 ga : Nat) (kx : List Int) (y : List Int) (l1 : Nat) (b : List Int) : Tab := [some ⟨.agg [.slice 1 1 g0 0 n0 none, .slice 1 2 g1 0 n1 none, .slice 1 3 g2 0 n2 none], ga, false, 25⟩, some ⟨.ints .u8 z0, g0, false, 5⟩, some ⟨.ints .u8 z1, g1, false, 5⟩, some ⟨.ints .u8 z2, g2, false, 5⟩, some ⟨.ints .u64 kx, 0, true, 65⟩, some ⟨.ints .u64 [0, 0], 0, true, 65⟩, some ⟨.ints .u64 y, 0, true, 65⟩, some ⟨.agg [.slice 1 0 ga 0 3 (some 3)], 0, true, 81⟩, some ⟨.agg [.func (.yield l1) [] []], 0, true, 85⟩, some ⟨.agg [.slice 1 2 g1 0 n1 none], 0, true, 25⟩, some ⟨.ints .i64 [16], 0, true, 3⟩, some ⟨.ints .u64 b, 0, true, 65⟩]
def TVc1 (z0 z1 z2 : List Int) (g0 n0 g1 n1 g2 n2 ga : Nat) (kx : List Int) (y : List Int) (l1 : Nat) (x b : List Int) : Tab := [some ⟨.agg [.slice 1 1 g0 0 n0 none, .slice 1 2 g1 0 n1 none, .slice 1 3 g2 0 n2 none], ga, false, 25⟩, some ⟨.ints .u8 z0, g0, false, 5⟩, some ⟨.ints .u8 z1, g1, false, 5⟩, some ⟨.ints .u8 z2, g2, false, 5⟩, some ⟨.ints .u64 kx, 0, true, 65⟩, some ⟨.ints .u64 [0, 0], 0, true, 65⟩, some ⟨.ints .u64 y, 0, true, 65⟩, some ⟨.agg [.slice 1 0 ga 0 3 (some 3)], 0, true, 81⟩, some ⟨.agg [.func (.yield l1) [] []], 0, true, 85⟩, some ⟨.agg [.slice 1 2 g1 0 n1 none], 0, true, 25⟩, some ⟨.ints .i64 [16], 0, true, 3⟩, some ⟨.ints .u8 x, 0, true, 5⟩, some ⟨.ints .u64 b, 0, true, 65⟩]
def TNc2 (z0 z1 z2 : List Int) (g0 n0 g1 n1 g2 n2 ga : Nat) (kx : List Int) (y : List Int) (l1 : Nat) : Tab := [some ⟨.agg [.slice 1 1 g0 0 n0 none, .slice 1 2 g1 0 n1 none, .slice 1 3 g2 0 n2 none], ga, false, 25⟩, some ⟨.ints .u8 z0, g0, false, 5⟩, some ⟨.ints .u8 z1, g1, false, 5⟩, some ⟨.ints .u8 z2, g2, false, 5⟩, some ⟨.ints .u64 kx, 0, true, 65⟩, some ⟨.ints .u64 [0, 0], 0, true, 65⟩, some ⟨.ints .u64 y, 0, true, 65⟩, some ⟨.agg [.slice 1 0 ga 0 3 (some 3)], 0, true, 81⟩, some ⟨.agg [.func (.yield l1) [] []], 0, true, 85⟩, some ⟨.agg [.slice 1 3 g2 0 n2 none], 0, true, 25⟩, some ⟨.ints .i64 [16], 0, true, 3⟩]
def TQc2 (z0 z1 z2 : List Int) (g0 n0 g1 n1 g2 n2 ga : Nat) (kx : List Int) (y : List Int) (l1 : Nat) (x : List Int) : Tab := [some ⟨.agg [.slice 1 1 g0 0 n0 none, .slice 1 2 g1 0 n1 none, .slice 1 3 g2 0 n2 none], ga, false, 25⟩, some ⟨.ints .u8 z0, g0, false, 5⟩, some ⟨.ints .u8 z1, g1, false, 5⟩, some ⟨.ints .u8 z2, g2, false, 5⟩, some ⟨.ints .u64 kx, 0, true, 65⟩, some ⟨.ints .u64 [0, 0], 0, true, 65⟩, some ⟨.ints .u64 y, 0, true, 65⟩, some ⟨.agg [.slice 1 0 ga 0 3 (some 3)], 0, true, 81⟩, some ⟨.agg [.func (.yield l1) [] []], 0, true, 85⟩, some ⟨.agg [.slice 1 3 g2 0 n2 none], 0, true, 25⟩, some ⟨.ints .i64 [16], 0, true, 3⟩, some ⟨.ints .u8 x, 0, true, 5⟩]
def TUc2 (z0 z1 z2 : List Int) (g0 n0 g1 n1 g2 n2 ga : Nat) (kx : List Int) (y : List Int) (l1 : Nat) (b : List Int) : Tab := [some ⟨.agg [.slice 1 1 g0 0 n0 none, .slice 1 2 g1 0 n1 none, .slice 1 3 g2 0 n2 none], ga, false, 25⟩, some ⟨.ints .u8 z0, g0, false, 5⟩, some ⟨.ints .u8 z1, g1, false, 5⟩, some ⟨.ints .u8 z2, g2, false, 5⟩, some ⟨.ints .u64 kx, 0, true, 65⟩, some ⟨.ints .u64 [0, 0], 0, true, 65⟩, some ⟨.ints .u64 y, 0, true, 65⟩, some ⟨.agg [.slice 1 0 ga 0 3 (some 3)], 0, true, 81⟩, some ⟨.agg [.func (.yield l1) [] []], 0, true, 85⟩, some ⟨.agg [.slice 1 3 g2 0 n2 none], 0, true, 25⟩, some ⟨.ints .i64 [16], 0, true, 3⟩, some ⟨.ints .u64 b, 0, true, 65⟩]
def TVc2 (z0 z1 z2 : List Int) (g0 n0 g1 n1 g2 n2 ga : Nat) (kx : List Int) (y : List Int) (l1 : Nat) (x b : List Int) : Tab := [some ⟨.agg [.slice 1 1 g0 0 n0 none, .slice 1 2 g1 0 n1 none, .slice 1 3 g2 0 n2 none], ga, false, 25⟩, some ⟨.ints .u8 z0, g0, false, 5⟩, some ⟨.ints .u8 z1, g1, false, 5⟩, some ⟨.ints .u8 z2, g2, false, 5⟩, some ⟨.ints .u64 kx, 0, true, 65⟩, some ⟨.ints .u64 [0, 0], 0, true, 65⟩, some ⟨.ints .u64 y, 0, true, 65⟩, some ⟨.agg [.slice 1 0 ga 0 3 (some 3)], 0, true, 81⟩, some ⟨.agg [.func (.yield l1) [] []], 0, true, 85⟩, some ⟨.agg [.slice 1 3 g2 0 n2 none], 0, true, 25⟩, some ⟨.ints .i64 [16], 0, true, 3⟩, some ⟨.ints .u8 x, 0, true, 5⟩, some ⟨.ints .u64 b, 0, true, 65⟩]
/-! text 0 of 3 -/
noncomputable def Hyc0 (z0 z1 z2 : List Int) (g0 n0 g1 n1 g2 n2 ga : Nat) (kx : List Int) (y : List Int) (l1 l2 : Nat) (i : Int) : Out := trim 11 11 [0,1,2,4] (run eGh 31 ⟨11, []⟩ 400 hd81 [(0, .func (.yield l2) [] []), (1, .var 9 0), (2, .var 10 0), (4, .int .i64 i)] (TNc0 z0 z1 z2 g0 n0 g1 n1 g2 n2 ga kx y l1) [some true])
theorem Hyc0_ok {z0 z1 z2 : List Int} {g0 n0 g1 n1 g2 n2 ga : Nat} {kx : List Int} {y : List Int} {l1 l2 : Nat} {i : Int} (h : allP [.eqN g0 g0, .p (decide (i < (↑n0 : Int)) = true)]) : Ok (Hyc0 z0 z1 z2 g0 n0 g1 n1 g2 n2 ga kx y l1 l2 i) := Ok.dem (fl := [true, true, false, false]) (by kernel_rfl) (by kernel_rfl) (by kernel_rfl) h
theorem Hyc0_ex {z0 z1 z2 : List Int} {g0 n0 g1 n1 g2 n2 ga : Nat} {kx : List Int} {y : List Int} {l1 l2 : Nat} {i : Int} : (Hyc0 z0 z1 z2 g0 n0 g1 n1 g2 n2 ga kx y l1 l2 i).ex = .normal := by kernel_rfl
theorem Hyc0_fm {z0 z1 z2 : List Int} {g0 n0 g1 n1 g2 n2 ga : Nat} {kx : List Int} {y : List Int} {l1 l2 : Nat} {i : Int} : (Hyc0 z0 z1 z2 g0 n0 g1 n1 g2 n2 ga kx y l1 l2 i).fm = [(0, .func (Fn.yield l2) [] []), (1, .var 9 0), (2, .var 10 0), (4, .int .i64 i)] := by kernel_rfl
theorem Hyc0_tab {z0 z1 z2 : List Int} {g0 n0 g1 n1 g2 n2 ga : Nat} {kx : List Int} {y : List Int} {l1 l2 : Nat} {i : Int} : (Hyc0 z0 z1 z2 g0 n0 g1 n1 g2 n2 ga kx y l1 l2 i).tab = TNc0 z0 z1 z2 g0 n0 g1 n1 g2 n2 ga kx y l1 := by kernel_rfl
noncomputable def Hnc0 (z0 z1 z2 : List Int) (g0 n0 g1 n1 g2 n2 ga : Nat) (kx : List Int) (y : List Int) (l1 l2 : Nat) (i : Int) : Out := trim 11 11 [] (run eGh 31 ⟨11, []⟩ 400 hd81 [(0, .func (.yield l2) [] []), (1, .var 9 0), (2, .var 10 0), (4, .int .i64 i)] (TNc0 z0 z1 z2 g0 n0 g1 n1 g2 n2 ga kx y l1) [some false])
theorem Hnc0_ok {z0 z1 z2 : List Int} {g0 n0 g1 n1 g2 n2 ga : Nat} {kx : List Int} {y : List Int} {l1 l2 : Nat} {i : Int} (h : allP [.eqN g0 g0, .p (decide (i < (↑n0 : Int)) = false)]) : Ok (Hnc0 z0 z1 z2 g0 n0 g1 n1 g2 n2 ga kx y l1 l2 i) := Ok.dem (fl := [true, true, false, false]) (by kernel_rfl) (by kernel_rfl) (by kernel_rfl) h
theorem Hnc0_ex {z0 z1 z2 : List Int} {g0 n0 g1 n1 g2 n2 ga : Nat} {kx : List Int} {y : List Int} {l1 l2 : Nat} {i : Int} : (Hnc0 z0 z1 z2 g0 n0 g1 n1 g2 n2 ga kx y l1 l2 i).ex = .exit 0 := by kernel_rfl
theorem Hnc0_fm {z0 z1 z2 : List Int} {g0 n0 g1 n1 g2 n2 ga : Nat} {kx : List Int} {y : List Int} {l1 l2 : Nat} {i : Int} : (Hnc0 z0 z1 z2 g0 n0 g1 n1 g2 n2 ga kx y l1 l2 i).fm = [] := by kernel_rfl
theorem Hnc0_tab {z0 z1 z2 : List Int} {g0 n0 g1 n1 g2 n2 ga : Nat} {kx : List Int} {y : List Int} {l1 l2 : Nat} {i : Int} : (Hnc0 z0 z1 z2 g0 n0 g1 n1 g2 n2 ga kx y l1 l2 i).tab = TNc0 z0 z1 z2 g0 n0 g1 n1 g2 n2 ga kx y l1 := by kernel_rfl
noncomputable def Msc0 (z0 z1 z2 : List Int) (g0 n0 g1 n1 g2 n2 ga : Nat) (kx : List Int) (y : List Int) (l1 l2 : Nat) (i : Int) : Out := trim 11 11 [0,1,2,4,5] (run eGh 31 ⟨11, []⟩ 400 m81 [(0, .func (.yield l2) [] []), (1, .var 9 0), (2, .var 10 0), (4, .int .i64 i)] (TNc0 z0 z1 z2 g0 n0 g1 n1 g2 n2 ga kx y l1) [])
theorem Msc0_ok {z0 z1 z2 : List Int} {g0 n0 g1 n1 g2 n2 ga : Nat} {kx : List Int} {y : List Int} {l1 l2 : Nat} {i : Int} (h : allP [.leI 0 i, .eqN g0 g0, .leN i.toNat n0, .eqN g0 g0]) : Ok (Msc0 z0 z1 z2 g0 n0 g1 n1 g2 n2 ga kx y l1 l2 i) := Ok.dem (fl := [false, true, true, true, true, false, false, false, false]) (by kernel_rfl) (by kernel_rfl) (by kernel_rfl) h
theorem Msc0_ex {z0 z1 z2 : List Int} {g0 n0 g1 n1 g2 n2 ga : Nat} {kx : List Int} {y : List Int} {l1 l2 : Nat} {i : Int} : (Msc0 z0 z1 z2 g0 n0 g1 n1 g2 n2 ga kx y l1 l2 i).ex = .normal := by kernel_rfl
theorem Msc0_fm {z0 z1 z2 : List Int} {g0 n0 g1 n1 g2 n2 ga : Nat} {kx : List Int} {y : List Int} {l1 l2 : Nat} {i : Int} : (Msc0 z0 z1 z2 g0 n0 g1 n1 g2 n2 ga kx y l1 l2 i).fm = [(0, .func (Fn.yield l2) [] []), (1, .var 9 0), (2, .var 10 0), (4, .int .i64 i), (5, .int .i64 (if (↑(subO n0 i.toNat) : Int) < 16 then (↑(subO n0 i.toNat) : Int) else 16))] := by kernel_rfl
theorem Msc0_tab {z0 z1 z2 : List Int} {g0 n0 g1 n1 g2 n2 ga : Nat} {kx : List Int} {y : List Int} {l1 l2 : Nat} {i : Int} : (Msc0 z0 z1 z2 g0 n0 g1 n1 g2 n2 ga kx y l1 l2 i).tab = TNc0 z0 z1 z2 g0 n0 g1 n1 g2 n2 ga kx y l1 := by kernel_rfl
noncomputable def Yac0 (z0 z1 z2 : List Int) (g0 n0 g1 n1 g2 n2 ga : Nat) (kx : List Int) (y : List Int) (l1 l2 : Nat) (i r : Int) : Out := runOps eGh ops81.toList 31 (ops81.toList.take 10) ([(0, .func (.yield l2) [] []), (1, .var 9 0), (2, .var 10 0), (4, .int .i64 i)] ++ [(5, .int .i64 r)]) (((TNc0 z0 z1 z2 g0 n0 g1 n1 g2 n2 ga kx y l1) : Tab) ++ holes (cntA eGh (ops81.toList.take 10))) ((TNc0 z0 z1 z2 g0 n0 g1 n1 g2 n2 ga kx y l1) : Tab).length []
theorem Yac0_ok {z0 z1 z2 : List Int} {g0 n0 g1 n1 g2 n2 ga : Nat} {kx : List Int} {y : List Int} {l1 l2 : Nat} {i r : Int} (h : allP [.rng (-9223372036854775808) (i + r) 9223372036854775807, .rng (-9223372036854775808) (i + r) 9223372036854775807, .leI 0 i, .leI 0 (i + r), .leI 0 (i + r), .eqN g0 g0, .leN i.toNat (i + r).toNat, .leN (i + r).toNat (i + r).toNat, .orN (i + r).toNat n0 (0 + (i +
 r).toNat) z0.length]) : Ok (Yac0 z0 z1 z2 g0 n0 g1 n1 g2 n2 ga kx y l1 l2 i r) := Ok.dem (fl := [true, true, false, false, false, false, false, false, false, false, false]) (by kernel_rfl) (by kernel_rfl) (by kernel_rfl) h
theorem Yac0_fm {z0 z1 z2 : List Int} {g0 n0 g1 n1 g2 n2 ga : Nat} {kx : List Int} {y : List Int} {l1 l2 : Nat} {i r : Int} : (Yac0 z0 z1 z2 g0 n0 g1 n1 g2 n2 ga kx y l1 l2 i r).fm = [(28, .slice 1 1 g0 i.toNat (subO (i + r).toNat i.toNat) (some (subO (i + r).toNat i.toNat))), (27, .int .i64 (i + r)), (26, .int .i64 r), (25, .int .i64 i), (24, .int .i64 (i + r)), (23, .int .i64 r), (22, .int .i64
 i), (21, .int .i64 i), (20, .slice 1 1 g0 0 n0 none), (19, .func (Fn.yield l2) [] []), (0, .func (Fn.yield l2) [] []), (1, .var 9 0), (2, .var 10 0), (4, .int .i64 i), (5, .int .i64 r)] := by kernel_rfl
theorem Yac0_tab {z0 z1 z2 : List Int} {g0 n0 g1 n1 g2 n2 ga : Nat} {kx : List Int} {y : List Int} {l1 l2 : Nat} {i r : Int} : (Yac0 z0 z1 z2 g0 n0 g1 n1 g2 n2 ga kx y l1 l2 i r).tab = TNc0 z0 z1 z2 g0 n0 g1 n1 g2 n2 ga kx y l1 := by kernel_rfl
noncomputable def Asc0 (z0 z1 z2 : List Int) (g0 n0 g1 n1 g2 n2 ga : Nat) (kx : List Int) (y : List Int) (l1 l2 : Nat) (o r : Nat) : Out := trim 11 11 [2,5] (run eGh 30 ⟨11, []⟩ 400 as79 ((14, .slice 1 1 g0 o r (some r)) :: [(1, .var 7 0), (2, .var 8 0), (6, .slice 1 0 ga 0 3 (some 3)), (7, .int .i64 3), (8, .int .i64 0), (13, .func (.func 81) [] [.var 9 0, .var 10 0])]) (TNc0 z0 z1 z2 g0 n0 g1 n1 g2 n2 ga kx y l1) [])
theorem Asc0_ok {z0 z1 z2 : List Int} {g0 n0 g1 n1 g2 n2 ga : Nat} {kx : List Int} {y : List Int} {l1 l2 : Nat} {o r : Nat} (h : allP []) : Ok (Asc0 z0 z1 z2 g0 n0 g1 n1 g2 n2 ga kx y l1 l2 o r) := Ok.dem (fl := []) (by kernel_rfl) (by kernel_rfl) (by kernel_rfl) h
theorem Asc0_ex {z0 z1 z2 : List Int} {g0 n0 g1 n1 g2 n2 ga : Nat} {kx : List Int} {y : List Int} {l1 l2 : Nat} {o r : Nat} : (Asc0 z0 z1 z2 g0 n0 g1 n1 g2 n2 ga kx y l1 l2 o r).ex = .normal := by kernel_rfl
theorem Asc0_fm {z0 z1 z2 : List Int} {g0 n0 g1 n1 g2 n2 ga : Nat} {kx : List Int} {y : List Int} {l1 l2 : Nat} {o r : Nat} : (Asc0 z0 z1 z2 g0 n0 g1 n1 g2 n2 ga kx y l1 l2 o r).fm = [(2, .var 8 0), (5, .slice 1 1 g0 o r (some r))] := by kernel_rfl
theorem Asc0_tab {z0 z1 z2 : List Int} {g0 n0 g1 n1 g2 n2 ga : Nat} {kx : List Int} {y : List Int} {l1 l2 : Nat} {o r : Nat} : (Asc0 z0 z1 z2 g0 n0 g1 n1 g2 n2 ga kx y l1 l2 o r).tab = TNc0 z0 z1 z2 g0 n0 g1 n1 g2 n2 ga kx y l1 := by kernel_rfl
noncomputable def Dfc0 (z0 z1 z2 : List Int) (g0 n0 g1 n1 g2 n2 ga : Nat) (kx : List Int) (y : List Int) (l1 l2 : Nat) (o : Nat) : Out := drawRun eGh (ops79.toList.take 12) 30 [(2, .var 8 0), (5, .slice 1 1 g0 o 16 (some 16))] (TNc0 z0 z1 z2 g0 n0 g1 n1 g2 n2 ga kx y l1) [some true]
theorem Dfc0_ok {z0 z1 z2 : List Int} {g0 n0 g1 n1 g2 n2 ga : Nat} {kx : List Int} {y : List Int} {l1 l2 : Nat} {o : Nat} (h : allP [.eqN g0 g0, .eqN g0 g0, .eqN g0 g0, .eqN g0 g0, .eqN g0 g0, .eqN g0 g0, .leN (addO o 0 + 16) z0.length, .p (Bytes z0)]) : Ok (Dfc0 z0 z1 z2 g0 n0 g1 n1 g2 n2 ga kx y l1 l2 o) := Ok.dem (fl := bitsF 29 135649502) (by kernel_rfl) (by kernel_rfl) (by kernel_rfl) h
theorem Dfc0_fm {z0 z1 z2 : List Int} {g0 n0 g1 n1 g2 n2 ga : Nat} {kx : List Int} {y : List Int} {l1 l2 : Nat} {o : Nat} : (Dfc0 z0 z1 z2 g0 n0 g1 n1 g2 n2 ga kx y l1 l2 o).fm = [(15, .func (Fn.yield l1) [] []), (16, .slice 1 1 g0 o 16 (some 16)), (17, .slice 1 1 g0 o 16 (some 16)), (18, .int .i64 16), (19, .slice 1 1 g0 o 16 (some 16)), (20, .int .i64 16), (21, .slice 1 1 g0 (addO o 0) 16 (some
 16)), (22, .slice 1 1 g0 o 16 (some 16)), (23, .int .i64 16), (24, .int .i64 0), (25, .slice 1 1 g0 (addO o 0) 16 (some 16)), (26, .ints .u64 (gwLaw (subLaw z0 (addO o 0) 16))), (2, .var 8 0), (5, .slice 1 1 g0 o 16 (some 16))] := by kernel_rfl
theorem Dfc0_tab {z0 z1 z2 : List Int} {g0 n0 g1 n1 g2 n2 ga : Nat} {kx : List Int} {y : List Int} {l1 l2 : Nat} {o : Nat} : (Dfc0 z0 z1 z2 g0 n0 g1 n1 g2 n2 ga kx y l1 l2 o).tab = TNc0 z0 z1 z2 g0 n0 g1 n1 g2 n2 ga kx y l1 := by kernel_rfl
noncomputable def Dpc0 (z0 z1 z2 : List Int) (g0 n0 g1 n1 g2 n2 ga : Nat) (kx : List Int) (y : List Int) (l1 l2 : Nat) (o r : Nat) : Out := drawRun eGh (ops79.toList.take 12) 30 [(2, .var 8 0), (5, .slice 1 1 g0 o r (some r))] (TNc0 z0 z1 z2 g0 n0 g1 n1 g2 n2 ga kx y l1) [some false]
theorem Dpc0_ok {z0 z1 z2 : List Int} {g0 n0 g1 n1 g2 n2 ga : Nat} {kx : List Int} {y : List Int} {l1 l2 : Nat} {o r : Nat} (h : allP [.eqN g0 g0, .eqN g0 g0, .leI 0 (↑r : Int), .leI 0 (↑r : Int), .eqN g0 g0, .leN 0 r, .leN r r, .leN r r, .eqN g0 g0, .rng (-9223372036854775808) (16 - (↑r : Int)) 9223372036854775807, .eqN g0 g0, .leN (addO o 0 + r) z0.length, .p (r < addO r (16 - (↑r : Int)).toNat ∨
 r = 0 ∧ r = 0), .leN (addO r (16 - (↑r : Int)).toNat) 140737488355328, .leI 0 (16 - (↑r : Int)), .leI (16 - (↑r : Int)) 9223372036854775807, .leN (16 - (↑r : Int)).toNat 281474976710656, .leN 16 (List.take r (dropO (addO o 0) z0) ++ List.replicate (16 - (↑r : Int)).toNat 0).length, .p (Bytes (List.take r (dropO (addO o 0) z0) ++ List.replicate (16 - (↑r : Int)).toNat 0)), .eqN (addO r (16 - (↑r :
 Int)).toNat) 16]) : Ok (Dpc0 z0 z1 z2 g0 n0 g1 n1 g2 n2 ga kx y l1 l2 o r) := Ok.dem (fl := bitsF 35 335544542) (by kernel_rfl) (by kernel_rfl) (by kernel_rfl) h
theorem Dpc0_fm {z0 z1 z2 : List Int} {g0 n0 g1 n1 g2 n2 ga : Nat} {kx : List Int} {y : List Int} {l1 l2 : Nat} {o r : Nat} : (Dpc0 z0 z1 z2 g0 n0 g1 n1 g2 n2 ga kx y l1 l2 o r).fm = [(15, .func (Fn.yield l1) [] []), (16, .slice 1 1 g0 o r (some r)), (17, .slice 1 1 g0 o r (some r)), (18, .int .i64 (↑r : Int)), (19, .slice 1 1 g0 o r (some r)), (20, .int .i64 (↑r : Int)), (21, .slice 1 1 g0 (addO o
 0) r (some r)), (22, .slice 1 1 g0 o r (some r)), (23, .int .i64 (↑r : Int)), (24, .int .i64 (16 - (↑r : Int))), (25, .slice 1 11 0 0 (addO r (16 - (↑r : Int)).toNat) none), (26, .ints .u64 (gwLaw (subLaw (List.take r (dropO (addO o 0) z0) ++ List.replicate (16 - (↑r : Int)).toNat 0) 0 16))), (2, .var 8 0), (5, .slice 1 1 g0 o r (some r))] := by kernel_rfl
theorem Dpc0_tab {z0 z1 z2 : List Int} {g0 n0 g1 n1 g2 n2 ga : Nat} {kx : List Int} {y : List Int} {l1 l2 : Nat} {o r : Nat} : (Dpc0 z0 z1 z2 g0 n0 g1 n1 g2 n2 ga kx y l1 l2 o r).tab = TQc0 z0 z1 z2 g0 n0 g1 n1 g2 n2 ga kx y l1 ((List.take r (dropO (addO o 0) z0) ++ List.replicate (16 - (↑r : Int)).toNat 0)) := by kernel_rfl
noncomputable def Rbc0 (z0 z1 z2 : List Int) (g0 n0 g1 n1 g2 n2 ga : Nat) (kx : List Int) (y : List Int) (l1 l2 : Nat) (i : Int) : Out := trim 11 11 [0,1,2,4] (run eGh 31 ⟨11, []⟩ 400 r81 [(0, .func (.yield l2) [] []), (1, .var 9 0), (2, .var 10 0), (4, .int .i64 i)] (TNc0 z0 z1 z2 g0 n0 g1 n1 g2 n2 ga kx y l1) [])
theorem Rbc0_ok {z0 z1 z2 : List Int} {g0 n0 g1 n1 g2 n2 ga : Nat} {kx : List Int} {y : List Int} {l1 l2 : Nat} {i : Int} (h : allP [.rng (-9223372036854775808) (i + 16) 9223372036854775807]) : Ok (Rbc0 z0 z1 z2 g0 n0 g1 n1 g2 n2 ga kx y l1 l2 i) := Ok.dem (fl := [true, true, false]) (by kernel_rfl) (by kernel_rfl) (by kernel_rfl) h
theorem Rbc0_ex {z0 z1 z2 : List Int} {g0 n0 g1 n1 g2 n2 ga : Nat} {kx : List Int} {y : List Int} {l1 l2 : Nat} {i : Int} : (Rbc0 z0 z1 z2 g0 n0 g1 n1 g2 n2 ga kx y l1 l2 i).ex = .normal := by kernel_rfl
theorem Rbc0_fm {z0 z1 z2 : List Int} {g0 n0 g1 n1 g2 n2 ga : Nat} {kx : List Int} {y : List Int} {l1 l2 : Nat} {i : Int} : (Rbc0 z0 z1 z2 g0 n0 g1 n1 g2 n2 ga kx y l1 l2 i).fm = [(0, .func (Fn.yield l2) [] []), (1, .var 9 0), (2, .var 10 0), (4, .int .i64 (i + 16))] := by kernel_rfl
theorem Rbc0_tab {z0 z1 z2 : List Int} {g0 n0 g1 n1 g2 n2 ga : Nat} {kx : List Int} {y : List Int} {l1 l2 : Nat} {i : Int} : (Rbc0 z0 z1 z2 g0 n0 g1 n1 g2 n2 ga kx y l1 l2 i).tab = TNc0 z0 z1 z2 g0 n0 g1 n1 g2 n2 ga kx y l1 := by kernel_rfl
noncomputable def Rrc0 (z0 z1 z2 : List Int) (g0 n0 g1 n1 g2 n2 ga : Nat) (kx : List Int) (y : List Int) (l1 : Nat) : Out := trim 9 9 [1,2,6,7,8] (run eGh 30 ⟨9, []⟩ 400 r79 [(1, .var 7 0), (2, .var 8 0), (6, .slice 1 0 ga 0 3 (some 3)), (7, .int .i64 3), (8, .int .i64 0), (13, .func (.func 81) [] [.var 9 0, .var 10 0])] (TNc0 z0 z1 z2 g0 n0 g1 n1 g2 n2 ga kx y l1) [])
theorem Rrc0_ok {z0 z1 z2 : List Int} {g0 n0 g1 n1 g2 n2 ga : Nat} {kx : List Int} {y : List Int} {l1 : Nat} (h : allP []) : Ok (Rrc0 z0 z1 z2 g0 n0 g1 n1 g2 n2 ga kx y l1) := Ok.dem (fl := [true]) (by kernel_rfl) (by kernel_rfl) (by kernel_rfl) h
theorem Rrc0_ex {z0 z1 z2 : List Int} {g0 n0 g1 n1 g2 n2 ga : Nat} {kx : List Int} {y : List Int} {l1 : Nat} : (Rrc0 z0 z1 z2 g0 n0 g1 n1 g2 n2 ga kx y l1).ex = .normal := by kernel_rfl
theorem Rrc0_fm {z0 z1 z2 : List Int} {g0 n0 g1 n1 g2 n2 ga : Nat} {kx : List Int} {y : List Int} {l1 : Nat} : (Rrc0 z0 z1 z2 g0 n0 g1 n1 g2 n2 ga kx y l1).fm = [(1, .var 7 0), (2, .var 8 0), (6, .slice 1 0 ga 0 3 (some 3)), (7, .int .i64 3), (8, .int .i64 1)] := by kernel_rfl
theorem Rrc0_tab {z0 z1 z2 : List Int} {g0 n0 g1 n1 g2 n2 ga : Nat} {kx : List Int} {y : List Int} {l1 : Nat} : (Rrc0 z0 z1 z2 g0 n0 g1 n1 g2 n2 ga kx y l1).tab = TPc z0 z1 z2 g0 n0 g1 n1 g2 n2 ga kx y l1 := by kernel_rfl
noncomputable def A6fc0 (z0 z1 z2 : List Int) (g0 n0 g1 n1 g2 n2 ga : Nat) (kx : List Int) (y : List Int) (l1 : Nat) (b : List Int) : Out := trim 11 12 [2,5,6] (run eGh 16 ⟨11, []⟩ 400 as63 ((9, .ints .u64 b) :: [(2, .var 4 0), (4, .var 5 0), (5, .var 6 0), (8, .func (.func 79) [] [.var 7 0])]) (TNc0 z0 z1 z2 g0 n0 g1 n1 g2 n2 ga kx y l1) [])
theorem A6fc0_ok {z0 z1 z2 : List Int} {g0 n0 g1 n1 g2 n2 ga : Nat} {kx : List Int} {y : List Int} {l1 : Nat} {b : List Int} (h : allP [.eqN b.length 2]) : Ok (A6fc0 z0 z1 z2 g0 n0 g1 n1 g2 n2 ga kx y l1 b) := Ok.dem (fl := [true, false, true, true]) (by kernel_rfl) (by kernel_rfl) (by kernel_rfl) h
theorem A6fc0_ex {z0 z1 z2 : List Int} {g0 n0 g1 n1 g2 n2 ga : Nat} {kx : List Int} {y : List Int} {l1 : Nat} {b : List Int} : (A6fc0 z0 z1 z2 g0 n0 g1 n1 g2 n2 ga kx y l1 b).ex = .normal := by kernel_rfl
theorem A6fc0_fm {z0 z1 z2 : List Int} {g0 n0 g1 n1 g2 n2 ga : Nat} {kx : List Int} {y : List Int} {l1 : Nat} {b : List Int} : (A6fc0 z0 z1 z2 g0 n0 g1 n1 g2 n2 ga kx y l1 b).fm = [(2, .var 4 0), (5, .var 6 0), (6, .var 11 0)] := by kernel_rfl
theorem A6fc0_tab {z0 z1 z2 : List Int} {g0 n0 g1 n1 g2 n2 ga : Nat} {kx : List Int} {y : List Int} {l1 : Nat} {b : List Int} : (A6fc0 z0 z1 z2 g0 n0 g1 n1 g2 n2 ga kx y l1 b).tab = TUc0 z0 z1 z2 g0 n0 g1 n1 g2 n2 ga kx y l1 b := by kernel_rfl
noncomputable def B6fc0 (z0 z1 z2 : List Int) (g0 n0 g1 n1 g2 n2 ga : Nat) (kx : List Int) (y : List Int) (l1 : Nat) (b : List Int) : Out := trim 11 11 [] (run eGh 16 ⟨11, []⟩ 400 bd63 [(2, .var 4 0), (5, .var 6 0), (6, .var 11 0)] (TUc0 z0 z1 z2 g0 n0 g1 n1 g2 n2 ga kx y l1 b) [])
theorem B6fc0_ok {z0 z1 z2 : List Int} {g0 n0 g1 n1 g2 n2 ga : Nat} {kx : List Int} {y : List Int} {l1 : Nat} {b : List Int} (h : allP [.eqN y.length 2, .eqN b.length 2, .p (WpLaw y), .p (WpLaw b), .eqN kx.length 2, .eqN kx.length 2, .p (WpLaw (xwLaw y b)), .p (WpLaw kx), .eqN y.length 2]) : Ok (B6fc0 z0 z1 z2 g0 n0 g1 n1 g2 n2 ga kx y l1 b) := Ok.dem (fl := bitsF 25 11539466) (by kernel_rfl) (by
 kernel_rfl) (by kernel_rfl) h
theorem B6fc0_ex {z0 z1 z2 : List Int} {g0 n0 g1 n1 g2 n2 ga : Nat} {kx : List Int} {y : List Int} {l1 : Nat} {b : List Int} : (B6fc0 z0 z1 z2 g0 n0 g1 n1 g2 n2 ga kx y l1 b).ex = .normal := by kernel_rfl
theorem B6fc0_fm {z0 z1 z2 : List Int} {g0 n0 g1 n1 g2 n2 ga : Nat} {kx : List Int} {y : List Int} {l1 : Nat} {b : List Int} : (B6fc0 z0 z1 z2 g0 n0 g1 n1 g2 n2 ga kx y l1 b).fm = [] := by kernel_rfl
theorem B6fc0_tab {z0 z1 z2 : List Int} {g0 n0 g1 n1 g2 n2 ga : Nat} {kx : List Int} {y : List Int} {l1 : Nat} {b : List Int} : (B6fc0 z0 z1 z2 g0 n0 g1 n1 g2 n2 ga kx y l1 b).tab = TNc0 z0 z1 z2 g0 n0 g1 n1 g2 n2 ga kx ((mwLaw (xwLaw y b) kx)) l1 := by kernel_rfl
noncomputable def A6pc0 (z0 z1 z2 : List Int) (g0 n0 g1 n1 g2 n2 ga : Nat) (kx : List Int) (y : List Int) (l1 : Nat) (x : List Int) (b : List Int) : Out := trim 12 13 [2,5,6] (run eGh 16 ⟨12, []⟩ 400 as63 ((9, .ints .u64 b) :: [(2, .var 4 0), (4, .var 5 0), (5, .var 6 0), (8, .func (.func 79) [] [.var 7 0])]) (TQc0 z0 z1 z2 g0 n0 g1 n1 g2 n2 ga kx y l1 x) [])
theorem A6pc0_ok {z0 z1 z2 : List Int} {g0 n0 g1 n1 g2 n2 ga : Nat} {kx : List Int} {y : List Int} {l1 : Nat} {x : List Int} {b : List Int} (h : allP [.eqN b.length 2]) : Ok (A6pc0 z0 z1 z2 g0 n0 g1 n1 g2 n2 ga kx y l1 x b) := Ok.dem (fl := [true, false, true, true]) (by kernel_rfl) (by kernel_rfl) (by kernel_rfl) h
theorem A6pc0_ex {z0 z1 z2 : List Int} {g0 n0 g1 n1 g2 n2 ga : Nat} {kx : List Int} {y : List Int} {l1 : Nat} {x : List Int} {b : List Int} : (A6pc0 z0 z1 z2 g0 n0 g1 n1 g2 n2 ga kx y l1 x b).ex = .normal := by kernel_rfl
theorem A6pc0_fm {z0 z1 z2 : List Int} {g0 n0 g1 n1 g2 n2 ga : Nat} {kx : List Int} {y : List Int} {l1 : Nat} {x : List Int} {b : List Int} : (A6pc0 z0 z1 z2 g0 n0 g1 n1 g2 n2 ga kx y l1 x b).fm = [(2, .var 4 0), (5, .var 6 0), (6, .var 12 0)] := by kernel_rfl
theorem A6pc0_tab {z0 z1 z2 : List Int} {g0 n0 g1 n1 g2 n2 ga : Nat} {kx : List Int} {y : List Int} {l1 : Nat} {x : List Int} {b : List Int} : (A6pc0 z0 z1 z2 g0 n0 g1 n1 g2 n2 ga kx y l1 x b).tab = TVc0 z0 z1 z2 g0 n0 g1 n1 g2 n2 ga kx y l1 x b := by kernel_rfl
noncomputable def B6pc0 (z0 z1 z2 : List Int) (g0 n0 g1 n1 g2 n2 ga : Nat) (kx : List Int) (y : List Int) (l1 : Nat) (x : List Int) (b : List Int) : Out := trim 12 12 [] (run eGh 16 ⟨12, []⟩ 400 bd63 [(2, .var 4 0), (5, .var 6 0), (6, .var 12 0)] (TVc0 z0 z1 z2 g0 n0 g1 n1 g2 n2 ga kx y l1 x b) [])
theorem B6pc0_ok {z0 z1 z2 : List Int} {g0 n0 g1 n1 g2 n2 ga : Nat} {kx : List Int} {y : List Int} {l1 : Nat} {x : List Int} {b : List Int} (h : allP [.eqN y.length 2, .eqN b.length 2, .p (WpLaw y), .p (WpLaw b), .eqN kx.length 2, .eqN kx.length 2, .p (WpLaw (xwLaw y b)), .p (WpLaw kx), .eqN y.length 2]) : Ok (B6pc0 z0 z1 z2 g0 n0 g1 n1 g2 n2 ga kx y l1 x b) := Ok.dem (fl := bitsF 25 11539466) (by
 kernel_rfl) (by kernel_rfl) (by kernel_rfl) h
theorem B6pc0_ex {z0 z1 z2 : List Int} {g0 n0 g1 n1 g2 n2 ga : Nat} {kx : List Int} {y : List Int} {l1 : Nat} {x : List Int} {b : List Int} : (B6pc0 z0 z1 z2 g0 n0 g1 n1 g2 n2 ga kx y l1 x b).ex = .normal := by kernel_rfl
theorem B6pc0_fm {z0 z1 z2 : List Int} {g0 n0 g1 n1 g2 n2 ga : Nat} {kx : List Int} {y : List Int} {l1 : Nat} {x : List Int} {b : List Int} : (B6pc0 z0 z1 z2 g0 n0 g1 n1 g2 n2 ga kx y l1 x b).fm = [] := by kernel_rfl
theorem B6pc0_tab {z0 z1 z2 : List Int} {g0 n0 g1 n1 g2 n2 ga : Nat} {kx : List Int} {y : List Int} {l1 : Nat} {x : List Int} {b : List Int} : (B6pc0 z0 z1 z2 g0 n0 g1 n1 g2 n2 ga kx y l1 x b).tab = TQc0 z0 z1 z2 g0 n0 g1 n1 g2 n2 ga kx ((mwLaw (xwLaw y b) kx)) l1 x := by kernel_rfl
/-! text 1 of 3 -/
noncomputable def Hyc1 (z0 z1 z2 : List Int) (g0 n0 g1 n1 g2 n2 ga : Nat) (kx : List Int) (y : List Int) (l1 l2 : Nat) (i : Int) : Out := trim 11 11 [0,1,2,4] (run eGh 31 ⟨11, []⟩ 400 hd81 [(0, .func (.yield l2) [] []), (1, .var 9 0), (2, .var 10 0), (4, .int .i64 i)] (TNc1 z0 z1 z2 g0 n0 g1 n1 g2 n2 ga kx y l1) [some true])
theorem Hyc1_ok {z0 z1 z2 : List Int} {g0 n0 g1 n1 g2 n2 ga : Nat} {kx : List Int} {y : List Int} {l1 l2 : Nat} {i : Int} (h : allP [.eqN g1 g1, .p (decide (i < (↑n1 : Int)) = true)]) : Ok (Hyc1 z0 z1 z2 g0 n0 g1 n1 g2 n2 ga kx y l1 l2 i) := Ok.dem (fl := [true, true, false, false]) (by kernel_rfl) (by kernel_rfl) (by kernel_rfl) h
theorem Hyc1_ex {z0 z1 z2 : List Int} {g0 n0 g1 n1 g2 n2 ga : Nat} {kx : List Int} {y : List Int} {l1 l2 : Nat} {i : Int} : (Hyc1 z0 z1 z2 g0 n0 g1 n1 g2 n2 ga kx y l1 l2 i).ex = .normal := by kernel_rfl
theorem Hyc1_fm {z0 z1 z2 : List Int} {g0 n0 g1 n1 g2 n2 ga : Nat} {kx : List Int} {y : List Int} {l1 l2 : Nat} {i : Int} : (Hyc1 z0 z1 z2 g0 n0 g1 n1 g2 n2 ga kx y l1 l2 i).fm = [(0, .func (Fn.yield l2) [] []), (1, .var 9 0), (2, .var 10 0), (4, .int .i64 i)] := by kernel_rfl
theorem Hyc1_tab {z0 z1 z2 : List Int} {g0 n0 g1 n1 g2 n2 ga : Nat} {kx : List Int} {y : List Int} {l1 l2 : Nat} {i : Int} : (Hyc1 z0 z1 z2 g0 n0 g1 n1 g2 n2 ga kx y l1 l2 i).tab = TNc1 z0 z1 z2 g0 n0 g1 n1 g2 n2 ga kx y l1 := by kernel_rfl
noncomputable def Hnc1 (z0 z1 z2 : List Int) (g0 n0 g1 n1 g2 n2 ga : Nat) (kx : List Int) (y : List Int) (l1 l2 : Nat) (i : Int) : Out := trim 11 11 [] (run eGh 31 ⟨11, []⟩ 400 hd81 [(0, .func (.yield l2) [] []), (1, .var 9 0), (2, .var 10 0), (4, .int .i64 i)] (TNc1 z0 z1 z2 g0 n0 g1 n1 g2 n2 ga kx y l1) [some false])
theorem Hnc1_ok {z0 z1 z2 : List Int} {g0 n0 g1 n1 g2 n2 ga : Nat} {kx : List Int} {y : List Int} {l1 l2 : Nat} {i : Int} (h : allP [.eqN g1 g1, .p (decide (i < (↑n1 : Int)) = false)]) : Ok (Hnc1 z0 z1 z2 g0 n0 g1 n1 g2 n2 ga kx y l1 l2 i) := Ok.dem (fl := [true, true, false, false]) (by kernel_rfl) (by kernel_rfl) (by kernel_rfl) h
theorem Hnc1_ex {z0 z1 z2 : List Int} {g0 n0 g1 n1 g2 n2 ga : Nat} {kx : List Int} {y : List Int} {l1 l2 : Nat} {i : Int} : (Hnc1 z0 z1 z2 g0 n0 g1 n1 g2 n2 ga kx y l1 l2 i).ex = .exit 0 := by kernel_rfl
theorem Hnc1_fm {z0 z1 z2 : List Int} {g0 n0 g1 n1 g2 n2 ga : Nat} {kx : List Int} {y : List Int} {l1 l2 : Nat} {i : Int} : (Hnc1 z0 z1 z2 g0 n0 g1 n1 g2 n2 ga kx y l1 l2 i).fm = [] := by kernel_rfl
theorem Hnc1_tab {z0 z1 z2 : List Int} {g0 n0 g1 n1 g2 n2 ga : Nat} {kx : List Int} {y : List Int} {l1 l2 : Nat} {i : Int} : (Hnc1 z0 z1 z2 g0 n0 g1 n1 g2 n2 ga kx y l1 l2 i).tab = TNc1 z0 z1 z2 g0 n0 g1 n1 g2 n2 ga kx y l1 := by kernel_rfl
noncomputable def Msc1 (z0 z1 z2 : List Int) (g0 n0 g1 n1 g2 n2 ga : Nat) (kx : List Int) (y : List Int) (l1 l2 : Nat) (i : Int) : Out := trim 11 11 [0,1,2,4,5] (run eGh 31 ⟨11, []⟩ 400 m81 [(0, .func (.yield l2) [] []), (1, .var 9 0), (2, .var 10 0), (4, .int .i64 i)] (TNc1 z0 z1 z2 g0 n0 g1 n1 g2 n2 ga kx y l1) [])
theorem Msc1_ok {z0 z1 z2 : List Int} {g0 n0 g1 n1 g2 n2 ga : Nat} {kx : List Int} {y : List Int} {l1 l2 : Nat} {i : Int} (h : allP [.leI 0 i, .eqN g1 g1, .leN i.toNat n1, .eqN g1 g1]) : Ok (Msc1 z0 z1 z2 g0 n0 g1 n1 g2 n2 ga kx y l1 l2 i) := Ok.dem (fl := [false, true, true, true, true, false, false, false, false]) (by kernel_rfl) (by kernel_rfl) (by kernel_rfl) h
theorem Msc1_ex {z0 z1 z2 : List Int} {g0 n0 g1 n1 g2 n2 ga : Nat} {kx : List Int} {y : List Int} {l1 l2 : Nat} {i : Int} : (Msc1 z0 z1 z2 g0 n0 g1 n1 g2 n2 ga kx y l1 l2 i).ex = .normal := by kernel_rfl
theorem Msc1_fm {z0 z1 z2 : List Int} {g0 n0 g1 n1 g2 n2 ga : Nat} {kx : List Int} {y : List Int} {l1 l2 : Nat} {i : Int} : (Msc1 z0 z1 z2 g0 n0 g1 n1 g2 n2 ga kx y l1 l2 i).fm = [(0, .func (Fn.yield l2) [] []), (1, .var 9 0), (2, .var 10 0), (4, .int .i64 i), (5, .int .i64 (if (↑(subO n1 i.toNat) : Int) < 16 then (↑(subO n1 i.toNat) : Int) else 16))] := by kernel_rfl
theorem Msc1_tab {z0 z1 z2 : List Int} {g0 n0 g1 n1 g2 n2 ga : Nat} {kx : List Int} {y : List Int} {l1 l2 : Nat} {i : Int} : (Msc1 z0 z1 z2 g0 n0 g1 n1 g2 n2 ga kx y l1 l2 i).tab = TNc1 z0 z1 z2 g0 n0 g1 n1 g2 n2 ga kx y l1 := by kernel_rfl
noncomputable def Yac1 (z0 z1 z2 : List Int) (g0 n0 g1 n1 g2 n2 ga : Nat) (kx : List Int) (y : List Int) (l1 l2 : Nat) (i r : Int) : Out := runOps eGh ops81.toList 31 (ops81.toList.take 10) ([(0, .func (.yield l2) [] []), (1, .var 9 0), (2, .var 10 0), (4, .int .i64 i)] ++ [(5, .int .i64 r)]) (((TNc1 z0 z1 z2 g0 n0 g1 n1 g2 n2 ga kx y l1) : Tab) ++ holes (cntA eGh (ops81.toList.take 10))) ((TNc1 z0 z1 z2 g0 n0 g1 n1 g2 n2 ga kx y l1) : Tab).length []
theorem Yac1_ok {z0 z1 z2 : List Int} {g0 n0 g1 n1 g2 n2 ga : Nat} {kx : List Int} {y : List Int} {l1 l2 : Nat} {i r : Int} (h : allP [.rng (-9223372036854775808) (i + r) 9223372036854775807, .rng (-9223372036854775808) (i + r) 9223372036854775807, .leI 0 i, .leI 0 (i + r), .leI 0 (i + r), .eqN g1 g1, .leN i.toNat (i + r).toNat, .leN (i + r).toNat (i + r).toNat, .orN (i + r).toNat n1 (0 + (i +
 r).toNat) z1.length]) : Ok (Yac1 z0 z1 z2 g0 n0 g1 n1 g2 n2 ga kx y l1 l2 i r) := Ok.dem (fl := [true, true, false, false, false, false, false, false, false, false, false]) (by kernel_rfl) (by kernel_rfl) (by kernel_rfl) h
theorem Yac1_fm {z0 z1 z2 : List Int} {g0 n0 g1 n1 g2 n2 ga : Nat} {kx : List Int} {y : List Int} {l1 l2 : Nat} {i r : Int} : (Yac1 z0 z1 z2 g0 n0 g1 n1 g2 n2 ga kx y l1 l2 i r).fm = [(28, .slice 1 2 g1 i.toNat (subO (i + r).toNat i.toNat) (some (subO (i + r).toNat i.toNat))), (27, .int .i64 (i + r)), (26, .int .i64 r), (25, .int .i64 i), (24, .int .i64 (i + r)), (23, .int .i64 r), (22, .int .i64
 i), (21, .int .i64 i), (20, .slice 1 2 g1 0 n1 none), (19, .func (Fn.yield l2) [] []), (0, .func (Fn.yield l2) [] []), (1, .var 9 0), (2, .var 10 0), (4, .int .i64 i), (5, .int .i64 r)] := by kernel_rfl
theorem Yac1_tab {z0 z1 z2 : List Int} {g0 n0 g1 n1 g2 n2 ga : Nat} {kx : List Int} {y : List Int} {l1 l2 : Nat} {i r : Int} : (Yac1 z0 z1 z2 g0 n0 g1 n1 g2 n2 ga kx y l1 l2 i r).tab = TNc1 z0 z1 z2 g0 n0 g1 n1 g2 n2 ga kx y l1 := by kernel_rfl
noncomputable def Asc1 (z0 z1 z2 : List Int) (g0 n0 g1 n1 g2 n2 ga : Nat) (kx : List Int) (y : List Int) (l1 l2 : Nat) (o r : Nat) : Out := trim 11 11 [2,5] (run eGh 30 ⟨11, []⟩ 400 as79 ((14, .slice 1 2 g1 o r (some r)) :: [(1, .var 7 0), (2, .var 8 0), (6, .slice 1 0 ga 0 3 (some 3)), (7, .int .i64 3), (8, .int .i64 1), (13, .func (.func 81) [] [.var 9 0, .var 10 0])]) (TNc1 z0 z1 z2 g0 n0 g1 n1 g2 n2 ga kx y l1) [])
theorem Asc1_ok {z0 z1 z2 : List Int} {g0 n0 g1 n1 g2 n2 ga : Nat} {kx : List Int} {y : List Int} {l1 l2 : Nat} {o r : Nat} (h : allP []) : Ok (Asc1 z0 z1 z2 g0 n0 g1 n1 g2 n2 ga kx y l1 l2 o r) := Ok.dem (fl := []) (by kernel_rfl) (by kernel_rfl) (by kernel_rfl) h
theorem Asc1_ex {z0 z1 z2 : List Int} {g0 n0 g1 n1 g2 n2 ga : Nat} {kx : List Int} {y : List Int} {l1 l2 : Nat} {o r : Nat} : (Asc1 z0 z1 z2 g0 n0 g1 n1 g2 n2 ga kx y l1 l2 o r).ex = .normal := by kernel_rfl
theorem Asc1_fm {z0 z1 z2 : List Int} {g0 n0 g1 n1 g2 n2 ga : Nat} {kx : List Int} {y : List Int} {l1 l2 : Nat} {o r : Nat} : (Asc1 z0 z1 z2 g0 n0 g1 n1 g2 n2 ga kx y l1 l2 o r).fm = [(2, .var 8 0), (5, .slice 1 2 g1 o r (some r))] := by kernel_rfl
theorem Asc1_tab {z0 z1 z2 : List Int} {g0 n0 g1 n1 g2 n2 ga : Nat} {kx : List Int} {y : List Int} {l1 l2 : Nat} {o r : Nat} : (Asc1 z0 z1 z2 g0 n0 g1 n1 g2 n2 ga kx y l1 l2 o r).tab = TNc1 z0 z1 z2 g0 n0 g1 n1 g2 n2 ga kx y l1 := by kernel_rfl
noncomputable def Dfc1 (z0 z1 z2 : List Int) (g0 n0 g1 n1 g2 n2 ga : Nat) (kx : List Int) (y : List Int) (l1 l2 : Nat) (o : Nat) : Out := drawRun eGh (ops79.toList.take 12) 30 [(2, .var 8 0), (5, .slice 1 2 g1 o 16 (some 16))] (TNc1 z0 z1 z2 g0 n0 g1 n1 g2 n2 ga kx y l1) [some true]
theorem Dfc1_ok {z0 z1 z2 : List Int} {g0 n0 g1 n1 g2 n2 ga : Nat} {kx : List Int} {y : List Int} {l1 l2 : Nat} {o : Nat} (h : allP [.eqN g1 g1, .eqN g1 g1, .eqN g1 g1, .eqN g1 g1, .eqN g1 g1, .eqN g1 g1, .leN (addO o 0 + 16) z1.length, .p (Bytes z1)]) : Ok (Dfc1 z0 z1 z2 g0 n0 g1 n1 g2 n2 ga kx y l1 l2 o) := Ok.dem (fl := bitsF 29 135649502) (by kernel_rfl) (by kernel_rfl) (by kernel_rfl) h
theorem Dfc1_fm {z0 z1 z2 : List Int} {g0 n0 g1 n1 g2 n2 ga : Nat} {kx : List Int} {y : List Int} {l1 l2 : Nat} {o : Nat} : (Dfc1 z0 z1 z2 g0 n0 g1 n1 g2 n2 ga kx y l1 l2 o).fm = [(15, .func (Fn.yield l1) [] []), (16, .slice 1 2 g1 o 16 (some 16)), (17, .slice 1 2 g1 o 16 (some 16)), (18, .int .i64 16), (19, .slice 1 2 g1 o 16 (some 16)), (20, .int .i64 16), (21, .slice 1 2 g1 (addO o 0) 16 (some
 16)), (22, .slice 1 2 g1 o 16 (some 16)), (23, .int .i64 16), (24, .int .i64 0), (25, .slice 1 2 g1 (addO o 0) 16 (some 16)), (26, .ints .u64 (gwLaw (subLaw z1 (addO o 0) 16))), (2, .var 8 0), (5, .slice 1 2 g1 o 16 (some 16))] := by kernel_rfl
theorem Dfc1_tab {z0 z1 z2 : List Int} {g0 n0 g1 n1 g2 n2 ga : Nat} {kx : List Int} {y : List Int} {l1 l2 : Nat} {o : Nat} : (Dfc1 z0 z1 z2 g0 n0 g1 n1 g2 n2 ga kx y l1 l2 o).tab = TNc1 z0 z1 z2 g0 n0 g1 n1 g2 n2 ga kx y l1 := by kernel_rfl
noncomputable def Dpc1 (z0 z1 z2 : List Int) (g0 n0 g1 n1 g2 n2 ga : Nat) (kx : List Int) (y : List Int) (l1 l2 : Nat) (o r : Nat) : Out := drawRun eGh (ops79.toList.take 12) 30 [(2, .var 8 0), (5, .slice 1 2 g1 o r (some r))] (TNc1 z0 z1 z2 g0 n0 g1 n1 g2 n2 ga kx y l1) [some false]
theorem Dpc1_ok {z0 z1 z2 : List Int} {g0 n0 g1 n1 g2 n2 ga : Nat} {kx : List Int} {y : List Int} {l1 l2 : Nat} {o r : Nat} (h : allP [.eqN g1 g1, .eqN g1 g1, .leI 0 (↑r : Int), .leI 0 (↑r : Int), .eqN g1 g1, .leN 0 r, .leN r r, .leN r r, .eqN g1 g1, .rng (-9223372036854775808) (16 - (↑r : Int)) 9223372036854775807, .eqN g1 g1, .leN (addO o 0 + r) z1.length, .p (r < addO r (16 - (↑r : Int)).toNat ∨
 r = 0 ∧ r = 0), .leN (addO r (16 - (↑r : Int)).toNat) 140737488355328, .leI 0 (16 - (↑r : Int)), .leI (16 - (↑r : Int)) 9223372036854775807, .leN (16 - (↑r : Int)).toNat 281474976710656, .leN 16 (List.take r (dropO (addO o 0) z1) ++ List.replicate (16 - (↑r : Int)).toNat 0).length, .p (Bytes (List.take r (dropO (addO o 0) z1) ++ List.replicate (16 - (↑r : Int)).toNat 0)), .eqN (addO r (16 - (↑r :
 Int)).toNat) 16]) : Ok (Dpc1 z0 z1 z2 g0 n0 g1 n1 g2 n2 ga kx y l1 l2 o r) := Ok.dem (fl := bitsF 35 335544542) (by kernel_rfl) (by kernel_rfl) (by kernel_rfl) h
theorem Dpc1_fm {z0 z1 z2 : List Int} {g0 n0 g1 n1 g2 n2 ga : Nat} {kx : List Int} {y : List Int} {l1 l2 : Nat} {o r : Nat} : (Dpc1 z0 z1 z2 g0 n0 g1 n1 g2 n2 ga kx y l1 l2 o r).fm = [(15, .func (Fn.yield l1) [] []), (16, .slice 1 2 g1 o r (some r)), (17, .slice 1 2 g1 o r (some r)), (18, .int .i64 (↑r : Int)), (19, .slice 1 2 g1 o r (some r)), (20, .int .i64 (↑r : Int)), (21, .slice 1 2 g1 (addO o
 0) r (some r)), (22, .slice 1 2 g1 o r (some r)), (23, .int .i64 (↑r : Int)), (24, .int .i64 (16 - (↑r : Int))), (25, .slice 1 11 0 0 (addO r (16 - (↑r : Int)).toNat) none), (26, .ints .u64 (gwLaw (subLaw (List.take r (dropO (addO o 0) z1) ++ List.replicate (16 - (↑r : Int)).toNat 0) 0 16))), (2, .var 8 0), (5, .slice 1 2 g1 o r (some r))] := by kernel_rfl
theorem Dpc1_tab {z0 z1 z2 : List Int} {g0 n0 g1 n1 g2 n2 ga : Nat} {kx : List Int} {y : List Int} {l1 l2 : Nat} {o r : Nat} : (Dpc1 z0 z1 z2 g0 n0 g1 n1 g2 n2 ga kx y l1 l2 o r).tab = TQc1 z0 z1 z2 g0 n0 g1 n1 g2 n2 ga kx y l1 ((List.take r (dropO (addO o 0) z1) ++ List.replicate (16 - (↑r : Int)).toNat 0)) := by kernel_rfl
noncomputable def Rbc1 (z0 z1 z2 : List Int) (g0 n0 g1 n1 g2 n2 ga : Nat) (kx : List Int) (y : List Int) (l1 l2 : Nat) (i : Int) : Out := trim 11 11 [0,1,2,4] (run eGh 31 ⟨11, []⟩ 400 r81 [(0, .func (.yield l2) [] []), (1, .var 9 0), (2, .var 10 0), (4, .int .i64 i)] (TNc1 z0 z1 z2 g0 n0 g1 n1 g2 n2 ga kx y l1) [])
theorem Rbc1_ok {z0 z1 z2 : List Int} {g0 n0 g1 n1 g2 n2 ga : Nat} {kx : List Int} {y : List Int} {l1 l2 : Nat} {i : Int} (h : allP [.rng (-9223372036854775808) (i + 16) 9223372036854775807]) : Ok (Rbc1 z0 z1 z2 g0 n0 g1 n1 g2 n2 ga kx y l1 l2 i) := Ok.dem (fl := [true, true, false]) (by kernel_rfl) (by kernel_rfl) (by kernel_rfl) h
theorem Rbc1_ex {z0 z1 z2 : List Int} {g0 n0 g1 n1 g2 n2 ga : Nat} {kx : List Int} {y : List Int} {l1 l2 : Nat} {i : Int} : (Rbc1 z0 z1 z2 g0 n0 g1 n1 g2 n2 ga kx y l1 l2 i).ex = .normal := by kernel_rfl
theorem Rbc1_fm {z0 z1 z2 : List Int} {g0 n0 g1 n1 g2 n2 ga : Nat} {kx : List Int} {y : List Int} {l1 l2 : Nat} {i : Int} : (Rbc1 z0 z1 z2 g0 n0 g1 n1 g2 n2 ga kx y l1 l2 i).fm = [(0, .func (Fn.yield l2) [] []), (1, .var 9 0), (2, .var 10 0), (4, .int .i64 (i + 16))] := by kernel_rfl
theorem Rbc1_tab {z0 z1 z2 : List Int} {g0 n0 g1 n1 g2 n2 ga : Nat} {kx : List Int} {y : List Int} {l1 l2 : Nat} {i : Int} : (Rbc1 z0 z1 z2 g0 n0 g1 n1 g2 n2 ga kx y l1 l2 i).tab = TNc1 z0 z1 z2 g0 n0 g1 n1 g2 n2 ga kx y l1 := by kernel_rfl
noncomputable def Rrc1 (z0 z1 z2 : List Int) (g0 n0 g1 n1 g2 n2 ga : Nat) (kx : List Int) (y : List Int) (l1 : Nat) : Out := trim 9 9 [1,2,6,7,8] (run eGh 30 ⟨9, []⟩ 400 r79 [(1, .var 7 0), (2, .var 8 0), (6, .slice 1 0 ga 0 3 (some 3)), (7, .int .i64 3), (8, .int .i64 1), (13, .func (.func 81) [] [.var 9 0, .var 10 0])] (TNc1 z0 z1 z2 g0 n0 g1 n1 g2 n2 ga kx y l1) [])
theorem Rrc1_ok {z0 z1 z2 : List Int} {g0 n0 g1 n1 g2 n2 ga : Nat} {kx : List Int} {y : List Int} {l1 : Nat} (h : allP []) : Ok (Rrc1 z0 z1 z2 g0 n0 g1 n1 g2 n2 ga kx y l1) := Ok.dem (fl := [true]) (by kernel_rfl) (by kernel_rfl) (by kernel_rfl) h
theorem Rrc1_ex {z0 z1 z2 : List Int} {g0 n0 g1 n1 g2 n2 ga : Nat} {kx : List Int} {y : List Int} {l1 : Nat} : (Rrc1 z0 z1 z2 g0 n0 g1 n1 g2 n2 ga kx y l1).ex = .normal := by kernel_rfl
theorem Rrc1_fm {z0 z1 z2 : List Int} {g0 n0 g1 n1 g2 n2 ga : Nat} {kx : List Int} {y : List Int} {l1 : Nat} : (Rrc1 z0 z1 z2 g0 n0 g1 n1 g2 n2 ga kx y l1).fm = [(1, .var 7 0), (2, .var 8 0), (6, .slice 1 0 ga 0 3 (some 3)), (7, .int .i64 3), (8, .int .i64 2)] := by kernel_rfl
theorem Rrc1_tab {z0 z1 z2 : List Int} {g0 n0 g1 n1 g2 n2 ga : Nat} {kx : List Int} {y : List Int} {l1 : Nat} : (Rrc1 z0 z1 z2 g0 n0 g1 n1 g2 n2 ga kx y l1).tab = TPc z0 z1 z2 g0 n0 g1 n1 g2 n2 ga kx y l1 := by kernel_rfl
noncomputable def A6fc1 (z0 z1 z2 : List Int) (g0 n0 g1 n1 g2 n2 ga : Nat) (kx : List Int) (y : List Int) (l1 : Nat) (b : List Int) : Out := trim 11 12 [2,5,6] (run eGh 16 ⟨11, []⟩ 400 as63 ((9, .ints .u64 b) :: [(2, .var 4 0), (4, .var 5 0), (5, .var 6 0), (8, .func (.func 79) [] [.var 7 0])]) (TNc1 z0 z1 z2 g0 n0 g1 n1 g2 n2 ga kx y l1) [])
theorem A6fc1_ok {z0 z1 z2 : List Int} {g0 n0 g1 n1 g2 n2 ga : Nat} {kx : List Int} {y : List Int} {l1 : Nat} {b : List Int} (h : allP [.eqN b.length 2]) : Ok (A6fc1 z0 z1 z2 g0 n0 g1 n1 g2 n2 ga kx y l1 b) := Ok.dem (fl := [true, false, true, true]) (by kernel_rfl) (by kernel_rfl) (by kernel_rfl) h
theorem A6fc1_ex {z0 z1 z2 : List Int} {g0 n0 g1 n1 g2 n2 ga : Nat} {kx : List Int} {y : List Int} {l1 : Nat} {b : List Int} : (A6fc1 z0 z1 z2 g0 n0 g1 n1 g2 n2 ga kx y l1 b).ex = .normal := by kernel_rfl
theorem A6fc1_fm {z0 z1 z2 : List Int} {g0 n0 g1 n1 g2 n2 ga : Nat} {kx : List Int} {y : List Int} {l1 : Nat} {b : List Int} : (A6fc1 z0 z1 z2 g0 n0 g1 n1 g2 n2 ga kx y l1 b).fm = [(2, .var 4 0), (5, .var 6 0), (6, .var 11 0)] := by kernel_rfl
theorem A6fc1_tab {z0 z1 z2 : List Int} {g0 n0 g1 n1 g2 n2 ga : Nat} {kx : List Int} {y : List Int} {l1 : Nat} {b : List Int} : (A6fc1 z0 z1 z2 g0 n0 g1 n1 g2 n2 ga kx y l1 b).tab = TUc1 z0 z1 z2 g0 n0 g1 n1 g2 n2 ga kx y l1 b := by kernel_rfl
noncomputable def B6fc1 (z0 z1 z2 : List Int) (g0 n0 g1 n1 g2 n2 ga : Nat) (kx : List Int) (y : List Int) (l1 : Nat) (b : List Int) : Out := trim 11 11 [] (run eGh 16 ⟨11, []⟩ 400 bd63 [(2, .var 4 0), (5, .var 6 0), (6, .var 11 0)] (TUc1 z0 z1 z2 g0 n0 g1 n1 g2 n2 ga kx y l1 b) [])
theorem B6fc1_ok {z0 z1 z2 : List Int} {g0 n0 g1 n1 g2 n2 ga : Nat} {kx : List Int} {y : List Int} {l1 : Nat} {b : List Int} (h : allP [.eqN y.length 2, .eqN b.length 2, .p (WpLaw y), .p (WpLaw b), .eqN kx.length 2, .eqN kx.length 2, .p (WpLaw (xwLaw y b)), .p (WpLaw kx), .eqN y.length 2]) : Ok (B6fc1 z0 z1 z2 g0 n0 g1 n1 g2 n2 ga kx y l1 b) := Ok.dem (fl := bitsF 25 11539466) (by kernel_rfl) (by
 kernel_rfl) (by kernel_rfl) h
theorem B6fc1_ex {z0 z1 z2 : List Int} {g0 n0 g1 n1 g2 n2 ga : Nat} {kx : List Int} {y : List Int} {l1 : Nat} {b : List Int} : (B6fc1 z0 z1 z2 g0 n0 g1 n1 g2 n2 ga kx y l1 b).ex = .normal := by kernel_rfl
theorem B6fc1_fm {z0 z1 z2 : List Int} {g0 n0 g1 n1 g2 n2 ga : Nat} {kx : List Int} {y : List Int} {l1 : Nat} {b : List Int} : (B6fc1 z0 z1 z2 g0 n0 g1 n1 g2 n2 ga kx y l1 b).fm = [] := by kernel_rfl
theorem B6fc1_tab {z0 z1 z2 : List Int} {g0 n0 g1 n1 g2 n2 ga : Nat} {kx : List Int} {y : List Int} {l1 : Nat} {b : List Int} : (B6fc1 z0 z1 z2 g0 n0 g1 n1 g2 n2 ga kx y l1 b).tab = TNc1 z0 z1 z2 g0 n0 g1 n1 g2 n2 ga kx ((mwLaw (xwLaw y b) kx)) l1 := by kernel_rfl
noncomputable def A6pc1 (z0 z1 z2 : List Int) (g0 n0 g1 n1 g2 n2 ga : Nat) (kx : List Int) (y : List Int) (l1 : Nat) (x : List Int) (b : List Int) : Out := trim 12 13 [2,5,6] (run eGh 16 ⟨12, []⟩ 400 as63 ((9, .ints .u64 b) :: [(2, .var 4 0), (4, .var 5 0), (5, .var 6 0), (8, .func (.func 79) [] [.var 7 0])]) (TQc1 z0 z1 z2 g0 n0 g1 n1 g2 n2 ga kx y l1 x) [])
theorem A6pc1_ok {z0 z1 z2 : List Int} {g0 n0 g1 n1 g2 n2 ga : Nat} {kx : List Int} {y : List Int} {l1 : Nat} {x : List Int} {b : List Int} (h : allP [.eqN b.length 2]) : Ok (A6pc1 z0 z1 z2 g0 n0 g1 n1 g2 n2 ga kx y l1 x b) := Ok.dem (fl := [true, false, true, true]) (by kernel_rfl) (by kernel_rfl) (by kernel_rfl) h
theorem A6pc1_ex {z0 z1 z2 : List Int} {g0 n0 g1 n1 g2 n2 ga : Nat} {kx : List Int} {y : List Int} {l1 : Nat} {x : List Int} {b : List Int} : (A6pc1 z0 z1 z2 g0 n0 g1 n1 g2 n2 ga kx y l1 x b).ex = .normal := by kernel_rfl
theorem A6pc1_fm {z0 z1 z2 : List Int} {g0 n0 g1 n1 g2 n2 ga : Nat} {kx : List Int} {y : List Int} {l1 : Nat} {x : List Int} {b : List Int} : (A6pc1 z0 z1 z2 g0 n0 g1 n1 g2 n2 ga kx y l1 x b).fm = [(2, .var 4 0), (5, .var 6 0), (6, .var 12 0)] := by kernel_rfl
theorem A6pc1_tab {z0 z1 z2 : List Int} {g0 n0 g1 n1 g2 n2 ga : Nat} {kx : List Int} {y : List Int} {l1 : Nat} {x : List Int} {b : List Int} : (A6pc1 z0 z1 z2 g0 n0 g1 n1 g2 n2 ga kx y l1 x b).tab = TVc1 z0 z1 z2 g0 n0 g1 n1 g2 n2 ga kx y l1 x b := by kernel_rfl
noncomputable def B6pc1 (z0 z1 z2 : List Int) (g0 n0 g1 n1 g2 n2 ga : Nat) (kx : List Int) (y : List Int) (l1 : Nat) (x : List Int) (b : List Int) : Out := trim 12 12 [] (run eGh 16 ⟨12, []⟩ 400 bd63 [(2, .var 4 0), (5, .var 6 0), (6, .var 12 0)] (TVc1 z0 z1 z2 g0 n0 g1 n1 g2 n2 ga kx y l1 x b) [])
theorem B6pc1_ok {z0 z1 z2 : List Int} {g0 n0 g1 n1 g2 n2 ga : Nat} {kx : List Int} {y : List Int} {l1 : Nat} {x : List Int} {b : List Int} (h : allP [.eqN y.length 2, .eqN b.length 2, .p (WpLaw y), .p (WpLaw b), .eqN kx.length 2, .eqN kx.length 2, .p (WpLaw (xwLaw y b)), .p (WpLaw kx), .eqN y.length 2]) : Ok (B6pc1 z0 z1 z2 g0 n0 g1 n1 g2 n2 ga kx y l1 x b) := Ok.dem (fl := bitsF 25 11539466) (by
 kernel_rfl) (by kernel_rfl) (by kernel_rfl) h
theorem B6pc1_ex {z0 z1 z2 : List Int} {g0 n0 g1 n1 g2 n2 ga : Nat} {kx : List Int} {y : List Int} {l1 : Nat} {x : List Int} {b : List Int} : (B6pc1 z0 z1 z2 g0 n0 g1 n1 g2 n2 ga kx y l1 x b).ex = .normal := by kernel_rfl
theorem B6pc1_fm {z0 z1 z2 : List Int} {g0 n0 g1 n1 g2 n2 ga : Nat} {kx : List Int} {y : List Int} {l1 : Nat} {x : List Int} {b : List Int} : (B6pc1 z0 z1 z2 g0 n0 g1 n1 g2 n2 ga kx y l1 x b).fm = [] := by kernel_rfl
theorem B6pc1_tab {z0 z1 z2 : List Int} {g0 n0 g1 n1 g2 n2 ga : Nat} {kx : List Int} {y : List Int} {l1 : Nat} {x : List Int} {b : List Int} : (B6pc1 z0 z1 z2 g0 n0 g1 n1 g2 n2 ga kx y l1 x b).tab = TQc1 z0 z1 z2 g0 n0 g1 n1 g2 n2 ga kx ((mwLaw (xwLaw y b) kx)) l1 x := by kernel_rfl
/-! text 2 of 3 -/
noncomputable def Hyc2 (z0 z1 z2 : List Int) (g0 n0 g1 n1 g2 n2 ga : Nat) (kx : List Int) (y : List Int) (l1 l2 : Nat) (i : Int) : Out := trim 11 11 [0,1,2,4] (run eGh 31 ⟨11, []⟩ 400 hd81 [(0, .func (.yield l2) [] []), (1, .var 9 0), (2, .var 10 0), (4, .int .i64 i)] (TNc2 z0 z1 z2 g0 n0 g1 n1 g2 n2 ga kx y l1) [some true])
theorem Hyc2_ok {z0 z1 z2 : List Int} {g0 n0 g1 n1 g2 n2 ga : Nat} {kx : List Int} {y : List Int} {l1 l2 : Nat} {i : Int} (h : allP [.eqN g2 g2, .p (decide (i < (↑n2 : Int)) = true)]) : Ok (Hyc2 z0 z1 z2 g0 n0 g1 n1 g2 n2 ga kx y l1 l2 i) := Ok.dem (fl := [true, true, false, false]) (by kernel_rfl) (by kernel_rfl) (by kernel_rfl) h
theorem Hyc2_ex {z0 z1 z2 : List Int} {g0 n0 g1 n1 g2 n2 ga : Nat} {kx : List Int} {y : List Int} {l1 l2 : Nat} {i : Int} : (Hyc2 z0 z1 z2 g0 n0 g1 n1 g2 n2 ga kx y l1 l2 i).ex = .normal := by kernel_rfl
theorem Hyc2_fm {z0 z1 z2 : List Int} {g0 n0 g1 n1 g2 n2 ga : Nat} {kx : List Int} {y : List Int} {l1 l2 : Nat} {i : Int} : (Hyc2 z0 z1 z2 g0 n0 g1 n1 g2 n2 ga kx y l1 l2 i).fm = [(0, .func (Fn.yield l2) [] []), (1, .var 9 0), (2, .var 10 0), (4, .int .i64 i)] := by kernel_rfl
theorem Hyc2_tab {z0 z1 z2 : List Int} {g0 n0 g1 n1 g2 n2 ga : Nat} {kx : List Int} {y : List Int} {l1 l2 : Nat} {i : Int} : (Hyc2 z0 z1 z2 g0 n0 g1 n1 g2 n2 ga kx y l1 l2 i).tab = TNc2 z0 z1 z2 g0 n0 g1 n1 g2 n2 ga kx y l1 := by kernel_rfl
noncomputable def Hnc2 (z0 z1 z2 : List Int) (g0 n0 g1 n1 g2 n2 ga : Nat) (kx : List Int) (y : List Int) (l1 l2 : Nat) (i : Int) : Out := trim 11 11 [] (run eGh 31 ⟨11, []⟩ 400 hd81 [(0, .func (.yield l2) [] []), (1, .var 9 0), (2, .var 10 0), (4, .int .i64 i)] (TNc2 z0 z1 z2 g0 n0 g1 n1 g2 n2 ga kx y l1) [some false])
theorem Hnc2_ok {z0 z1 z2 : List Int} {g0 n0 g1 n1 g2 n2 ga : Nat} {kx : List Int} {y : List Int} {l1 l2 : Nat} {i : Int} (h : allP [.eqN g2 g2, .p (decide (i < (↑n2 : Int)) = false)]) : Ok (Hnc2 z0 z1 z2 g0 n0 g1 n1 g2 n2 ga kx y l1 l2 i) := Ok.dem (fl := [true, true, false, false]) (by kernel_rfl) (by kernel_rfl) (by kernel_rfl) h
theorem Hnc2_ex {z0 z1 z2 : List Int} {g0 n0 g1 n1 g2 n2 ga : Nat} {kx : List Int} {y : List Int} {l1 l2 : Nat} {i : Int} : (Hnc2 z0 z1 z2 g0 n0 g1 n1 g2 n2 ga kx y l1 l2 i).ex = .exit 0 := by kernel_rfl
theorem Hnc2_fm {z0 z1 z2 : List Int} {g0 n0 g1 n1 g2 n2 ga : Nat} {kx : List Int} {y : List Int} {l1 l2 : Nat} {i : Int} : (Hnc2 z0 z1 z2 g0 n0 g1 n1 g2 n2 ga kx y l1 l2 i).fm = [] := by kernel_rfl
theorem Hnc2_tab {z0 z1 z2 : List Int} {g0 n0 g1 n1 g2 n2 ga : Nat} {kx : List Int} {y : List Int} {l1 l2 : Nat} {i : Int} : (Hnc2 z0 z1 z2 g0 n0 g1 n1 g2 n2 ga kx y l1 l2 i).tab = TNc2 z0 z1 z2 g0 n0 g1 n1 g2 n2 ga kx y l1 := by kernel_rfl
noncomputable def Msc2 (z0 z1 z2 : List Int) (g0 n0 g1 n1 g2 n2 ga : Nat) (kx : List Int) (y : List Int) (l1 l2 : Nat) (i : Int) : Out := trim 11 11 [0,1,2,4,5] (run eGh 31 ⟨11, []⟩ 400 m81 [(0, .func (.yield l2) [] []), (1, .var 9 0), (2, .var 10 0), (4, .int .i64 i)] (TNc2 z0 z1 z2 g0 n0 g1 n1 g2 n2 ga kx y l1) [])
theorem Msc2_ok {z0 z1 z2 : List Int} {g0 n0 g1 n1 g2 n2 ga : Nat} {kx : List Int} {y : List Int} {l1 l2 : Nat} {i : Int} (h : allP [.leI 0 i, .eqN g2 g2, .leN i.toNat n2, .eqN g2 g2]) : Ok (Msc2 z0 z1 z2 g0 n0 g1 n1 g2 n2 ga kx y l1 l2 i) := Ok.dem (fl := [false, true, true, true, true, false, false, false, false]) (by kernel_rfl) (by kernel_rfl) (by kernel_rfl) h
theorem Msc2_ex {z0 z1 z2 : List Int} {g0 n0 g1 n1 g2 n2 ga : Nat} {kx : List Int} {y : List Int} {l1 l2 : Nat} {i : Int} : (Msc2 z0 z1 z2 g0 n0 g1 n1 g2 n2 ga kx y l1 l2 i).ex = .normal := by kernel_rfl
theorem Msc2_fm {z0 z1 z2 : List Int} {g0 n0 g1 n1 g2 n2 ga : Nat} {kx : List Int} {y : List Int} {l1 l2 : Nat} {i : Int} : (Msc2 z0 z1 z2 g0 n0 g1 n1 g2 n2 ga kx y l1 l2 i).fm = [(0, .func (Fn.yield l2) [] []), (1, .var 9 0), (2, .var 10 0), (4, .int .i64 i), (5, .int .i64 (if (↑(subO n2 i.toNat) : Int) < 16 then (↑(subO n2 i.toNat) : Int) else 16))] := by kernel_rfl
theorem Msc2_tab {z0 z1 z2 : List Int} {g0 n0 g1 n1 g2 n2 ga : Nat} {kx : List Int} {y : List Int} {l1 l2 : Nat} {i : Int} : (Msc2 z0 z1 z2 g0 n0 g1 n1 g2 n2 ga kx y l1 l2 i).tab = TNc2 z0 z1 z2 g0 n0 g1 n1 g2 n2 ga kx y l1 := by kernel_rfl
noncomputable def Yac2 (z0 z1 z2 : List Int) (g0 n0 g1 n1 g2 n2 ga : Nat) (kx : List Int) (y : List Int) (l1 l2 : Nat) (i r : Int) : Out := runOps eGh ops81.toList 31 (ops81.toList.take 10) ([(0, .func (.yield l2) [] []), (1, .var 9 0), (2, .var 10 0), (4, .int .i64 i)] ++ [(5, .int .i64 r)]) (((TNc2 z0 z1 z2 g0 n0 g1 n1 g2 n2 ga kx y l1) : Tab) ++ holes (cntA eGh (ops81.toList.take 10))) ((TNc2 z0 z1 z2 g0 n0 g1 n1 g2 n2 ga kx y l1) : Tab).length []
theorem Yac2_ok {z0 z1 z2 : List Int} {g0 n0 g1 n1 g2 n2 ga : Nat} {kx : List Int} {y : List Int} {l1 l2 : Nat} {i r : Int} (h : allP [.rng (-9223372036854775808) (i + r) 9223372036854775807, .rng (-9223372036854775808) (i + r) 9223372036854775807, .leI 0 i, .leI 0 (i + r), .leI 0 (i + r), .eqN g2 g2, .leN i.toNat (i + r).toNat, .leN (i + r).toNat (i + r).toNat, .orN (i + r).toNat n2 (0 + (i +
 r).toNat) z2.length]) : Ok (Yac2 z0 z1 z2 g0 n0 g1 n1 g2 n2 ga kx y l1 l2 i r) := Ok.dem (fl := [true, true, false, false, false, false, false, false, false, false, false]) (by kernel_rfl) (by kernel_rfl) (by kernel_rfl) h
theorem Yac2_fm {z0 z1 z2 : List Int} {g0 n0 g1 n1 g2 n2 ga : Nat} {kx : List Int} {y : List Int} {l1 l2 : Nat} {i r : Int} : (Yac2 z0 z1 z2 g0 n0 g1 n1 g2 n2 ga kx y l1 l2 i r).fm = [(28, .slice 1 3 g2 i.toNat (subO (i + r).toNat i.toNat) (some (subO (i + r).toNat i.toNat))), (27, .int .i64 (i + r)), (26, .int .i64 r), (25, .int .i64 i), (24, .int .i64 (i + r)), (23, .int .i64 r), (22, .int .i64
 i), (21, .int .i64 i), (20, .slice 1 3 g2 0 n2 none), (19, .func (Fn.yield l2) [] []), (0, .func (Fn.yield l2) [] []), (1, .var 9 0), (2, .var 10 0), (4, .int .i64 i), (5, .int .i64 r)] := by kernel_rfl
theorem Yac2_tab {z0 z1 z2 : List Int} {g0 n0 g1 n1 g2 n2 ga : Nat} {kx : List Int} {y : List Int} {l1 l2 : Nat} {i r : Int} : (Yac2 z0 z1 z2 g0 n0 g1 n1 g2 n2 ga kx y l1 l2 i r).tab = TNc2 z0 z1 z2 g0 n0 g1 n1 g2 n2 ga kx y l1 := by kernel_rfl
noncomputable def Asc2 (z0 z1 z2 : List Int) (g0 n0 g1 n1 g2 n2 ga : Nat) (kx : List Int) (y : List Int) (l1 l2 : Nat) (o r : Nat) : Out := trim 11 11 [2,5] (run eGh 30 ⟨11, []⟩ 400 as79 ((14, .slice 1 3 g2 o r (some r)) :: [(1, .var 7 0), (2, .var 8 0), (6, .slice 1 0 ga 0 3 (some 3)), (7, .int .i64 3), (8, .int .i64 2), (13, .func (.func 81) [] [.var 9 0, .var 10 0])]) (TNc2 z0 z1 z2 g0 n0 g1 n1 g2 n2 ga kx y l1) [])
theorem Asc2_ok {z0 z1 z2 : List Int} {g0 n0 g1 n1 g2 n2 ga : Nat} {kx : List Int} {y : List Int} {l1 l2 : Nat} {o r : Nat} (h : allP []) : Ok (Asc2 z0 z1 z2 g0 n0 g1 n1 g2 n2 ga kx y l1 l2 o r) := Ok.dem (fl := []) (by kernel_rfl) (by kernel_rfl) (by kernel_rfl) h
theorem Asc2_ex {z0 z1 z2 : List Int} {g0 n0 g1 n1 g2 n2 ga : Nat} {kx : List Int} {y : List Int} {l1 l2 : Nat} {o r : Nat} : (Asc2 z0 z1 z2 g0 n0 g1 n1 g2 n2 ga kx y l1 l2 o r).ex = .normal := by kernel_rfl
theorem Asc2_fm {z0 z1 z2 : List Int} {g0 n0 g1 n1 g2 n2 ga : Nat} {kx : List Int} {y : List Int} {l1 l2 : Nat} {o r : Nat} : (Asc2 z0 z1 z2 g0 n0 g1 n1 g2 n2 ga kx y l1 l2 o r).fm = [(2, .var 8 0), (5, .slice 1 3 g2 o r (some r))] := by kernel_rfl
theorem Asc2_tab {z0 z1 z2 : List Int} {g0 n0 g1 n1 g2 n2 ga : Nat} {kx : List Int} {y : List Int} {l1 l2 : Nat} {o r : Nat} : (Asc2 z0 z1 z2 g0 n0 g1 n1 g2 n2 ga kx y l1 l2 o r).tab = TNc2 z0 z1 z2 g0 n0 g1 n1 g2 n2 ga kx y l1 := by kernel_rfl
noncomputable def Dfc2 (z0 z1 z2 : List Int) (g0 n0 g1 n1 g2 n2 ga : Nat) (kx : List Int) (y : List Int) (l1 l2 : Nat) (o : Nat) : Out := drawRun eGh (ops79.toList.take 12) 30 [(2, .var 8 0), (5, .slice 1 3 g2 o 16 (some 16))] (TNc2 z0 z1 z2 g0 n0 g1 n1 g2 n2 ga kx y l1) [some true]
theorem Dfc2_ok {z0 z1 z2 : List Int} {g0 n0 g1 n1 g2 n2 ga : Nat} {kx : List Int} {y : List Int} {l1 l2 : Nat} {o : Nat} (h : allP [.eqN g2 g2, .eqN g2 g2, .eqN g2 g2, .eqN g2 g2, .eqN g2 g2, .eqN g2 g2, .leN (addO o 0 + 16) z2.length, .p (Bytes z2)]) : Ok (Dfc2 z0 z1 z2 g0 n0 g1 n1 g2 n2 ga kx y l1 l2 o) := Ok.dem (fl := bitsF 29 135649502) (by kernel_rfl) (by kernel_rfl) (by kernel_rfl) h
theorem Dfc2_fm {z0 z1 z2 : List Int} {g0 n0 g1 n1 g2 n2 ga : Nat} {kx : List Int} {y : List Int} {l1 l2 : Nat} {o : Nat} : (Dfc2 z0 z1 z2 g0 n0 g1 n1 g2 n2 ga kx y l1 l2 o).fm = [(15, .func (Fn.yield l1) [] []), (16, .slice 1 3 g2 o 16 (some 16)), (17, .slice 1 3 g2 o 16 (some 16)), (18, .int .i64 16), (19, .slice 1 3 g2 o 16 (some 16)), (20, .int .i64 16), (21, .slice 1 3 g2 (addO o 0) 16 (some
 16)), (22, .slice 1 3 g2 o 16 (some 16)), (23, .int .i64 16), (24, .int .i64 0), (25, .slice 1 3 g2 (addO o 0) 16 (some 16)), (26, .ints .u64 (gwLaw (subLaw z2 (addO o 0) 16))), (2, .var 8 0), (5, .slice 1 3 g2 o 16 (some 16))] := by kernel_rfl
theorem Dfc2_tab {z0 z1 z2 : List Int} {g0 n0 g1 n1 g2 n2 ga : Nat} {kx : List Int} {y : List Int} {l1 l2 : Nat} {o : Nat} : (Dfc2 z0 z1 z2 g0 n0 g1 n1 g2 n2 ga kx y l1 l2 o).tab = TNc2 z0 z1 z2 g0 n0 g1 n1 g2 n2 ga kx y l1 := by kernel_rfl
noncomputable def Dpc2 (z0 z1 z2 : List Int) (g0 n0 g1 n1 g2 n2 ga : Nat) (kx : List Int) (y : List Int) (l1 l2 : Nat) (o r : Nat) : Out := drawRun eGh (ops79.toList.take 12) 30 [(2, .var 8 0), (5, .slice 1 3 g2 o r (some r))] (TNc2 z0 z1 z2 g0 n0 g1 n1 g2 n2 ga kx y l1) [some false]
theorem Dpc2_ok {z0 z1 z2 : List Int} {g0 n0 g1 n1 g2 n2 ga : Nat} {kx : List Int} {y : List Int} {l1 l2 : Nat} {o r : Nat} (h : allP [.eqN g2 g2, .eqN g2 g2, .leI 0 (↑r : Int), .leI 0 (↑r : Int), .eqN g2 g2, .leN 0 r, .leN r r, .leN r r, .eqN g2 g2, .rng (-9223372036854775808) (16 - (↑r : Int)) 9223372036854775807, .eqN g2 g2, .leN (addO o 0 + r) z2.length, .p (r < addO r (16 - (↑r : Int)).toNat ∨
 r = 0 ∧ r = 0), .leN (addO r (16 - (↑r : Int)).toNat) 140737488355328, .leI 0 (16 - (↑r : Int)), .leI (16 - (↑r : Int)) 9223372036854775807, .leN (16 - (↑r : Int)).toNat 281474976710656, .leN 16 (List.take r (dropO (addO o 0) z2) ++ List.replicate (16 - (↑r : Int)).toNat 0).length, .p (Bytes (List.take r (dropO (addO o 0) z2) ++ List.replicate (16 - (↑r : Int)).toNat 0)), .eqN (addO r (16 - (↑r :
 Int)).toNat) 16]) : Ok (Dpc2 z0 z1 z2 g0 n0 g1 n1 g2 n2 ga kx y l1 l2 o r) := Ok.dem (fl := bitsF 35 335544542) (by kernel_rfl) (by kernel_rfl) (by kernel_rfl) h
theorem Dpc2_fm {z0 z1 z2 : List Int} {g0 n0 g1 n1 g2 n2 ga : Nat} {kx : List Int} {y : List Int} {l1 l2 : Nat} {o r : Nat} : (Dpc2 z0 z1 z2 g0 n0 g1 n1 g2 n2 ga kx y l1 l2 o r).fm = [(15, .func (Fn.yield l1) [] []), (16, .slice 1 3 g2 o r (some r)), (17, .slice 1 3 g2 o r (some r)), (18, .int .i64 (↑r : Int)), (19, .slice 1 3 g2 o r (some r)), (20, .int .i64 (↑r : Int)), (21, .slice 1 3 g2 (addO o
 0) r (some r)), (22, .slice 1 3 g2 o r (some r)), (23, .int .i64 (↑r : Int)), (24, .int .i64 (16 - (↑r : Int))), (25, .slice 1 11 0 0 (addO r (16 - (↑r : Int)).toNat) none), (26, .ints .u64 (gwLaw (subLaw (List.take r (dropO (addO o 0) z2) ++ List.replicate (16 - (↑r : Int)).toNat 0) 0 16))), (2, .var 8 0), (5, .slice 1 3 g2 o r (some r))] := by kernel_rfl
theorem Dpc2_tab {z0 z1 z2 : List Int} {g0 n0 g1 n1 g2 n2 ga : Nat} {kx : List Int} {y : List Int} {l1 l2 : Nat} {o r : Nat} : (Dpc2 z0 z1 z2 g0 n0 g1 n1 g2 n2 ga kx y l1 l2 o r).tab = TQc2 z0 z1 z2 g0 n0 g1 n1 g2 n2 ga kx y l1 ((List.take r (dropO (addO o 0) z2) ++ List.replicate (16 - (↑r : Int)).toNat 0)) := by kernel_rfl
noncomputable def Rbc2 (z0 z1 z2 : List Int) (g0 n0 g1 n1 g2 n2 ga : Nat) (kx : List Int) (y : List Int) (l1 l2 : Nat) (i : Int) : Out := trim 11 11 [0,1,2,4] (run eGh 31 ⟨11, []⟩ 400 r81 [(0, .func (.yield l2) [] []), (1, .var 9 0), (2, .var 10 0), (4, .int .i64 i)] (TNc2 z0 z1 z2 g0 n0 g1 n1 g2 n2 ga kx y l1) [])
theorem Rbc2_ok {z0 z1 z2 : List Int} {g0 n0 g1 n1 g2 n2 ga : Nat} {kx : List Int} {y : List Int} {l1 l2 : Nat} {i : Int} (h : allP [.rng (-9223372036854775808) (i + 16) 9223372036854775807]) : Ok (Rbc2 z0 z1 z2 g0 n0 g1 n1 g2 n2 ga kx y l1 l2 i) := Ok.dem (fl := [true, true, false]) (by kernel_rfl) (by kernel_rfl) (by kernel_rfl) h
theorem Rbc2_ex {z0 z1 z2 : List Int} {g0 n0 g1 n1 g2 n2 ga : Nat} {kx : List Int} {y : List Int} {l1 l2 : Nat} {i : Int} : (Rbc2 z0 z1 z2 g0 n0 g1 n1 g2 n2 ga kx y l1 l2 i).ex = .normal := by kernel_rfl
theorem Rbc2_fm {z0 z1 z2 : List Int} {g0 n0 g1 n1 g2 n2 ga : Nat} {kx : List Int} {y : List Int} {l1 l2 : Nat} {i : Int} : (Rbc2 z0 z1 z2 g0 n0 g1 n1 g2 n2 ga kx y l1 l2 i).fm = [(0, .func (Fn.yield l2) [] []), (1, .var 9 0), (2, .var 10 0), (4, .int .i64 (i + 16))] := by kernel_rfl
theorem Rbc2_tab {z0 z1 z2 : List Int} {g0 n0 g1 n1 g2 n2 ga : Nat} {kx : List Int} {y : List Int} {l1 l2 : Nat} {i : Int} : (Rbc2 z0 z1 z2 g0 n0 g1 n1 g2 n2 ga kx y l1 l2 i).tab = TNc2 z0 z1 z2 g0 n0 g1 n1 g2 n2 ga kx y l1 := by kernel_rfl
noncomputable def Rrc2 (z0 z1 z2 : List Int) (g0 n0 g1 n1 g2 n2 ga : Nat) (kx : List Int) (y : List Int) (l1 : Nat) : Out := trim 9 9 [1,2,6,7,8] (run eGh 30 ⟨9, []⟩ 400 r79 [(1, .var 7 0), (2, .var 8 0), (6, .slice 1 0 ga 0 3 (some 3)), (7, .int .i64 3), (8, .int .i64 2), (13, .func (.func 81) [] [.var 9 0, .var 10 0])] (TNc2 z0 z1 z2 g0 n0 g1 n1 g2 n2 ga kx y l1) [])
theorem Rrc2_ok {z0 z1 z2 : List Int} {g0 n0 g1 n1 g2 n2 ga : Nat} {kx : List Int} {y : List Int} {l1 : Nat} (h : allP []) : Ok (Rrc2 z0 z1 z2 g0 n0 g1 n1 g2 n2 ga kx y l1) := Ok.dem (fl := [true]) (by kernel_rfl) (by kernel_rfl) (by kernel_rfl) h
theorem Rrc2_ex {z0 z1 z2 : List Int} {g0 n0 g1 n1 g2 n2 ga : Nat} {kx : List Int} {y : List Int} {l1 : Nat} : (Rrc2 z0 z1 z2 g0 n0 g1 n1 g2 n2 ga kx y l1).ex = .normal := by kernel_rfl
theorem Rrc2_fm {z0 z1 z2 : List Int} {g0 n0 g1 n1 g2 n2 ga : Nat} {kx : List Int} {y : List Int} {l1 : Nat} : (Rrc2 z0 z1 z2 g0 n0 g1 n1 g2 n2 ga kx y l1).fm = [(1, .var 7 0), (2, .var 8 0), (6, .slice 1 0 ga 0 3 (some 3)), (7, .int .i64 3), (8, .int .i64 3)] := by kernel_rfl
theorem Rrc2_tab {z0 z1 z2 : List Int} {g0 n0 g1 n1 g2 n2 ga : Nat} {kx : List Int} {y : List Int} {l1 : Nat} : (Rrc2 z0 z1 z2 g0 n0 g1 n1 g2 n2 ga kx y l1).tab = TPc z0 z1 z2 g0 n0 g1 n1 g2 n2 ga kx y l1 := by kernel_rfl
noncomputable def A6fc2 (z0 z1 z2 : List Int) (g0 n0 g1 n1 g2 n2 ga : Nat) (kx : List Int) (y : List Int) (l1 : Nat) (b : List Int) : Out := trim 11 12 [2,5,6] (run eGh 16 ⟨11, []⟩ 400 as63 ((9, .ints .u64 b) :: [(2, .var 4 0), (4, .var 5 0), (5, .var 6 0), (8, .func (.func 79) [] [.var 7 0])]) (TNc2 z0 z1 z2 g0 n0 g1 n1 g2 n2 ga kx y l1) [])
theorem A6fc2_ok {z0 z1 z2 : List Int} {g0 n0 g1 n1 g2 n2 ga : Nat} {kx : List Int} {y : List Int} {l1 : Nat} {b : List Int} (h : allP [.eqN b.length 2]) : Ok (A6fc2 z0 z1 z2 g0 n0 g1 n1 g2 n2 ga kx y l1 b) := Ok.dem (fl := [true, false, true, true]) (by kernel_rfl) (by kernel_rfl) (by kernel_rfl) h
theorem A6fc2_ex {z0 z1 z2 : List Int} {g0 n0 g1 n1 g2 n2 ga : Nat} {kx : List Int} {y : List Int} {l1 : Nat} {b : List Int} : (A6fc2 z0 z1 z2 g0 n0 g1 n1 g2 n2 ga kx y l1 b).ex = .normal := by kernel_rfl
theorem A6fc2_fm {z0 z1 z2 : List Int} {g0 n0 g1 n1 g2 n2 ga : Nat} {kx : List Int} {y : List Int} {l1 : Nat} {b : List Int} : (A6fc2 z0 z1 z2 g0 n0 g1 n1 g2 n2 ga kx y l1 b).fm = [(2, .var 4 0), (5, .var 6 0), (6, .var 11 0)] := by kernel_rfl
theorem A6fc2_tab {z0 z1 z2 : List Int} {g0 n0 g1 n1 g2 n2 ga : Nat} {kx : List Int} {y : List Int} {l1 : Nat} {b : List Int} : (A6fc2 z0 z1 z2 g0 n0 g1 n1 g2 n2 ga kx y l1 b).tab = TUc2 z0 z1 z2 g0 n0 g1 n1 g2 n2 ga kx y l1 b := by kernel_rfl
noncomputable def B6fc2 (z0 z1 z2 : List Int) (g0 n0 g1 n1 g2 n2 ga : Nat) (kx : List Int) (y : List Int) (l1 : Nat) (b : List Int) : Out := trim 11 11 [] (run eGh 16 ⟨11, []⟩ 400 bd63 [(2, .var 4 0), (5, .var 6 0), (6, .var 11 0)] (TUc2 z0 z1 z2 g0 n0 g1 n1 g2 n2 ga kx y l1 b) [])
theorem B6fc2_ok {z0 z1 z2 : List Int} {g0 n0 g1 n1 g2 n2 ga : Nat} {kx : List Int} {y : List Int} {l1 : Nat} {b : List Int} (h : allP [.eqN y.length 2, .eqN b.length 2, .p (WpLaw y), .p (WpLaw b), .eqN kx.length 2, .eqN kx.length 2, .p (WpLaw (xwLaw y b)), .p (WpLaw kx), .eqN y.length 2]) : Ok (B6fc2 z0 z1 z2 g0 n0 g1 n1 g2 n2 ga kx y l1 b) := Ok.dem (fl := bitsF 25 11539466) (by kernel_rfl) (by
 kernel_rfl) (by kernel_rfl) h
theorem B6fc2_ex {z0 z1 z2 : List Int} {g0 n0 g1 n1 g2 n2 ga : Nat} {kx : List Int} {y : List Int} {l1 : Nat} {b : List Int} : (B6fc2 z0 z1 z2 g0 n0 g1 n1 g2 n2 ga kx y l1 b).ex = .normal := by kernel_rfl
theorem B6fc2_fm {z0 z1 z2 : List Int} {g0 n0 g1 n1 g2 n2 ga : Nat} {kx : List Int} {y : List Int} {l1 : Nat} {b : List Int} : (B6fc2 z0 z1 z2 g0 n0 g1 n1 g2 n2 ga kx y l1 b).fm = [] := by kernel_rfl
theorem B6fc2_tab {z0 z1 z2 : List Int} {g0 n0 g1 n1 g2 n2 ga : Nat} {kx : List Int} {y : List Int} {l1 : Nat} {b : List Int} : (B6fc2 z0 z1 z2 g0 n0 g1 n1 g2 n2 ga kx y l1 b).tab = TNc2 z0 z1 z2 g0 n0 g1 n1 g2 n2 ga kx ((mwLaw (xwLaw y b) kx)) l1 := by kernel_rfl
noncomputable def A6pc2 (z0 z1 z2 : List Int) (g0 n0 g1 n1 g2 n2 ga : Nat) (kx : List Int) (y : List Int) (l1 : Nat) (x : List Int) (b : List Int) : Out := trim 12 13 [2,5,6] (run eGh 16 ⟨12, []⟩ 400 as63 ((9, .ints .u64 b) :: [(2, .var 4 0), (4, .var 5 0), (5, .var 6 0), (8, .func (.func 79) [] [.var 7 0])]) (TQc2 z0 z1 z2 g0 n0 g1 n1 g2 n2 ga kx y l1 x) [])
theorem A6pc2_ok {z0 z1 z2 : List Int} {g0 n0 g1 n1 g2 n2 ga : Nat} {kx : List Int} {y : List Int} {l1 : Nat} {x : List Int} {b : List Int} (h : allP [.eqN b.length 2]) : Ok (A6pc2 z0 z1 z2 g0 n0 g1 n1 g2 n2 ga kx y l1 x b) := Ok.dem (fl := [true, false, true, true]) (by kernel_rfl) (by kernel_rfl) (by kernel_rfl) h
theorem A6pc2_ex {z0 z1 z2 : List Int} {g0 n0 g1 n1 g2 n2 ga : Nat} {kx : List Int} {y : List Int} {l1 : Nat} {x : List Int} {b : List Int} : (A6pc2 z0 z1 z2 g0 n0 g1 n1 g2 n2 ga kx y l1 x b).ex = .normal := by kernel_rfl
theorem A6pc2_fm {z0 z1 z2 : List Int} {g0 n0 g1 n1 g2 n2 ga : Nat} {kx : List Int} {y : List Int} {l1 : Nat} {x : List Int} {b : List Int} : (A6pc2 z0 z1 z2 g0 n0 g1 n1 g2 n2 ga kx y l1 x b).fm = [(2, .var 4 0), (5, .var 6 0), (6, .var 12 0)] := by kernel_rfl
theorem A6pc2_tab {z0 z1 z2 : List Int} {g0 n0 g1 n1 g2 n2 ga : Nat} {kx : List Int} {y : List Int} {l1 : Nat} {x : List Int} {b : List Int} : (A6pc2 z0 z1 z2 g0 n0 g1 n1 g2 n2 ga kx y l1 x b).tab = TVc2 z0 z1 z2 g0 n0 g1 n1 g2 n2 ga kx y l1 x b := by kernel_rfl
noncomputable def B6pc2 (z0 z1 z2 : List Int) (g0 n0 g1 n1 g2 n2 ga : Nat) (kx : List Int) (y : List Int) (l1 : Nat) (x : List Int) (b : List Int) : Out := trim 12 12 [] (run eGh 16 ⟨12, []⟩ 400 bd63 [(2, .var 4 0), (5, .var 6 0), (6, .var 12 0)] (TVc2 z0 z1 z2 g0 n0 g1 n1 g2 n2 ga kx y l1 x b) [])
theorem B6pc2_ok {z0 z1 z2 : List Int} {g0 n0 g1 n1 g2 n2 ga : Nat} {kx : List Int} {y : List Int} {l1 : Nat} {x : List Int} {b : List Int} (h : allP [.eqN y.length 2, .eqN b.length 2, .p (WpLaw y), .p (WpLaw b), .eqN kx.length 2, .eqN kx.length 2, .p (WpLaw (xwLaw y b)), .p (WpLaw kx), .eqN y.length 2]) : Ok (B6pc2 z0 z1 z2 g0 n0 g1 n1 g2 n2 ga kx y l1 x b) := Ok.dem (fl := bitsF 25 11539466) (by
 kernel_rfl) (by kernel_rfl) (by kernel_rfl) h
theorem B6pc2_ex {z0 z1 z2 : List Int} {g0 n0 g1 n1 g2 n2 ga : Nat} {kx : List Int} {y : List Int} {l1 : Nat} {x : List Int} {b : List Int} : (B6pc2 z0 z1 z2 g0 n0 g1 n1 g2 n2 ga kx y l1 x b).ex = .normal := by kernel_rfl
theorem B6pc2_fm {z0 z1 z2 : List Int} {g0 n0 g1 n1 g2 n2 ga : Nat} {kx : List Int} {y : List Int} {l1 : Nat} {x : List Int} {b : List Int} : (B6pc2 z0 z1 z2 g0 n0 g1 n1 g2 n2 ga kx y l1 x b).fm = [] := by kernel_rfl
theorem B6pc2_tab {z0 z1 z2 : List Int} {g0 n0 g1 n1 g2 n2 ga : Nat} {kx : List Int} {y : List Int} {l1 : Nat} {x : List Int} {b : List Int} : (B6pc2 z0 z1 z2 g0 n0 g1 n1 g2 n2 ga kx y l1 x b).tab = TQc2 z0 z1 z2 g0 n0 g1 n1 g2 n2 ga kx ((mwLaw (xwLaw y b) kx)) l1 x := by kernel_rfl
noncomputable def Sac (z0 z1 z2 : List Int) (g0 n0 g1 n1 g2 n2 ga : Nat) (kx : List Int) (l1 : Nat) : Out := trim 8 9 [1,2] (run eGh 30 ⟨8, []⟩ 400 (fstC (bodyOf f79)) (argF [.func (.yield l1) [] [], .var 7 0] 0) (TBc z0 z1 z2 g0 n0 g1 n1 g2 n2 ga kx [0, 0]) [])
theorem Sac_ok {z0 z1 z2 : List Int} {g0 n0 g1 n1 g2 n2 ga : Nat} {kx : List Int} {l1 : Nat} (h : allP []) : Ok (Sac z0 z1 z2 g0 n0 g1 n1 g2 n2 ga kx l1) := Ok.dem (fl := []) (by kernel_rfl) (by kernel_rfl) (by kernel_rfl) h
theorem Sac_ex {z0 z1 z2 : List Int} {g0 n0 g1 n1 g2 n2 ga : Nat} {kx : List Int} {l1 : Nat} : (Sac z0 z1 z2 g0 n0 g1 n1 g2 n2 ga kx l1).ex = .normal := by kernel_rfl
theorem Sac_fm {z0 z1 z2 : List Int} {g0 n0 g1 n1 g2 n2 ga : Nat} {kx : List Int} {l1 : Nat} : (Sac z0 z1 z2 g0 n0 g1 n1 g2 n2 ga kx l1).fm = [(1, .var 7 0), (2, .var 8 0)] := by kernel_rfl
theorem Sac_tab {z0 z1 z2 : List Int} {g0 n0 g1 n1 g2 n2 ga : Nat} {kx : List Int} {l1 : Nat} : (Sac z0 z1 z2 g0 n0 g1 n1 g2 n2 ga kx l1).tab = TPc z0 z1 z2 g0 n0 g1 n1 g2 n2 ga kx ([0, 0]) l1 := by kernel_rfl
noncomputable def Sbc (z0 z1 z2 : List Int) (g0 n0 g1 n1 g2 n2 ga : Nat) (kx : List Int) (l1 : Nat) : Out := trim 9 9 [1,2,6,7,8] (run eGh 30 ⟨9, []⟩ 400 (fstC (sndC (bodyOf f79))) [(1, .var 7 0), (2, .var 8 0)] (TPc z0 z1 z2 g0 n0 g1 n1 g2 n2 ga kx [0, 0] l1) [])
theorem Sbc_ok {z0 z1 z2 : List Int} {g0 n0 g1 n1 g2 n2 ga : Nat} {kx : List Int} {l1 : Nat} (h : allP [.eqN ga ga]) : Ok (Sbc z0 z1 z2 g0 n0 g1 n1 g2 n2 ga kx l1) := Ok.dem (fl := [true, true, false]) (by kernel_rfl) (by kernel_rfl) (by kernel_rfl) h
theorem Sbc_ex {z0 z1 z2 : List Int} {g0 n0 g1 n1 g2 n2 ga : Nat} {kx : List Int} {l1 : Nat} : (Sbc z0 z1 z2 g0 n0 g1 n1 g2 n2 ga kx l1).ex = .normal := by kernel_rfl
theorem Sbc_fm {z0 z1 z2 : List Int} {g0 n0 g1 n1 g2 n2 ga : Nat} {kx : List Int} {l1 : Nat} : (Sbc z0 z1 z2 g0 n0 g1 n1 g2 n2 ga kx l1).fm = [(1, .var 7 0), (2, .var 8 0), (6, .slice 1 0 ga 0 3 (some 3)), (7, .int .i64 3), (8, .int .i64 0)] := by kernel_rfl
theorem Sbc_tab {z0 z1 z2 : List Int} {g0 n0 g1 n1 g2 n2 ga : Nat} {kx : List Int} {l1 : Nat} : (Sbc z0 z1 z2 g0 n0 g1 n1 g2 n2 ga kx l1).tab = TPc z0 z1 z2 g0 n0 g1 n1 g2 n2 ga kx ([0, 0]) l1 := by kernel_rfl
noncomputable def Zsc0 (z0 z1 z2 : List Int) (g0 n0 g1 n1 g2 n2 ga : Nat) (kx : List Int) (y : List Int) (l1 l2 : Nat) : Out := trim 11 11 [0,1,2,4] (run eGh 31 ⟨11, []⟩ 400 (fstC (bodyOf f81)) (argF [.func (.yield l2) [] [], .var 9 0, .var 10 0] 0) (TNc0 z0 z1 z2 g0 n0 g1 n1 g2 n2 ga kx y l1) [])
theorem Zsc0_ok {z0 z1 z2 : List Int} {g0 n0 g1 n1 g2 n2 ga : Nat} {kx : List Int} {y : List Int} {l1 l2 : Nat} (h : allP []) : Ok (Zsc0 z0 z1 z2 g0 n0 g1 n1 g2 n2 ga kx y l1 l2) := Ok.dem (fl := []) (by kernel_rfl) (by kernel_rfl) (by kernel_rfl) h
theorem Zsc0_ex {z0 z1 z2 : List Int} {g0 n0 g1 n1 g2 n2 ga : Nat} {kx : List Int} {y : List Int} {l1 l2 : Nat} : (Zsc0 z0 z1 z2 g0 n0 g1 n1 g2 n2 ga kx y l1 l2).ex = .normal := by kernel_rfl
theorem Zsc0_fm {z0 z1 z2 : List Int} {g0 n0 g1 n1 g2 n2 ga : Nat} {kx : List Int} {y : List Int} {l1 l2 : Nat} : (Zsc0 z0 z1 z2 g0 n0 g1 n1 g2 n2 ga kx y l1 l2).fm = [(0, .func (Fn.yield l2) [] []), (1, .var 9 0), (2, .var 10 0), (4, .int .i64 0)] := by kernel_rfl
theorem Zsc0_tab {z0 z1 z2 : List Int} {g0 n0 g1 n1 g2 n2 ga : Nat} {kx : List Int} {y : List Int} {l1 l2 : Nat} : (Zsc0 z0 z1 z2 g0 n0 g1 n1 g2 n2 ga kx y l1 l2).tab = TNc0 z0 z1 z2 g0 n0 g1 n1 g2 n2 ga kx y l1 := by kernel_rfl
noncomputable def Hdc0 (z0 z1 z2 : List Int) (g0 n0 g1 n1 g2 n2 ga : Nat) (kx : List Int) (y : List Int) (l1 : Nat) : Out := trim 9 9 [1,2,6,7,8,9] (run eGh 30 ⟨9, []⟩ 400 hd79 [(1, .var 7 0), (2, .var 8 0), (6, .slice 1 0 ga 0 3 (some 3)), (7, .int .i64 3), (8, .int .i64 0)] (TPc z0 z1 z2 g0 n0 g1 n1 g2 n2 ga kx y l1) [none])
theorem Hdc0_ok {z0 z1 z2 : List Int} {g0 n0 g1 n1 g2 n2 ga : Nat} {kx : List Int} {y : List Int} {l1 : Nat} (h : allP []) : Ok (Hdc0 z0 z1 z2 g0 n0 g1 n1 g2 n2 ga kx y l1) := Ok.dem (fl := []) (by kernel_rfl) (by kernel_rfl) (by kernel_rfl) h
theorem Hdc0_ex {z0 z1 z2 : List Int} {g0 n0 g1 n1 g2 n2 ga : Nat} {kx : List Int} {y : List Int} {l1 : Nat} : (Hdc0 z0 z1 z2 g0 n0 g1 n1 g2 n2 ga kx y l1).ex = .normal := by kernel_rfl
theorem Hdc0_fm {z0 z1 z2 : List Int} {g0 n0 g1 n1 g2 n2 ga : Nat} {kx : List Int} {y : List Int} {l1 : Nat} : (Hdc0 z0 z1 z2 g0 n0 g1 n1 g2 n2 ga kx y l1).fm = [(1, .var 7 0), (2, .var 8 0), (6, .slice 1 0 ga 0 3 (some 3)), (7, .int .i64 3), (8, .int .i64 0), (9, .bool true)] := by kernel_rfl
theorem Hdc0_tab {z0 z1 z2 : List Int} {g0 n0 g1 n1 g2 n2 ga : Nat} {kx : List Int} {y : List Int} {l1 : Nat} : (Hdc0 z0 z1 z2 g0 n0 g1 n1 g2 n2 ga kx y l1).tab = TPc z0 z1 z2 g0 n0 g1 n1 g2 n2 ga kx y l1 := by kernel_rfl
noncomputable def Pac0 (z0 z1 z2 : List Int) (g0 n0 g1 n1 g2 n2 ga : Nat) (kx : List Int) (y : List Int) (l1 : Nat) : Out := trim 9 9 [1,2,4,6,7,8] (run eGh 30 ⟨9, []⟩ 400 (fstC x79) [(1, .var 7 0), (2, .var 8 0), (6, .slice 1 0 ga 0 3 (some 3)), (7, .int .i64 3), (8, .int .i64 0)] (TPc z0 z1 z2 g0 n0 g1 n1 g2 n2 ga kx y l1) [])
theorem Pac0_ok {z0 z1 z2 : List Int} {g0 n0 g1 n1 g2 n2 ga : Nat} {kx : List Int} {y : List Int} {l1 : Nat} (h : allP [.eqN ga ga, .eqN ga ga]) : Ok (Pac0 z0 z1 z2 g0 n0 g1 n1 g2 n2 ga kx y l1) := Ok.dem (fl := [false, true, true, false, true]) (by kernel_rfl) (by kernel_rfl) (by kernel_rfl) h
theorem Pac0_ex {z0 z1 z2 : List Int} {g0 n0 g1 n1 g2 n2 ga : Nat} {kx : List Int} {y : List Int} {l1 : Nat} : (Pac0 z0 z1 z2 g0 n0 g1 n1 g2 n2 ga kx y l1).ex = .normal := by kernel_rfl
theorem Pac0_fm {z0 z1 z2 : List Int} {g0 n0 g1 n1 g2 n2 ga : Nat} {kx : List Int} {y : List Int} {l1 : Nat} : (Pac0 z0 z1 z2 g0 n0 g1 n1 g2 n2 ga kx y l1).fm = [(1, .var 7 0), (2, .var 8 0), (4, .slice 1 1 g0 0 n0 none), (6, .slice 1 0 ga 0 3 (some 3)), (7, .int .i64 3), (8, .int .i64 0)] := by kernel_rfl
theorem Pac0_tab {z0 z1 z2 : List Int} {g0 n0 g1 n1 g2 n2 ga : Nat} {kx : List Int} {y : List Int} {l1 : Nat} : (Pac0 z0 z1 z2 g0 n0 g1 n1 g2 n2 ga kx y l1).tab = TPc z0 z1 z2 g0 n0 g1 n1 g2 n2 ga kx y l1 := by kernel_rfl
noncomputable def Pbc0 (z0 z1 z2 : List Int) (g0 n0 g1 n1 g2 n2 ga : Nat) (kx : List Int) (y : List Int) (l1 : Nat) : Out := trim 9 11 [1,2,6,7,8,13] (run eGh 30 ⟨9, []⟩ 400 (fstC (sndC x79)) ((4, .slice 1 1 g0 0 n0 none) :: [(1, .var 7 0), (2, .var 8 0), (6, .slice 1 0 ga 0 3 (some 3)), (7, .int .i64 3), (8, .int .i64 0)]) (TPc z0 z1 z2 g0 n0 g1 n1 g2 n2 ga kx y l1) [])
theorem Pbc0_ok {z0 z1 z2 : List Int} {g0 n0 g1 n1 g2 n2 ga : Nat} {kx : List Int} {y : List Int} {l1 : Nat} (h : allP [.eqN g0 g0]) : Ok (Pbc0 z0 z1 z2 g0 n0 g1 n1 g2 n2 ga kx y l1) := Ok.dem (fl := [false, true, true]) (by kernel_rfl) (by kernel_rfl) (by kernel_rfl) h
theorem Pbc0_ex {z0 z1 z2 : List Int} {g0 n0 g1 n1 g2 n2 ga : Nat} {kx : List Int} {y : List Int} {l1 : Nat} : (Pbc0 z0 z1 z2 g0 n0 g1 n1 g2 n2 ga kx y l1).ex = .normal := by kernel_rfl
theorem Pbc0_fm {z0 z1 z2 : List Int} {g0 n0 g1 n1 g2 n2 ga : Nat} {kx : List Int} {y : List Int} {l1 : Nat} : (Pbc0 z0 z1 z2 g0 n0 g1 n1 g2 n2 ga kx y l1).fm = [(1, .var 7 0), (2, .var 8 0), (6, .slice 1 0 ga 0 3 (some 3)), (7, .int .i64 3), (8, .int .i64 0), (13, .func (Fn.func 81) [] [.var 9 0, .var 10 0])] := by kernel_rfl
theorem Pbc0_tab {z0 z1 z2 : List Int} {g0 n0 g1 n1 g2 n2 ga : Nat} {kx : List Int} {y : List Int} {l1 : Nat} : (Pbc0 z0 z1 z2 g0 n0 g1 n1 g2 n2 ga kx y l1).tab = TNc0 z0 z1 z2 g0 n0 g1 n1 g2 n2 ga kx y l1 := by kernel_rfl
noncomputable def Zsc1 (z0 z1 z2 : List Int) (g0 n0 g1 n1 g2 n2 ga : Nat) (kx : List Int) (y : List Int) (l1 l2 : Nat) : Out := trim 11 11 [0,1,2,4] (run eGh 31 ⟨11, []⟩ 400 (fstC (bodyOf f81)) (argF [.func (.yield l2) [] [], .var 9 0, .var 10 0] 0) (TNc1 z0 z1 z2 g0 n0 g1 n1 g2 n2 ga kx y l1) [])
theorem Zsc1_ok {z0 z1 z2 : List Int} {g0 n0 g1 n1 g2 n2 ga : Nat} {kx : List Int} {y : List Int} {l1 l2 : Nat} (h : allP []) : Ok (Zsc1 z0 z1 z2 g0 n0 g1 n1 g2 n2 ga kx y l1 l2) := Ok.dem (fl := []) (by kernel_rfl) (by kernel_rfl) (by kernel_rfl) h
theorem Zsc1_ex {z0 z1 z2 : List Int} {g0 n0 g1 n1 g2 n2 ga : Nat} {kx : List Int} {y : List Int} {l1 l2 : Nat} : (Zsc1 z0 z1 z2 g0 n0 g1 n1 g2 n2 ga kx y l1 l2).ex = .normal := by kernel_rfl
theorem Zsc1_fm {z0 z1 z2 : List Int} {g0 n0 g1 n1 g2 n2 ga : Nat} {kx : List Int} {y : List Int} {l1 l2 : Nat} : (Zsc1 z0 z1 z2 g0 n0 g1 n1 g2 n2 ga kx y l1 l2).fm = [(0, .func (Fn.yield l2) [] []), (1, .var 9 0), (2, .var 10 0), (4, .int .i64 0)] := by kernel_rfl
theorem Zsc1_tab {z0 z1 z2 : List Int} {g0 n0 g1 n1 g2 n2 ga : Nat} {kx : List Int} {y : List Int} {l1 l2 : Nat} : (Zsc1 z0 z1 z2 g0 n0 g1 n1 g2 n2 ga kx y l1 l2).tab = TNc1 z0 z1 z2 g0 n0 g1 n1 g2 n2 ga kx y l1 := by kernel_rfl
noncomputable def Hdc1 (z0 z1 z2 : List Int) (g0 n0 g1 n1 g2 n2 ga : Nat) (kx : List Int) (y : List Int) (l1 : Nat) : Out := trim 9 9 [1,2,6,7,8,9] (run eGh 30 ⟨9, []⟩ 400 hd79 [(1, .var 7 0), (2, .var 8 0), (6, .slice 1 0 ga 0 3 (some 3)), (7, .int .i64 3), (8, .int .i64 1)] (TPc z0 z1 z2 g0 n0 g1 n1 g2 n2 ga kx y l1) [none])
theorem Hdc1_ok {z0 z1 z2 : List Int} {g0 n0 g1 n1 g2 n2 ga : Nat} {kx : List Int} {y : List Int} {l1 : Nat} (h : allP []) : Ok (Hdc1 z0 z1 z2 g0 n0 g1 n1 g2 n2 ga kx y l1) := Ok.dem (fl := []) (by kernel_rfl) (by kernel_rfl) (by kernel_rfl) h
theorem Hdc1_ex {z0 z1 z2 : List Int} {g0 n0 g1 n1 g2 n2 ga : Nat} {kx : List Int} {y : List Int} {l1 : Nat} : (Hdc1 z0 z1 z2 g0 n0 g1 n1 g2 n2 ga kx y l1).ex = .normal := by kernel_rfl
theorem Hdc1_fm {z0 z1 z2 : List Int} {g0 n0 g1 n1 g2 n2 ga : Nat} {kx : List Int} {y : List Int} {l1 : Nat} : (Hdc1 z0 z1 z2 g0 n0 g1 n1 g2 n2 ga kx y l1).fm = [(1, .var 7 0), (2, .var 8 0), (6, .slice 1 0 ga 0 3 (some 3)), (7, .int .i64 3), (8, .int .i64 1), (9, .bool true)] := by kernel_rfl
theorem Hdc1_tab {z0 z1 z2 : List Int} {g0 n0 g1 n1 g2 n2 ga : Nat} {kx : List Int} {y : List Int} {l1 : Nat} : (Hdc1 z0 z1 z2 g0 n0 g1 n1 g2 n2 ga kx y l1).tab = TPc z0 z1 z2 g0 n0 g1 n1 g2 n2 ga kx y l1 := by kernel_rfl
noncomputable def Pac1 (z0 z1 z2 : List Int) (g0 n0 g1 n1 g2 n2 ga : Nat) (kx : List Int) (y : List Int) (l1 : Nat) : Out := trim 9 9 [1,2,4,6,7,8] (run eGh 30 ⟨9, []⟩ 400 (fstC x79) [(1, .var 7 0), (2, .var 8 0), (6, .slice 1 0 ga 0 3 (some 3)), (7, .int .i64 3), (8, .int .i64 1)] (TPc z0 z1 z2 g0 n0 g1 n1 g2 n2 ga kx y l1) [])
theorem Pac1_ok {z0 z1 z2 : List Int} {g0 n0 g1 n1 g2 n2 ga : Nat} {kx : List Int} {y : List Int} {l1 : Nat} (h : allP [.eqN ga ga, .eqN ga ga]) : Ok (Pac1 z0 z1 z2 g0 n0 g1 n1 g2 n2 ga kx y l1) := Ok.dem (fl := [false, true, true, false, true]) (by kernel_rfl) (by kernel_rfl) (by kernel_rfl) h
theorem Pac1_ex {z0 z1 z2 : List Int} {g0 n0 g1 n1 g2 n2 ga : Nat} {kx : List Int} {y : List Int} {l1 : Nat} : (Pac1 z0 z1 z2 g0 n0 g1 n1 g2 n2 ga kx y l1).ex = .normal := by kernel_rfl
theorem Pac1_fm {z0 z1 z2 : List Int} {g0 n0 g1 n1 g2 n2 ga : Nat} {kx : List Int} {y : List Int} {l1 : Nat} : (Pac1 z0 z1 z2 g0 n0 g1 n1 g2 n2 ga kx y l1).fm = [(1, .var 7 0), (2, .var 8 0), (4, .slice 1 2 g1 0 n1 none), (6, .slice 1 0 ga 0 3 (some 3)), (7, .int .i64 3), (8, .int .i64 1)] := by kernel_rfl
theorem Pac1_tab {z0 z1 z2 : List Int} {g0 n0 g1 n1 g2 n2 ga : Nat} {kx : List Int} {y : List Int} {l1 : Nat} : (Pac1 z0 z1 z2 g0 n0 g1 n1 g2 n2 ga kx y l1).tab = TPc z0 z1 z2 g0 n0 g1 n1 g2 n2 ga kx y l1 := by kernel_rfl
noncomputable def Pbc1 (z0 z1 z2 : List Int) (g0 n0 g1 n1 g2 n2 ga : Nat) (kx : List Int) (y : List Int) (l1 : Nat) : Out := trim 9 11 [1,2,6,7,8,13] (run eGh 30 ⟨9, []⟩ 400 (fstC (sndC x79)) ((4, .slice 1 2 g1 0 n1 none) :: [(1, .var 7 0), (2, .var 8 0), (6, .slice 1 0 ga 0 3 (some 3)), (7, .int .i64 3), (8, .int .i64 1)]) (TPc z0 z1 z2 g0 n0 g1 n1 g2 n2 ga kx y l1) [])
theorem Pbc1_ok {z0 z1 z2 : List Int} {g0 n0 g1 n1 g2 n2 ga : Nat} {kx : List Int} {y : List Int} {l1 : Nat} (h : allP [.eqN g1 g1]) : Ok (Pbc1 z0 z1 z2 g0 n0 g1 n1 g2 n2 ga kx y l1) := Ok.dem (fl := [false, true, true]) (by kernel_rfl) (by kernel_rfl) (by kernel_rfl) h
theorem Pbc1_ex {z0 z1 z2 : List Int} {g0 n0 g1 n1 g2 n2 ga : Nat} {kx : List Int} {y : List Int} {l1 : Nat} : (Pbc1 z0 z1 z2 g0 n0 g1 n1 g2 n2 ga kx y l1).ex = .normal := by kernel_rfl
theorem Pbc1_fm {z0 z1 z2 : List Int} {g0 n0 g1 n1 g2 n2 ga : Nat} {kx : List Int} {y : List Int} {l1 : Nat} : (Pbc1 z0 z1 z2 g0 n0 g1 n1 g2 n2 ga kx y l1).fm = [(1, .var 7 0), (2, .var 8 0), (6, .slice 1 0 ga 0 3 (some 3)), (7, .int .i64 3), (8, .int .i64 1), (13, .func (Fn.func 81) [] [.var 9 0, .var 10 0])] := by kernel_rfl
theorem Pbc1_tab {z0 z1 z2 : List Int} {g0 n0 g1 n1 g2 n2 ga : Nat} {kx : List Int} {y : List Int} {l1 : Nat} : (Pbc1 z0 z1 z2 g0 n0 g1 n1 g2 n2 ga kx y l1).tab = TNc1 z0 z1 z2 g0 n0 g1 n1 g2 n2 ga kx y l1 := by kernel_rfl
noncomputable def Zsc2 (z0 z1 z2 : List Int) (g0 n0 g1 n1 g2 n2 ga : Nat) (kx : List Int) (y : List Int) (l1 l2 : Nat) : Out := trim 11 11 [0,1,2,4] (run eGh 31 ⟨11, []⟩ 400 (fstC (bodyOf f81)) (argF [.func (.yield l2) [] [], .var 9 0, .var 10 0] 0) (TNc2 z0 z1 z2 g0 n0 g1 n1 g2 n2 ga kx y l1) [])
theorem Zsc2_ok {z0 z1 z2 : List Int} {g0 n0 g1 n1 g2 n2 ga : Nat} {kx : List Int} {y : List Int} {l1 l2 : Nat} (h : allP []) : Ok (Zsc2 z0 z1 z2 g0 n0 g1 n1 g2 n2 ga kx y l1 l2) := Ok.dem (fl := []) (by kernel_rfl) (by kernel_rfl) (by kernel_rfl) h
theorem Zsc2_ex {z0 z1 z2 : List Int} {g0 n0 g1 n1 g2 n2 ga : Nat} {kx : List Int} {y : List Int} {l1 l2 : Nat} : (Zsc2 z0 z1 z2 g0 n0 g1 n1 g2 n2 ga kx y l1 l2).ex = .normal := by kernel_rfl
theorem Zsc2_fm {z0 z1 z2 : List Int} {g0 n0 g1 n1 g2 n2 ga : Nat} {kx : List Int} {y : List Int} {l1 l2 : Nat} : (Zsc2 z0 z1 z2 g0 n0 g1 n1 g2 n2 ga kx y l1 l2).fm = [(0, .func (Fn.yield l2) [] []), (1, .var 9 0), (2, .var 10 0), (4, .int .i64 0)] := by kernel_rfl
theorem Zsc2_tab {z0 z1 z2 : List Int} {g0 n0 g1 n1 g2 n2 ga : Nat} {kx : List Int} {y : List Int} {l1 l2 : Nat} : (Zsc2 z0 z1 z2 g0 n0 g1 n1 g2 n2 ga kx y l1 l2).tab = TNc2 z0 z1 z2 g0 n0 g1 n1 g2 n2 ga kx y l1 := by kernel_rfl
noncomputable def Hdc2 (z0 z1 z2 : List Int) (g0 n0 g1 n1 g2 n2 ga : Nat) (kx : List Int) (y : List Int) (l1 : Nat) : Out := trim 9 9 [1,2,6,7,8,9] (run eGh 30 ⟨9, []⟩ 400 hd79 [(1, .var 7 0), (2, .var 8 0), (6, .slice 1 0 ga 0 3 (some 3)), (7, .int .i64 3), (8, .int .i64 2)] (TPc z0 z1 z2 g0 n0 g1 n1 g2 n2 ga kx y l1) [none])
theorem Hdc2_ok {z0 z1 z2 : List Int} {g0 n0 g1 n1 g2 n2 ga : Nat} {kx : List Int} {y : List Int} {l1 : Nat} (h : allP []) : Ok (Hdc2 z0 z1 z2 g0 n0 g1 n1 g2 n2 ga kx y l1) := Ok.dem (fl := []) (by kernel_rfl) (by kernel_rfl) (by kernel_rfl) h
theorem Hdc2_ex {z0 z1 z2 : List Int} {g0 n0 g1 n1 g2 n2 ga : Nat} {kx : List Int} {y : List Int} {l1 : Nat} : (Hdc2 z0 z1 z2 g0 n0 g1 n1 g2 n2 ga kx y l1).ex = .normal := by kernel_rfl
theorem Hdc2_fm {z0 z1 z2 : List Int} {g0 n0 g1 n1 g2 n2 ga : Nat} {kx : List Int} {y : List Int} {l1 : Nat} : (Hdc2 z0 z1 z2 g0 n0 g1 n1 g2 n2 ga kx y l1).fm = [(1, .var 7 0), (2, .var 8 0), (6, .slice 1 0 ga 0 3 (some 3)), (7, .int .i64 3), (8, .int .i64 2), (9, .bool true)] := by kernel_rfl
theorem Hdc2_tab {z0 z1 z2 : List Int} {g0 n0 g1 n1 g2 n2 ga : Nat} {kx : List Int} {y : List Int} {l1 : Nat} : (Hdc2 z0 z1 z2 g0 n0 g1 n1 g2 n2 ga kx y l1).tab = TPc z0 z1 z2 g0 n0 g1 n1 g2 n2 ga kx y l1 := by kernel_rfl
noncomputable def Pac2 (z0 z1 z2 : List Int) (g0 n0 g1 n1 g2 n2 ga : Nat) (kx : List Int) (y : List Int) (l1 : Nat) : Out := trim 9 9 [1,2,4,6,7,8] (run eGh 30 ⟨9, []⟩ 400 (fstC x79) [(1, .var 7 0), (2, .var 8 0), (6, .slice 1 0 ga 0 3 (some 3)), (7, .int .i64 3), (8, .int .i64 2)] (TPc z0 z1 z2 g0 n0 g1 n1 g2 n2 ga kx y l1) [])
theorem Pac2_ok {z0 z1 z2 : List Int} {g0 n0 g1 n1 g2 n2 ga : Nat} {kx : List Int} {y : List Int} {l1 : Nat} (h : allP [.eqN ga ga, .eqN ga ga]) : Ok (Pac2 z0 z1 z2 g0 n0 g1 n1 g2 n2 ga kx y l1) := Ok.dem (fl := [false, true, true, false, true]) (by kernel_rfl) (by kernel_rfl) (by kernel_rfl) h
theorem Pac2_ex {z0 z1 z2 : List Int} {g0 n0 g1 n1 g2 n2 ga : Nat} {kx : List Int} {y : List Int} {l1 : Nat} : (Pac2 z0 z1 z2 g0 n0 g1 n1 g2 n2 ga kx y l1).ex = .normal := by kernel_rfl
theorem Pac2_fm {z0 z1 z2 : List Int} {g0 n0 g1 n1 g2 n2 ga : Nat} {kx : List Int} {y : List Int} {l1 : Nat} : (Pac2 z0 z1 z2 g0 n0 g1 n1 g2 n2 ga kx y l1).fm = [(1, .var 7 0), (2, .var 8 0), (4, .slice 1 3 g2 0 n2 none), (6, .slice 1 0 ga 0 3 (some 3)), (7, .int .i64 3), (8, .int .i64 2)] := by kernel_rfl
theorem Pac2_tab {z0 z1 z2 : List Int} {g0 n0 g1 n1 g2 n2 ga : Nat} {kx : List Int} {y : List Int} {l1 : Nat} : (Pac2 z0 z1 z2 g0 n0 g1 n1 g2 n2 ga kx y l1).tab = TPc z0 z1 z2 g0 n0 g1 n1 g2 n2 ga kx y l1 := by kernel_rfl
noncomputable def Pbc2 (z0 z1 z2 : List Int) (g0 n0 g1 n1 g2 n2 ga : Nat) (kx : List Int) (y : List Int) (l1 : Nat) : Out := trim 9 11 [1,2,6,7,8,13] (run eGh 30 ⟨9, []⟩ 400 (fstC (sndC x79)) ((4, .slice 1 3 g2 0 n2 none) :: [(1, .var 7 0), (2, .var 8 0), (6, .slice 1 0 ga 0 3 (some 3)), (7, .int .i64 3), (8, .int .i64 2)]) (TPc z0 z1 z2 g0 n0 g1 n1 g2 n2 ga kx y l1) [])
theorem Pbc2_ok {z0 z1 z2 : List Int} {g0 n0 g1 n1 g2 n2 ga : Nat} {kx : List Int} {y : List Int} {l1 : Nat} (h : allP [.eqN g2 g2]) : Ok (Pbc2 z0 z1 z2 g0 n0 g1 n1 g2 n2 ga kx y l1) := Ok.dem (fl := [false, true, true]) (by kernel_rfl) (by kernel_rfl) (by kernel_rfl) h
theorem Pbc2_ex {z0 z1 z2 : List Int} {g0 n0 g1 n1 g2 n2 ga : Nat} {kx : List Int} {y : List Int} {l1 : Nat} : (Pbc2 z0 z1 z2 g0 n0 g1 n1 g2 n2 ga kx y l1).ex = .normal := by kernel_rfl
theorem Pbc2_fm {z0 z1 z2 : List Int} {g0 n0 g1 n1 g2 n2 ga : Nat} {kx : List Int} {y : List Int} {l1 : Nat} : (Pbc2 z0 z1 z2 g0 n0 g1 n1 g2 n2 ga kx y l1).fm = [(1, .var 7 0), (2, .var 8 0), (6, .slice 1 0 ga 0 3 (some 3)), (7, .int .i64 3), (8, .int .i64 2), (13, .func (Fn.func 81) [] [.var 9 0, .var 10 0])] := by kernel_rfl
theorem Pbc2_tab {z0 z1 z2 : List Int} {g0 n0 g1 n1 g2 n2 ga : Nat} {kx : List Int} {y : List Int} {l1 : Nat} : (Pbc2 z0 z1 z2 g0 n0 g1 n1 g2 n2 ga kx y l1).tab = TNc2 z0 z1 z2 g0 n0 g1 n1 g2 n2 ga kx y l1 := by kernel_rfl
noncomputable def Nqc0 (z0 z1 z2 : List Int) (g0 n0 g1 n1 g2 n2 ga : Nat) (kx : List Int) (y : List Int) (l1 : Nat) (x : List Int) (fm : Fm) : Out := runOps eGh ops79.toList 30 [ops79.toList.getD 13 default] ((27, .bool true) :: fm) (((TQc0 z0 z1 z2 g0 n0 g1 n1 g2 n2 ga kx y l1 x) : Tab) ++ holes (cntA eGh [ops79.toList.getD 13 default])) ((TQc0 z0 z1 z2 g0 n0 g1 n1 g2 n2 ga kx y l1 x) : Tab).length []
theorem Nqc0_ok {z0 z1 z2 : List Int} {g0 n0 g1 n1 g2 n2 ga : Nat} {kx : List Int} {y : List Int} {l1 : Nat} {x : List Int} {fm : Fm} (h : allP []) : Ok (Nqc0 z0 z1 z2 g0 n0 g1 n1 g2 n2 ga kx y l1 x fm) := Ok.dem (fl := []) (by kernel_rfl) (by kernel_rfl) (by kernel_rfl) h
theorem Nqc0_fm {z0 z1 z2 : List Int} {g0 n0 g1 n1 g2 n2 ga : Nat} {kx : List Int} {y : List Int} {l1 : Nat} {x : List Int} {fm : Fm} : (Nqc0 z0 z1 z2 g0 n0 g1 n1 g2 n2 ga kx y l1 x fm).fm = (28, .bool false) :: (27, .bool true) :: fm := by kernel_rfl
theorem Nqc0_tab {z0 z1 z2 : List Int} {g0 n0 g1 n1 g2 n2 ga : Nat} {kx : List Int} {y : List Int} {l1 : Nat} {x : List Int} {fm : Fm} : (Nqc0 z0 z1 z2 g0 n0 g1 n1 g2 n2 ga kx y l1 x fm).tab = TQc0 z0 z1 z2 g0 n0 g1 n1 g2 n2 ga kx y l1 x := by kernel_rfl
noncomputable def Cpc0 (z0 z1 z2 : List Int) (g0 n0 g1 n1 g2 n2 ga : Nat) (kx : List Int) (y : List Int) (l1 : Nat) (x : List Int) : Out := trim 11 11 [] (run eGh 30 ⟨11, []⟩ 400 cnd79 [(28, .bool false)] (TQc0 z0 z1 z2 g0 n0 g1 n1 g2 n2 ga kx y l1 x) [])
theorem Cpc0_ok {z0 z1 z2 : List Int} {g0 n0 g1 n1 g2 n2 ga : Nat} {kx : List Int} {y : List Int} {l1 : Nat} {x : List Int} (h : allP []) : Ok (Cpc0 z0 z1 z2 g0 n0 g1 n1 g2 n2 ga kx y l1 x) := Ok.dem (fl := []) (by kernel_rfl) (by kernel_rfl) (by kernel_rfl) h
theorem Cpc0_ex {z0 z1 z2 : List Int} {g0 n0 g1 n1 g2 n2 ga : Nat} {kx : List Int} {y : List Int} {l1 : Nat} {x : List Int} : (Cpc0 z0 z1 z2 g0 n0 g1 n1 g2 n2 ga kx y l1 x).ex = .normal := by kernel_rfl
theorem Cpc0_fm {z0 z1 z2 : List Int} {g0 n0 g1 n1 g2 n2 ga : Nat} {kx : List Int} {y : List Int} {l1 : Nat} {x : List Int} : (Cpc0 z0 z1 z2 g0 n0 g1 n1 g2 n2 ga kx y l1 x).fm = [] := by kernel_rfl
theorem Cpc0_tab {z0 z1 z2 : List Int} {g0 n0 g1 n1 g2 n2 ga : Nat} {kx : List Int} {y : List Int} {l1 : Nat} {x : List Int} : (Cpc0 z0 z1 z2 g0 n0 g1 n1 g2 n2 ga kx y l1 x).tab = TNc0 z0 z1 z2 g0 n0 g1 n1 g2 n2 ga kx y l1 := by kernel_rfl
noncomputable def Ntc0 (z0 z1 z2 : List Int) (g0 n0 g1 n1 g2 n2 ga : Nat) (kx : List Int) (y : List Int) (l1 : Nat) (fm : Fm) : Out := runOps eGh ops79.toList 30 [ops79.toList.getD 13 default] ((27, .bool true) :: fm) (((TNc0 z0 z1 z2 g0 n0 g1 n1 g2 n2 ga kx y l1) : Tab) ++ holes (cntA eGh [ops79.toList.getD 13 default])) ((TNc0 z0 z1 z2 g0 n0 g1 n1 g2 n2 ga kx y l1) : Tab).length []
theorem Ntc0_ok {z0 z1 z2 : List Int} {g0 n0 g1 n1 g2 n2 ga : Nat} {kx : List Int} {y : List Int} {l1 : Nat} {fm : Fm} (h : allP []) : Ok (Ntc0 z0 z1 z2 g0 n0 g1 n1 g2 n2 ga kx y l1 fm) := Ok.dem (fl := []) (by kernel_rfl) (by kernel_rfl) (by kernel_rfl) h
theorem Ntc0_fm {z0 z1 z2 : List Int} {g0 n0 g1 n1 g2 n2 ga : Nat} {kx : List Int} {y : List Int} {l1 : Nat} {fm : Fm} : (Ntc0 z0 z1 z2 g0 n0 g1 n1 g2 n2 ga kx y l1 fm).fm = (28, .bool false) :: (27, .bool true) :: fm := by kernel_rfl
theorem Ntc0_tab {z0 z1 z2 : List Int} {g0 n0 g1 n1 g2 n2 ga : Nat} {kx : List Int} {y : List Int} {l1 : Nat} {fm : Fm} : (Ntc0 z0 z1 z2 g0 n0 g1 n1 g2 n2 ga kx y l1 fm).tab = TNc0 z0 z1 z2 g0 n0 g1 n1 g2 n2 ga kx y l1 := by kernel_rfl
noncomputable def Nuc0 (z0 z1 z2 : List Int) (g0 n0 g1 n1 g2 n2 ga : Nat) (kx : List Int) (y : List Int) (l1 : Nat) (fm : Fm) : Out := runOps eGh ops81.toList 31 (ops81.toList.drop 11) ((29, .bool true) :: fm) (((TNc0 z0 z1 z2 g0 n0 g1 n1 g2 n2 ga kx y l1) : Tab) ++ holes (cntA eGh (ops81.toList.drop 11))) ((TNc0 z0 z1 z2 g0 n0 g1 n1 g2 n2 ga kx y l1) : Tab).length []
theorem Nuc0_ok {z0 z1 z2 : List Int} {g0 n0 g1 n1 g2 n2 ga : Nat} {kx : List Int} {y : List Int} {l1 : Nat} {fm : Fm} (h : allP []) : Ok (Nuc0 z0 z1 z2 g0 n0 g1 n1 g2 n2 ga kx y l1 fm) := Ok.dem (fl := []) (by kernel_rfl) (by kernel_rfl) (by kernel_rfl) h
theorem Nuc0_fm {z0 z1 z2 : List Int} {g0 n0 g1 n1 g2 n2 ga : Nat} {kx : List Int} {y : List Int} {l1 : Nat} {fm : Fm} : (Nuc0 z0 z1 z2 g0 n0 g1 n1 g2 n2 ga kx y l1 fm).fm = (30, .bool false) :: (29, .bool true) :: fm := by kernel_rfl
theorem Nuc0_tab {z0 z1 z2 : List Int} {g0 n0 g1 n1 g2 n2 ga : Nat} {kx : List Int} {y : List Int} {l1 : Nat} {fm : Fm} : (Nuc0 z0 z1 z2 g0 n0 g1 n1 g2 n2 ga kx y l1 fm).tab = TNc0 z0 z1 z2 g0 n0 g1 n1 g2 n2 ga kx y l1 := by kernel_rfl
noncomputable def Nqc1 (z0 z1 z2 : List Int) (g0 n0 g1 n1 g2 n2 ga : Nat) (kx : List Int) (y : List Int) (l1 : Nat) (x : List Int) (fm : Fm) : Out := runOps eGh ops79.toList 30 [ops79.toList.getD 13 default] ((27, .bool true) :: fm) (((TQc1 z0 z1 z2 g0 n0 g1 n1 g2 n2 ga kx y l1 x) : Tab) ++ holes (cntA eGh [ops79.toList.getD 13 default])) ((TQc1 z0 z1 z2 g0 n0 g1 n1 g2 n2 ga kx y l1 x) : Tab).length []
theorem Nqc1_ok {z0 z1 z2 : List Int} {g0 n0 g1 n1 g2 n2 ga : Nat} {kx : List Int} {y : List Int} {l1 : Nat} {x : List Int} {fm : Fm} (h : allP []) : Ok (Nqc1 z0 z1 z2 g0 n0 g1 n1 g2 n2 ga kx y l1 x fm) := Ok.dem (fl := []) (by kernel_rfl) (by kernel_rfl) (by kernel_rfl) h
theorem Nqc1_fm {z0 z1 z2 : List Int} {g0 n0 g1 n1 g2 n2 ga : Nat} {kx : List Int} {y : List Int} {l1 : Nat} {x : List Int} {fm : Fm} : (Nqc1 z0 z1 z2 g0 n0 g1 n1 g2 n2 ga kx y l1 x fm).fm = (28, .bool false) :: (27, .bool true) :: fm := by kernel_rfl
theorem Nqc1_tab {z0 z1 z2 : List Int} {g0 n0 g1 n1 g2 n2 ga : Nat} {kx : List Int} {y : List Int} {l1 : Nat} {x : List Int} {fm : Fm} : (Nqc1 z0 z1 z2 g0 n0 g1 n1 g2 n2 ga kx y l1 x fm).tab = TQc1 z0 z1 z2 g0 n0 g1 n1 g2 n2 ga kx y l1 x := by kernel_rfl
noncomputable def Cpc1 (z0 z1 z2 : List Int) (g0 n0 g1 n1 g2 n2 ga : Nat) (kx : List Int) (y : List Int) (l1 : Nat) (x : List Int) : Out := trim 11 11 [] (run eGh 30 ⟨11, []⟩ 400 cnd79 [(28, .bool false)] (TQc1 z0 z1 z2 g0 n0 g1 n1 g2 n2 ga kx y l1 x) [])
theorem Cpc1_ok {z0 z1 z2 : List Int} {g0 n0 g1 n1 g2 n2 ga : Nat} {kx : List Int} {y : List Int} {l1 : Nat} {x : List Int} (h : allP []) : Ok (Cpc1 z0 z1 z2 g0 n0 g1 n1 g2 n2 ga kx y l1 x) := Ok.dem (fl := []) (by kernel_rfl) (by kernel_rfl) (by kernel_rfl) h
theorem Cpc1_ex {z0 z1 z2 : List Int} {g0 n0 g1 n1 g2 n2 ga : Nat} {kx : List Int} {y : List Int} {l1 : Nat} {x : List Int} : (Cpc1 z0 z1 z2 g0 n0 g1 n1 g2 n2 ga kx y l1 x).ex = .normal := by kernel_rfl
theorem Cpc1_fm {z0 z1 z2 : List Int} {g0 n0 g1 n1 g2 n2 ga : Nat} {kx : List Int} {y : List Int} {l1 : Nat} {x : List Int} : (Cpc1 z0 z1 z2 g0 n0 g1 n1 g2 n2 ga kx y l1 x).fm = [] := by kernel_rfl
theorem Cpc1_tab {z0 z1 z2 : List Int} {g0 n0 g1 n1 g2 n2 ga : Nat} {kx : List Int} {y : List Int} {l1 : Nat} {x : List Int} : (Cpc1 z0 z1 z2 g0 n0 g1 n1 g2 n2 ga kx y l1 x).tab = TNc1 z0 z1 z2 g0 n0 g1 n1 g2 n2 ga kx y l1 := by kernel_rfl
noncomputable def Ntc1 (z0 z1 z2 : List Int) (g0 n0 g1 n1 g2 n2 ga : Nat) (kx : List Int) (y : List Int) (l1 : Nat) (fm : Fm) : Out := runOps eGh ops79.toList 30 [ops79.toList.getD 13 default] ((27, .bool true) :: fm) (((TNc1 z0 z1 z2 g0 n0 g1 n1 g2 n2 ga kx y l1) : Tab) ++ holes (cntA eGh [ops79.toList.getD 13 default])) ((TNc1 z0 z1 z2 g0 n0 g1 n1 g2 n2 ga kx y l1) : Tab).length []
theorem Ntc1_ok {z0 z1 z2 : List Int} {g0 n0 g1 n1 g2 n2 ga : Nat} {kx : List Int} {y : List Int} {l1 : Nat} {fm : Fm} (h : allP []) : Ok (Ntc1 z0 z1 z2 g0 n0 g1 n1 g2 n2 ga kx y l1 fm) := Ok.dem (fl := []) (by kernel_rfl) (by kernel_rfl) (by kernel_rfl) h
theorem Ntc1_fm {z0 z1 z2 : List Int} {g0 n0 g1 n1 g2 n2 ga : Nat} {kx : List Int} {y : List Int} {l1 : Nat} {fm : Fm} : (Ntc1 z0 z1 z2 g0 n0 g1 n1 g2 n2 ga kx y l1 fm).fm = (28, .bool false) :: (27, .bool true) :: fm := by kernel_rfl
theorem Ntc1_tab {z0 z1 z2 : List Int} {g0 n0 g1 n1 g2 n2 ga : Nat} {kx : List Int} {y : List Int} {l1 : Nat} {fm : Fm} : (Ntc1 z0 z1 z2 g0 n0 g1 n1 g2 n2 ga kx y l1 fm).tab = TNc1 z0 z1 z2 g0 n0 g1 n1 g2 n2 ga kx y l1 := by kernel_rfl
noncomputable def Nuc1 (z0 z1 z2 : List Int) (g0 n0 g1 n1 g2 n2 ga : Nat) (kx : List Int) (y : List Int) (l1 : Nat) (fm : Fm) : Out := runOps eGh ops81.toList 31 (ops81.toList.drop 11) ((29, .bool true) :: fm) (((TNc1 z0 z1 z2 g0 n0 g1 n1 g2 n2 ga kx y l1) : Tab) ++ holes (cntA eGh (ops81.toList.drop 11))) ((TNc1 z0 z1 z2 g0 n0 g1 n1 g2 n2 ga kx y l1) : Tab).length []
theorem Nuc1_ok {z0 z1 z2 : List Int} {g0 n0 g1 n1 g2 n2 ga : Nat} {kx : List Int} {y : List Int} {l1 : Nat} {fm : Fm} (h : allP []) : Ok (Nuc1 z0 z1 z2 g0 n0 g1 n1 g2 n2 ga kx y l1 fm) := Ok.dem (fl := []) (by kernel_rfl) (by kernel_rfl) (by kernel_rfl) h
theorem Nuc1_fm {z0 z1 z2 : List Int} {g0 n0 g1 n1 g2 n2 ga : Nat} {kx : List Int} {y : List Int} {l1 : Nat} {fm : Fm} : (Nuc1 z0 z1 z2 g0 n0 g1 n1 g2 n2 ga kx y l1 fm).fm = (30, .bool false) :: (29, .bool true) :: fm := by kernel_rfl
theorem Nuc1_tab {z0 z1 z2 : List Int} {g0 n0 g1 n1 g2 n2 ga : Nat} {kx : List Int} {y : List Int} {l1 : Nat} {fm : Fm} : (Nuc1 z0 z1 z2 g0 n0 g1 n1 g2 n2 ga kx y l1 fm).tab = TNc1 z0 z1 z2 g0 n0 g1 n1 g2 n2 ga kx y l1 := by kernel_rfl
noncomputable def Nqc2 (z0 z1 z2 : List Int) (g0 n0 g1 n1 g2 n2 ga : Nat) (kx : List Int) (y : List Int) (l1 : Nat) (x : List Int) (fm : Fm) : Out := runOps eGh ops79.toList 30 [ops79.toList.getD 13 default] ((27, .bool true) :: fm) (((TQc2 z0 z1 z2 g0 n0 g1 n1 g2 n2 ga kx y l1 x) : Tab) ++ holes (cntA eGh [ops79.toList.getD 13 default])) ((TQc2 z0 z1 z2 g0 n0 g1 n1 g2 n2 ga kx y l1 x) : Tab).length []
theorem Nqc2_ok {z0 z1 z2 : List Int} {g0 n0 g1 n1 g2 n2 ga : Nat} {kx : List Int} {y : List Int} {l1 : Nat} {x : List Int} {fm : Fm} (h : allP []) : Ok (Nqc2 z0 z1 z2 g0 n0 g1 n1 g2 n2 ga kx y l1 x fm) := Ok.dem (fl := []) (by kernel_rfl) (by kernel_rfl) (by kernel_rfl) h
theorem Nqc2_fm {z0 z1 z2 : List Int} {g0 n0 g1 n1 g2 n2 ga : Nat} {kx : List Int} {y : List Int} {l1 : Nat} {x : List Int} {fm : Fm} : (Nqc2 z0 z1 z2 g0 n0 g1 n1 g2 n2 ga kx y l1 x fm).fm = (28, .bool false) :: (27, .bool true) :: fm := by kernel_rfl
theorem Nqc2_tab {z0 z1 z2 : List Int} {g0 n0 g1 n1 g2 n2 ga : Nat} {kx : List Int} {y : List Int} {l1 : Nat} {x : List Int} {fm : Fm} : (Nqc2 z0 z1 z2 g0 n0 g1 n1 g2 n2 ga kx y l1 x fm).tab = TQc2 z0 z1 z2 g0 n0 g1 n1 g2 n2 ga kx y l1 x := by kernel_rfl
noncomputable def Cpc2 (z0 z1 z2 : List Int) (g0 n0 g1 n1 g2 n2 ga : Nat) (kx : List Int) (y : List Int) (l1 : Nat) (x : List Int) : Out := trim 11 11 [] (run eGh 30 ⟨11, []⟩ 400 cnd79 [(28, .bool false)] (TQc2 z0 z1 z2 g0 n0 g1 n1 g2 n2 ga kx y l1 x) [])
theorem Cpc2_ok {z0 z1 z2 : List Int} {g0 n0 g1 n1 g2 n2 ga : Nat} {kx : List Int} {y : List Int} {l1 : Nat} {x : List Int} (h : allP []) : Ok (Cpc2 z0 z1 z2 g0 n0 g1 n1 g2 n2 ga kx y l1 x) := Ok.dem (fl := []) (by kernel_rfl) (by kernel_rfl) (by kernel_rfl) h
theorem Cpc2_ex {z0 z1 z2 : List Int} {g0 n0 g1 n1 g2 n2 ga : Nat} {kx : List Int} {y : List Int} {l1 : Nat} {x : List Int} : (Cpc2 z0 z1 z2 g0 n0 g1 n1 g2 n2 ga kx y l1 x).ex = .normal := by kernel_rfl
theorem Cpc2_fm {z0 z1 z2 : List Int} {g0 n0 g1 n1 g2 n2 ga : Nat} {kx : List Int} {y : List Int} {l1 : Nat} {x : List Int} : (Cpc2 z0 z1 z2 g0 n0 g1 n1 g2 n2 ga kx y l1 x).fm = [] := by kernel_rfl
theorem Cpc2_tab {z0 z1 z2 : List Int} {g0 n0 g1 n1 g2 n2 ga : Nat} {kx : List Int} {y : List Int} {l1 : Nat} {x : List Int} : (Cpc2 z0 z1 z2 g0 n0 g1 n1 g2 n2 ga kx y l1 x).tab = TNc2 z0 z1 z2 g0 n0 g1 n1 g2 n2 ga kx y l1 := by kernel_rfl
noncomputable def Ntc2 (z0 z1 z2 : List Int) (g0 n0 g1 n1 g2 n2 ga : Nat) (kx : List Int) (y : List Int) (l1 : Nat) (fm : Fm) : Out := runOps eGh ops79.toList 30 [ops79.toList.getD 13 default] ((27, .bool true) :: fm) (((TNc2 z0 z1 z2 g0 n0 g1 n1 g2 n2 ga kx y l1) : Tab) ++ holes (cntA eGh [ops79.toList.getD 13 default])) ((TNc2 z0 z1 z2 g0 n0 g1 n1 g2 n2 ga kx y l1) : Tab).length []
theorem Ntc2_ok {z0 z1 z2 : List Int} {g0 n0 g1 n1 g2 n2 ga : Nat} {kx : List Int} {y : List Int} {l1 : Nat} {fm : Fm} (h : allP []) : Ok (Ntc2 z0 z1 z2 g0 n0 g1 n1 g2 n2 ga kx y l1 fm) := Ok.dem (fl := []) (by kernel_rfl) (by kernel_rfl) (by kernel_rfl) h
theorem Ntc2_fm {z0 z1 z2 : List Int} {g0 n0 g1 n1 g2 n2 ga : Nat} {kx : List Int} {y : List Int} {l1 : Nat} {fm : Fm} : (Ntc2 z0 z1 z2 g0 n0 g1 n1 g2 n2 ga kx y l1 fm).fm = (28, .bool false) :: (27, .bool true) :: fm := by kernel_rfl
theorem Ntc2_tab {z0 z1 z2 : List Int} {g0 n0 g1 n1 g2 n2 ga : Nat} {kx : List Int} {y : List Int} {l1 : Nat} {fm : Fm} : (Ntc2 z0 z1 z2 g0 n0 g1 n1 g2 n2 ga kx y l1 fm).tab = TNc2 z0 z1 z2 g0 n0 g1 n1 g2 n2 ga kx y l1 := by kernel_rfl
noncomputable def Nuc2 (z0 z1 z2 : List Int) (g0 n0 g1 n1 g2 n2 ga : Nat) (kx : List Int) (y : List Int) (l1 : Nat) (fm : Fm) : Out := runOps eGh ops81.toList 31 (ops81.toList.drop 11) ((29, .bool true) :: fm) (((TNc2 z0 z1 z2 g0 n0 g1 n1 g2 n2 ga kx y l1) : Tab) ++ holes (cntA eGh (ops81.toList.drop 11))) ((TNc2 z0 z1 z2 g0 n0 g1 n1 g2 n2 ga kx y l1) : Tab).length []
theorem Nuc2_ok {z0 z1 z2 : List Int} {g0 n0 g1 n1 g2 n2 ga : Nat} {kx : List Int} {y : List Int} {l1 : Nat} {fm : Fm} (h : allP []) : Ok (Nuc2 z0 z1 z2 g0 n0 g1 n1 g2 n2 ga kx y l1 fm) := Ok.dem (fl := []) (by kernel_rfl) (by kernel_rfl) (by kernel_rfl) h
theorem Nuc2_fm {z0 z1 z2 : List Int} {g0 n0 g1 n1 g2 n2 ga : Nat} {kx : List Int} {y : List Int} {l1 : Nat} {fm : Fm} : (Nuc2 z0 z1 z2 g0 n0 g1 n1 g2 n2 ga kx y l1 fm).fm = (30, .bool false) :: (29, .bool true) :: fm := by kernel_rfl
theorem Nuc2_tab {z0 z1 z2 : List Int} {g0 n0 g1 n1 g2 n2 ga : Nat} {kx : List Int} {y : List Int} {l1 : Nat} {fm : Fm} : (Nuc2 z0 z1 z2 g0 n0 g1 n1 g2 n2 ga kx y l1 fm).tab = TNc2 z0 z1 z2 g0 n0 g1 n1 g2 n2 ga kx y l1 := by kernel_rfl
noncomputable def Hdc3 (z0 z1 z2 : List Int) (g0 n0 g1 n1 g2 n2 ga : Nat) (kx : List Int) (y : List Int) (l1 : Nat) : Out := trim 8 8 [9] (run eGh 30 ⟨8, []⟩ 400 hd79 [(1, .var 7 0), (2, .var 8 0), (6, .slice 1 0 ga 0 3 (some 3)), (7, .int .i64 3), (8, .int .i64 3)] (TPc z0 z1 z2 g0 n0 g1 n1 g2 n2 ga kx y l1) [none])
theorem Hdc3_ok {z0 z1 z2 : List Int} {g0 n0 g1 n1 g2 n2 ga : Nat} {kx : List Int} {y : List Int} {l1 : Nat} (h : allP []) : Ok (Hdc3 z0 z1 z2 g0 n0 g1 n1 g2 n2 ga kx y l1) := Ok.dem (fl := []) (by kernel_rfl) (by kernel_rfl) (by kernel_rfl) h
theorem Hdc3_ex {z0 z1 z2 : List Int} {g0 n0 g1 n1 g2 n2 ga : Nat} {kx : List Int} {y : List Int} {l1 : Nat} : (Hdc3 z0 z1 z2 g0 n0 g1 n1 g2 n2 ga kx y l1).ex = .normal := by kernel_rfl
theorem Hdc3_fm {z0 z1 z2 : List Int} {g0 n0 g1 n1 g2 n2 ga : Nat} {kx : List Int} {y : List Int} {l1 : Nat} : (Hdc3 z0 z1 z2 g0 n0 g1 n1 g2 n2 ga kx y l1).fm = [(9, .bool false)] := by kernel_rfl
theorem Hdc3_tab {z0 z1 z2 : List Int} {g0 n0 g1 n1 g2 n2 ga : Nat} {kx : List Int} {y : List Int} {l1 : Nat} : (Hdc3 z0 z1 z2 g0 n0 g1 n1 g2 n2 ga kx y l1).tab = TBc z0 z1 z2 g0 n0 g1 n1 g2 n2 ga kx y := by kernel_rfl
end Go.Abs
