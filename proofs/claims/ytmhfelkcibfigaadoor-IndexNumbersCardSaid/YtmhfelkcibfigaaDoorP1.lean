/- What functions of the given program come to, by the abstract machine: texts of a proof. -/
import Derived.Test.YtmhfelkcibfigaaDoorP0
set_option linter.unusedVariables false
set_option linter.unusedSimpArgs false
set_option maxRecDepth 100000
set_option maxHeartbeats 4000000
namespace Go.Abs
open Go.Proofs Go.Proofs.Tryd
/-! ### IndexNumbers: the end -/
def domN : List (Int × Int) := ([0, 1, 2, 3, 4, 5, 6, 7, 8, 9] : List Nat).flatMap fun (l : Nat) => (List.range 80).map fun (c : Nat) => ((l : Int) - 1, (c : Int) - 1)
def domN1 : List (Int × Int) := ([0, 1] : List Nat).flatMap fun (l : Nat) => (List.range 2).map fun (c : Nat) => ((l : Int) - 1, (c : Int) - 1)
noncomputable def tail4 (p : Int × Int) : Out := frI p.1 fun l => frI p.2 fun c => trim 0 0 [6] (run eNc 81 ⟨0, orc4⟩ 400 (backC 3 (backC 3 (bodyOf f4))) [(1, .int .i64 l), (2, .int .i64 c), (8, .int .i64 (-1))] [] [])
theorem fin4_0 : ((List.range 80).map fun (c : Nat) => fin3o (tail4 ((0 : Int) - 1, (c : Int) - 1))) = mapR (fun (c : Nat) => (true, .ret, [(6, .bool true)], [])) (List.range 80) := by kernel_rfl
theorem fin4_1 : ((List.range 80).map fun (c : Nat) => fin3o (tail4 ((1 : Int) - 1, (c : Int) - 1))) = mapR (fun (c : Nat) => (true, .ret, [(6, .bool true)], [])) (List.range 80) := by kernel_rfl
theorem fin4_2 : ((List.range 80).map fun (c : Nat) => fin3o (tail4 ((2 : Int) - 1, (c : Int) - 1))) = mapR (fun (c : Nat) => (true, .ret, [(6, .bool true)], [])) (List.range 80) := by kernel_rfl
theorem fin4_3 : ((List.range 80).map fun (c : Nat) => fin3o (tail4 ((3 : Int) - 1, (c : Int) - 1))) = mapR (fun (c : Nat) => (true, .ret, [(6, .bool true)], [])) (List.range 80) := by kernel_rfl
theorem fin4_4 : ((List.range 80).map fun (c : Nat) => fin3o (tail4 ((4 : Int) - 1, (c : Int) - 1))) = mapR (fun (c : Nat) => (true, .ret, [(6, .bool true)], [])) (List.range 80) := by kernel_rfl
theorem fin4_5 : ((List.range 80).map fun (c : Nat) => fin3o (tail4 ((5 : Int) - 1, (c : Int) - 1))) = mapR (fun (c : Nat) => (true, .ret, [(6, .bool true)], [])) (List.range 80) := by kernel_rfl
theorem fin4_6 : ((List.range 80).map fun (c : Nat) => fin3o (tail4 ((6 : Int) - 1, (c : Int) - 1))) = mapR (fun (c : Nat) => (true, .ret, [(6, .bool true)], [])) (List.range 80) := by kernel_rfl
theorem fin4_7 : ((List.range 80).map fun (c : Nat) => fin3o (tail4 ((7 : Int) - 1, (c : Int) - 1))) = mapR (fun (c : Nat) => (true, .ret, [(6, .bool true)], [])) (List.range 80) := by kernel_rfl
theorem fin4_8 : ((List.range 80).map fun (c : Nat) => fin3o (tail4 ((8 : Int) - 1, (c : Int) - 1))) = mapR (fun (c : Nat) => (true, .ret, [(6, .bool true)], [])) (List.range 80) := by kernel_rfl
theorem fin4_9 : ((List.range 80).map fun (c : Nat) => fin3o (tail4 ((9 : Int) - 1, (c : Int) - 1))) = mapR (fun (c : Nat) => (true, .ret, [(6, .bool true)], [])) (List.range 80) := by kernel_rfl
end Go.Abs

set_option linter.unusedVariables false
set_option linter.unusedSimpArgs false
set_option maxRecDepth 100000
set_option maxHeartbeats 4000000
namespace Go.Abs
open Go.Proofs Go.Proofs.Tryd
/-! ### IndexNumbers: the law -/
theorem SRel.env {E E' : Env} (hg : E.gl = E'.gl) {D : List Deferred} {ν : Nu} {fm : Fm} {T : Tab} {n : Nat} {a : Act} {w : World} (h : SRel E D ν fm T n a w) : SRel E' D ν fm T n a w := ⟨hg ▸ h.hr, h.fm, h.size, h.defers⟩
theorem AWp.env {E E' : Env} (hP : E.P = E'.P) (hg : E.gl = E'.gl) {n k : Nat} {c : Code} {fm : Fm} {T : Tab} {post : AExit → Fm → Tab → Prop} (h : AWp E n k c fm T post) : AWp E' n k c fm T post := by
  intro rr D ν a w hs hrd
  have h1 := h rr D ν a w (hs.env hg.symm) hrd
  rw [hP] at h1
  refine wpIn_mono h1 fun e a' w' ⟨ex, fm', T', ν', e1, e2, ⟨ms, s1, m1⟩, e4, e5⟩ => ⟨ex, fm', T', ν', e1, e2, ⟨ms, s1.env hg, m1⟩, e4, e5⟩
theorem fin3o_ok {o : Out} {ex : AExit} {fm : Fm} {T : Tab} (h : fin3o o = (true, ex, fm, T)) : Ok o ∧ o.ex = ex ∧ o.fm = fm ∧ o.tab = T := by
  obtain ⟨cs, ex', fm', T', ds⟩ := o
  simp only [fin3o, Prod.mk.injEq] at h
  exact ⟨⟨clo_ok h.1⟩, h.2.1, h.2.2.1, h.2.2.2⟩
theorem tail_of {l c : Int} (h : fin3o (tail4 (l, c)) = (true, .ret, [(6, .bool true)], [])) : To eNc 81 0 (backC 3 (backC 3 (bodyOf f4))) [(1, .int .i64 l), (2, .int .i64 c), (8, .int .i64 (-1))] [] .ret [(6, .bool true)] [] := by
  unfold tail4 at h
  rw [frI_eq, frI_eq] at h
  obtain ⟨h1, h2, h3, h4⟩ := fin3o_ok h
  exact To.of eNc_ok hmI (Nat.le_refl 0) (OrcOk.back 3 (OrcOk.back 3 (orc4_ok 0))) rfl h1 h2 h3 h4
theorem fin_at {k : Int} (h : ((List.range 80).map fun (c : Nat) => fin3o (tail4 (k - 1, (c : Int) - 1))) = mapR (fun (c : Nat) => (true, .ret, [(6, .bool true)], [])) (List.range 80)) {l c : Int} (hl : l = k - 1) (h0 : -1 ≤ c) (h1 : c ≤ 78) : fin3o (tail4 (l, c)) = (true, .ret, [(6, .bool true)], []) := by
  rw [mapR_eq] at h
  have h2 := List.map_inj_left.1 h (c + 1).toNat (List.mem_range.2 (by omega))
  subst hl
  rwa [show (((c + 1).toNat : Nat) : Int) - 1 = c by omega] at h2
theorem tail {l c : Int} (g0 : -1 ≤ l) (g1 : l ≤ 8) (h0 : -1 ≤ c) (h1 : c ≤ 78) : To eNc 81 0 (backC 3 (backC 3 (bodyOf f4))) [(1, .int .i64 l), (2, .int .i64 c), (8, .int .i64 (-1))] [] .ret [(6, .bool true)] [] := by
  refine tail_of ?_
  have hl : l = 0 - 1 ∨ l = 1 - 1 ∨ l = 2 - 1 ∨ l = 3 - 1 ∨ l = 4 - 1 ∨ l = 5 - 1 ∨ l = 6 - 1 ∨ l = 7 - 1 ∨ l = 8 - 1 ∨ l = 9 - 1 := by omega
  rcases hl with hl | hl | hl | hl | hl | hl | hl | hl | hl | hl
  · exact fin_at fin4_0 hl h0 h1
  · exact fin_at fin4_1 hl h0 h1
  · exact fin_at fin4_2 hl h0 h1
  · exact fin_at fin4_3 hl h0 h1
  · exact fin_at fin4_4 hl h0 h1
  · exact fin_at fin4_5 hl h0 h1
  · exact fin_at fin4_6 hl h0 h1
  · exact fin_at fin4_7 hl h0 h1
  · exact fin_at fin4_8 hl h0 h1
  · exact fin_at fin4_9 hl h0 h1

theorem rest4 {l c : Int} : AWp eNc 81 0 (backC 3 (bodyOf f4)) [(1, .int .i64 l), (2, .int .i64 c)] [] fun ex fm T => ex = .ret ∧ fm = [(6, .bool true)] ∧ T = [] := by
  have h1 := norm_rng (x := l) (m := 10) (by omega)
  have h2 := norm_rng (x := c) (m := 80) (by omega)
  have q1 := Int.lt_tmod_of_pos l (show (0 : Int) < 10 by omega)
  have q2 := Int.tmod_lt_of_pos l (show (0 : Int) < 10 by omega)
  have q3 := Int.lt_tmod_of_pos c (show (0 : Int) < 80 by omega)
  have q4 := Int.tmod_lt_of_pos c (show (0 : Int) < 80 by omega)
  refine AWp.cutT eNc_ok hmI 3 (o := N4b l c) rfl (N4b_ok ?_) N4b_ex ?_
  · simp only [allP, Con.h, and_true]
    omega
  · rw [N4b_fm, N4b_tab]
    exact tail (by omega) (by omega) (by omega) (by omega)
theorem law4 {x l c : Int} : Small prog glI 4 [.int .i64 x, .int .i64 l, .int .i64 c] [] (.bool true) [] := by
  refine small_of_awp (E := eNc) (f := 4) eNc_ok (fn := f4) (c := bodyOf f4) (by kernel_rfl) (by kernel_rfl) (by kernel_rfl) ?_
  have rest : AWp eNc 81 0 (backC 3 (bodyOf f4)) [(1, .int .i64 l), (2, .int .i64 c)] [] fun ex fm T => (ex = .normal ∨ ex = .ret) ∧ T = [] ∧ ∃ cs us, aRes eNc fm T f4.results.toList = some (cs, us) ∧ allP cs ∧ retV us = .bool true := by
    refine AWp.mono rest4 ?_
    rintro ex fm T ⟨rfl, rfl, rfl⟩
    exact ⟨.inr rfl, rfl, _, _, rfl, trivial, rfl⟩
  show AWp eNc 81 0 (bodyOf f4) [(0, .int .i64 x), (1, .int .i64 l), (2, .int .i64 c)] [] (fun ex fm T => (ex = .normal ∨ ex = .ret) ∧ T = [] ∧ ∃ cs us, aRes eNc fm T f4.results.toList = some (cs, us) ∧ allP cs ∧ retV us = .bool true)
  by_cases h0 : x < 0
  · refine AWp.env (E := eNl) (E' := eNc) rfl rfl (AWp.cutT eNl_ok hmI 3 (o := N4l x l c) rfl (N4l_ok (by simp only [allP, Con.h, decide_eq_true_eq, and_true]; omega)) N4l_ex ?_)
    rw [N4l_fm, N4l_tab]
    exact AWp.env (E := eNc) (E' := eNl) rfl rfl rest
  · by_cases h1 : 127 ≤ x
    · refine AWp.env (E := eNh) (E' := eNc) rfl rfl (AWp.cutT eNh_ok hmI 3 (o := N4h x l c) rfl (N4h_ok (by simp only [allP, Con.h, decide_eq_true_eq, decide_eq_false_iff_not, and_true]; omega)) N4h_ex ?_)
      rw [N4h_fm, N4h_tab]
      exact AWp.env (E := eNc) (E' := eNh) rfl rfl rest
    · have hf := fin4i l c
      rw [mapR_eq] at hf
      obtain ⟨e1, e2, e3, e4⟩ := fin3o_ok (List.map_inj_left.1 hf x (dom127_mem (by omega) (by omega)))
      refine AWp.env (E := eNi) (E' := eNc) rfl rfl (AWp.cutT eNi_ok hmI 3 rfl e1 e2 ?_)
      rw [e3, e4]
      exact AWp.env (E := eNc) (E' := eNi) rfl rfl rest
end Go.Abs
