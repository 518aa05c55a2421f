/- What functions of the given program come to, by the abstract machine: one text of a proof. -/
import Derived.Test.YtlnflmjgnmljeaaBB4
set_option linter.unusedVariables false
set_option linter.unusedSimpArgs false
set_option maxRecDepth 8000
namespace Go.Abs
open Go.Proofs.Try
theorem take4 {l : List Int} {a : Nat} (h : a + 4 ≤ l.length) : (l.drop a).take 4 = [l.getD (a + 0) 0, l.getD (a + 1) 0, l.getD (a + 2) 0, l.getD (a + 3) 0] := by
  have hl : ((l.drop a).take 4).length = 4 := by simp; omega
  have e : ∀ k, k < 4 → ((l.drop a).take 4).getD k 0 = l.getD (a + k) 0 := fun k hk => by
    simp only [List.getD_eq_getElem?_getD, List.getElem?_take, List.getElem?_drop, if_pos hk]
  match h2 : (l.drop a).take 4, hl with
  | [x0, x1, x2, x3], _ =>
    rw [h2] at e
    rw [← e 0 (by omega), ← e 1 (by omega), ← e 2 (by omega), ← e 3 (by omega)]
    rfl
def F42 (g1 : Nat) (cp : Option Nat) (m : Nat) : Fm := [(1, .slice 1 1 g1 0 256 cp), (5, .slice 1 2 (4 * m - 15) 0 (4 * m) none), (6, .int .u8 (rcLaw ((m - 1) / 4))), (7, .int .i64 m)]
def T42 (key ks : List Int) (g0 g1 : Nat) (ow0 ow1 : Bool) (m : Nat) : Tab := [some ⟨.ints .u8 ks, g0, ow0, 5⟩, some ⟨.ints .u8 BOXLaw, g1, ow1, 5⟩, some ⟨.ints .u8 (ksLaw key (4 * m)), 4 * m - 15, true, 5⟩]
theorem BOXLaw_len : BOXLaw.length = 256 := by kernel_rfl
theorem tsLaw_len (w : List Int) (m : Nat) (c : Int) : (tsLaw w m c).length = 4 := by unfold tsLaw; split <;> rfl
theorem tsLaw_bytes {w : List Int} {m : Nat} {c : Int} (hw : Bytes w) (hc : 0 ≤ c ∧ c < 256) : Bytes (tsLaw w m c) := by
  have q := fun k => boxLaw_rng (hw.get k)
  unfold tsLaw
  split
  · exact .append (.one (ixor_lt8 (q _) hc)) (.append (.one (q _)) (.append (.one (q _)) (.one (q _))))
  · exact .append (.one (hw.get _)) (.append (.one (hw.get _)) (.append (.one (hw.get _)) (.one (hw.get _))))
theorem round42 {key ks : List Int} (hk : key.length = 16) (hb : Bytes key) {g0 g1 : Nat} {ow0 ow1 : Bool} {cp : Option Nat} {m : Nat} (hm : 4 ≤ m) (hm2 : m < 44) :
    To eJ 79 3 (roundOf 0 f42) (F42 g1 cp m) (T42 key ks g0 g1 ow0 ow1 m) .normal (F42 g1 cp (m + 1)) (T42 key ks g0 g1 ow0 ow1 (m + 1)) := by
  have hc := rcLaw_lt ((m - 1) / 4)
  have hl := ksLaw_len hk (n := 4 * m) (by omega)
  have hwb := ksLaw_bytes hb (4 * m)
  have hts := ts_next hk hm 4 (Nat.le_refl _)
  have htl := tsLaw_len (ksLaw key (4 * m)) m (rcLaw ((m - 1) / 4))
  have htb := tsLaw_bytes (m := m) hwb hc
  have e1 : (4 * (m : Int) - 4).toNat = 4 * m - 4 := by omega
  have e2 : (4 * (m : Int)).toNat = 4 * m := by omega
  have e3 : subO (4 * m) (4 * m - 4) = 4 := by rw [subO_eq]; omega
  have e4 : List.take 4 (dropO (4 * m - 4) (ksLaw key (4 * m))) = [(ksLaw key (4 * m)).getD (4 * m - 4 + 0) 0, (ksLaw key (4 * m)).getD (4 * m - 4 + 1) 0, (ksLaw key (4 * m)).getD (4 * m - 4 + 2) 0, (ksLaw key (4 * m)).getD (4 * m - 4 + 3) 0] := by
    rw [dropO_eq, take4 (by omega)]
  have e5 : (m : Int).tmod 4 = ((m % 4 : Nat) : Int) := by rw [Int.tmod_eq_emod_of_nonneg (by omega)]; omega
  by_cases h0 : m % 4 = 0
  · have et : tsLaw (ksLaw key (4 * m)) m (rcLaw ((m - 1) / 4)) = [ixor (BOXLaw.getD ((ksLaw key (4 * m)).getD (4 * m - 4 + 1) 0).toNat 0) (rcLaw ((m - 1) / 4)), BOXLaw.getD ((ksLaw key (4 * m)).getD (4 * m - 4 + 2) 0).toNat 0, BOXLaw.getD ((ksLaw key (4 * m)).getD (4 * m - 4 + 3) 0).toNat 0, BOXLaw.getD ((ksLaw key (4 * m)).getD (4 * m - 4 + 0) 0).toNat 0] := by
      unfold tsLaw; rw [if_pos h0]; rfl
    refine To.of (o := A42b m (rcLaw ((m - 1) / 4)) ks BOXLaw (ksLaw key (4 * m)) g0 g1 (4 * m - 15) (4 * m) ow0 ow1 cp) eJ_ok hmA (Nat.le_refl 3) (OrcOk.cons g42b_ok (by kernel_rfl) OrcOk.nil) rfl (A42b_ok ?_) A42b_ex ?_ ?_
    · simp only [e1, e2, e3, e4, e5, List.nil_append, List.getD_cons_zero, List.getD_cons_succ]
      rw [et] at htb htl
      have b0 := hwb.get (4 * m - 4 + 0)
      have b1 := hwb.get (4 * m - 4 + 1)
      have b2 := hwb.get (4 * m - 4 + 2)
      have b3 := hwb.get (4 * m - 4 + 3)
      have n1 : nonneg .u8 (BOXLaw.getD ((ksLaw key (4 * m)).getD (4 * m - 4 + 1) 0).toNat 0) := boxLaw_rng b1
      have n2 : nonneg .u8 (rcLaw ((m - 1) / 4)) := hc
      simp only [allP, Con.h, hl, BOXLaw_len, h0, decide_eq_true_eq, eq_self, true_and, and_true, List.length_cons, List.length_nil, beq_self_eq_true, Int.natCast_zero]
      repeat' with_reducible apply And.intro
      all_goals first | exact hwb | exact htb | exact n1 | exact n2 | omega | rfl
    · rw [A42b_fm, times_two _ hc]
      unfold F42
      rw [show 4 * m - 15 + 4 = 4 * (m + 1) - 15 by omega, show (m + 1 - 1) / 4 = (m - 1) / 4 + 1 by omega]
      rfl
    · rw [A42b_tab]
      simp only [e1, e2, e3, e4, List.nil_append, List.getD_cons_zero, List.getD_cons_succ, Int.toNat_natCast]
      rw [← et, hts]
      unfold T42
      rw [show 4 * m - 15 + 4 = 4 * (m + 1) - 15 by omega]
      rfl
  · have et : tsLaw (ksLaw key (4 * m)) m (rcLaw ((m - 1) / 4)) = [(ksLaw key (4 * m)).getD (4 * m - 4 + 0) 0, (ksLaw key (4 * m)).getD (4 * m - 4 + 1) 0, (ksLaw key (4 * m)).getD (4 * m - 4 + 2) 0, (ksLaw key (4 * m)).getD (4 * m - 4 + 3) 0] := by
      unfold tsLaw; rw [if_neg h0]
    refine To.of (o := A42a m (rcLaw ((m - 1) / 4)) ks BOXLaw (ksLaw key (4 * m)) g0 g1 (4 * m - 15) (4 * m) ow0 ow1 cp) eJ_ok hmA (Nat.le_refl 3) (OrcOk.cons g42a_ok (by kernel_rfl) OrcOk.nil) rfl (A42a_ok ?_) A42a_ex ?_ ?_
    · simp only [e1, e2, e3, e4, e5, List.nil_append]
      rw [et] at htb htl
      have h0' : (((m % 4 : Nat) : Int) == 0) = false := by simp; omega
      simp only [allP, Con.h, hl, h0', decide_eq_true_eq, eq_self, true_and, and_true, List.length_cons, List.length_nil]
      repeat' with_reducible apply And.intro
      all_goals first | exact hwb | exact htb | omega | rfl
    · rw [A42a_fm]
      unfold F42
      rw [show 4 * m - 15 + 4 = 4 * (m + 1) - 15 by omega, show (m + 1 - 1) / 4 = (m - 1) / 4 by omega]
      rfl
    · rw [A42a_tab]
      simp only [e1, e2, e3, e4, List.nil_append, Int.toNat_natCast]
      rw [← et, hts]
      unfold T42
      rw [show 4 * m - 15 + 4 = 4 * (m + 1) - 15 by omega]
      rfl
theorem loop42 {key ks : List Int} (hk : key.length = 16) (hb : Bytes key) {g0 g1 : Nat} {ow0 ow1 : Bool} {cp : Option Nat} :
    To eJ 79 3 (.block 0 (.loop (roundOf 0 f42))) (F42 g1 cp 4) (T42 key ks g0 g1 ow0 ow1 4) .normal [(5, .slice 1 2 161 0 176 none)] (T42 key ks g0 g1 ow0 ow1 44) :=
  To.rounds (fun j => F42 g1 cp (4 + j)) (fun j => T42 key ks g0 g1 ow0 ow1 (4 + j)) 40 (fun j hj => round42 hk hb (by omega) (by omega))
    (To.of (o := B42 (44 : Nat) (rcLaw 10) ks BOXLaw (ksLaw key 176) g0 g1 161 176 ow0 ow1 cp) eJ_ok hmA (Nat.le_refl 3) OrcOk.nil rfl (B42_ok (by simp [allP, Con.h])) B42_ex B42_fm B42_tab)
def g42 : List AVal → Tab → Out := fun vs T => match vs, T with
  | [.slice 1 1 g1 0 256 cp, .slice 1 2 g 0 n none, .int .u8 c, .int .i64 i], [some ⟨.ints .u8 ks, g0, ow0, 5⟩, some ⟨.ints .u8 bx, g1', ow1, 5⟩, some ⟨.ints .u8 xs, g', true, 5⟩] =>
    ⟨[.eqN g1 g1', .eqN g 1, .eqN g' 1, .eqN n 16, .rng 1 c 1, .rng 4 i 4, .p (bx = BOXLaw), .p (xs.length = 16 ∧ Bytes xs)], .normal, [(5, .slice 1 2 161 0 176 none)],
      [some ⟨.ints .u8 ks, g0, ow0, 5⟩, some ⟨.ints .u8 bx, g1', ow1, 5⟩, some ⟨.ints .u8 (ksLaw xs 176), 161, true, 5⟩], []⟩
  | _, _ => failO
theorem g42_ok : BlkOk eJ f42 0 (.loop (roundOf 0 f42)) (blkS 3 [1,5,6,7] g42) := by
  refine blkS_ok fun vs T h => ?_
  unfold g42 at h ⊢
  split at h
  · rename_i g1 cp g n c i ks g0 ow0 bx g1' ow1 xs g'
    obtain ⟨h1, h2, h3, h4, h5, h6, h7, h8, _⟩ := h.h
    simp only [Con.h] at h1 h2 h3 h4 h5 h6 h7 h8
    obtain rfl : c = 1 := by omega
    obtain rfl : i = 4 := by omega
    subst h1 h2 h3 h4 h7
    exact loop42 h8.1 h8.2
  · exact absurd h nofailO
noncomputable def orc42 : OrcL := [(0, blkS 3 [1,5,6,7] g42)]
theorem orc42_ok : FnOrc eJ f42 orc42 := FnOrc.cons g42_ok (by kernel_rfl) FnOrc.nil
noncomputable def R42 (bx ks : List Int) (g0 g1 off : Nat) (cp cp1 : Option Nat) (ow0 ow1 : Bool) : Res := runF eJ f42 orc42 400 [.slice 1 0 g0 off 16 cp, .slice 1 1 g1 0 256 cp1] [some ⟨.ints .u8 ks, g0, ow0, 5⟩, some ⟨.ints .u8 bx, g1, ow1, 5⟩] []
theorem R42_ok {bx ks : List Int} {g0 g1 off : Nat} {cp cp1 : Option Nat} {ow0 ow1 : Bool} (h : allP [Con.eqN g0 g0, Con.leN (off + 16) ks.length, Con.eqN g1 g1, Con.p (bx = BOXLaw),
    Con.p (([] ++ List.take 16 (dropO off ks)).length = 16 ∧ Bytes ([] ++ List.take 16 (dropO off ks)))]) : OkR (R42 bx ks g0 g1 off cp cp1 ow0 ow1) := OkR.dem (fl := [true, true, true, true, false, false, true, false, true, true, true, true, true, false, false]) (by kernel_rfl) (by kernel_rfl) (by kernel_rfl) h
theorem R42_val {bx ks : List Int} {g0 g1 off : Nat} {cp cp1 : Option Nat} {ow0 ow1 : Bool} : (R42 bx ks g0 g1 off cp cp1 ow0 ow1).val = AVal.slice 1 2 161 0 176 none := by kernel_rfl
theorem R42_tab {bx ks : List Int} {g0 g1 off : Nat} {cp cp1 : Option Nat} {ow0 ow1 : Bool} : (R42 bx ks g0 g1 off cp cp1 ow0 ow1).tab = [some { data := AVal.ints IntKind.u8 ks, g := g0, own := ow0, et := 5 },
    some { data := AVal.ints IntKind.u8 bx, g := g1, own := ow1, et := 5 },
    some
      { data := AVal.ints IntKind.u8 (ksLaw ([] ++ List.take 16 (dropO off ks)) 176), g := 161, own := true, et := 5 }] := by kernel_rfl
end Go.Abs
