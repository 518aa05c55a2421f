/- What functions of the given program come to, by the abstract machine: one text of a proof. -/
import Derived.Test.YtlnflmjgnmljeaaBB2
set_option linter.unusedVariables false
set_option linter.unusedSimpArgs false
set_option maxRecDepth 8000
namespace Go.Abs
open Go.Proofs.Try
def subLaw (zs : List Int) (off n : Nat) : List Int := (zs.drop off).take n
theorem subLaw_len {zs : List Int} {off n : Nat} (h : off + n ≤ zs.length) : (subLaw zs off n).length = n := by simp [subLaw]; omega
theorem over16t (zs l : List Int) (h : l.length = 16) : List.take 16 (over zs 0 l) = l := by
  unfold over
  rw [List.take_zero, List.nil_append, List.take_append_of_le_length (by omega), List.take_of_length_le (by omega)]
theorem over16' (zs l : List Int) (h : l.length = 16) (hz : zs.drop 16 = List.replicate 160 0) (hb : Bytes l) : (List.take 16 (over zs 0 l)).length = 16 ∧ Bytes (List.take 16 (over zs 0 l)) ∧ List.drop 16 (over zs 0 l) = List.replicate 160 0 := by
  rw [over16t zs l h]
  refine ⟨h, hb, ?_⟩
  unfold over
  rw [List.take_zero, List.nil_append, Nat.zero_add, h, List.drop_append_of_le_length (by omega), List.drop_of_length_le (by omega), List.nil_append, hz]
def sm41 : Summary := fun args T => match args, T with
  | [.var 0 g, .slice 1 1 g' off 16 cp], [some ⟨.ints .u8 tb, gg, ow, 72⟩, some ⟨.ints .u8 ks, gg', ow', 5⟩] =>
    ⟨[.eqN g gg, .eqN g' gg', .leN (off + 16) ks.length, .p (tb = TABLaw), .p (Bytes (subLaw ks off 16))], .ints .u8 (ksLaw (subLaw ks off 16) 176), [some ⟨.ints .u8 tb, gg, ow, 72⟩, some ⟨.ints .u8 ks, gg', ow', 5⟩]⟩
  | _, _ => fail
theorem sm41_ok : SmOk prog (fun _ => none) 41 sm41 := by
  intro args T hc
  unfold sm41 at hc ⊢
  split at hc
  · rename_i g g' off cp tb gg ow ks gg' ow'
    obtain ⟨h1, h2, h3, h4, h5, _⟩ := hc
    simp only [Con.h] at h1 h2 h3 h4 h5
    subst h1 h2 h4
    have hl := subLaw_len h3
    have hl' : (List.take 16 (dropO off ks)).length = 16 := by rw [dropO_eq]; exact hl
    have hb' : Bytes (List.take 16 (dropO off ks)) := by rw [dropO_eq]; exact h5
    have h := small_of (R := R41 TABLaw ks g g' off cp ow ow') eH_ok hmA (f := 41) (fn := f41) (by kernel_rfl) (by kernel_rfl) orc41_ok rfl (R41_ok ?_) (R41_val.trans (by rw [over16t _ _ hl'])) R41_tab
    · have h2 := small_drop h
      rw [dropO_eq] at h2
      exact h2
    · refine ⟨rfl, h3, rfl, rfl, over16' _ _ hl' ?_ hb', ?_⟩
      · kernel_rfl
      · rw [over16t _ _ hl']
        have hk := ksLaw_len hl' (n := 176) (by omega)
        simp only [allP, Con.h, hk, and_true]
  · exact absurd hc nofail
def S41 : Summary := callR sm41 []
theorem S41_ok : SumOk prog (fun _ => none) 41 S41 := callR_ok sm41_ok []
noncomputable def eI : Env := eA [(40, S40), (41, S41)]
theorem eI_ok : EnvOk eI := envOf_ok tysA_ok (SumsOk.cons (fn := f40) S40_ok (by kernel_rfl) (by kernel_rfl) (by kernel_rfl) (SumsOk.cons (fn := f41) S41_ok (by kernel_rfl) (by kernel_rfl) (by kernel_rfl) trivial))
end Go.Abs
