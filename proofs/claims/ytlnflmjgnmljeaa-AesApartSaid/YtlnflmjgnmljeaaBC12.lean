/- What functions of the given program come to, by the abstract machine: one text of a proof. -/
import Derived.Test.YtlnflmjgnmljeaaBC9
import Derived.Test.YtlnflmjgnmljeaaBC11
set_option linter.unusedVariables false
set_option linter.unusedSimpArgs false
set_option maxRecDepth 8000
namespace Go.Abs
open Go.Proofs.Try
def sixLaw (zs : List Int) (n : Nat) : List Int := over (List.replicate 16 0) 0 (List.take (if n ≤ 16 then n else 16) zs)
def minLaw (n : Nat) : Nat := if n ≤ 16 then n else 16
theorem minLaw_le (n : Nat) : minLaw n ≤ 16 ∧ minLaw n ≤ n := by unfold minLaw; split <;> omega
theorem sixLaw_eq {zs : List Int} {n : Nat} (h : n ≤ zs.length) : sixLaw zs n = List.take (minLaw n) zs ++ List.replicate (16 - minLaw n) 0 := by
  have := minLaw_le n
  show over _ 0 (List.take (minLaw n) zs) = _
  unfold over
  rw [List.take_zero, List.nil_append, Nat.zero_add, List.length_take, Nat.min_eq_left (by omega), List.drop_replicate]
theorem sixLaw_len {zs : List Int} {n : Nat} (h : n ≤ zs.length) : (sixLaw zs n).length = 16 := by
  have := minLaw_le n
  rw [sixLaw_eq h, List.length_append, List.length_take, List.length_replicate]; omega
theorem Bytes.zeros (n : Nat) : Bytes (List.replicate n 0) := fun i hi => by
  rw [List.getD_eq_getElem?_getD, List.getElem?_replicate]; split <;> decide
theorem sixLaw_bytes {zs : List Int} {n : Nat} (h : n ≤ zs.length) (hb : Bytes zs) : Bytes (sixLaw zs n) := by
  rw [sixLaw_eq h]; exact (hb.take _).append (Bytes.zeros _)
def sm27 : Summary := fun args T => match args, T with
  | [.slice 1 0 g 0 n cp], [some ⟨.ints .u8 zs, g', ow, 5⟩] => ⟨[.eqN g g', .leN n zs.length], .slice 1 1 0 0 16 (some 16), [some ⟨.ints .u8 zs, g', ow, 5⟩, some ⟨.ints .u8 (sixLaw zs n), 0, true, 5⟩]⟩
  | _, _ => fail
theorem sm27_ok : SmOk prog (fun _ => none) 27 sm27 := by
  intro args T hc
  unfold sm27 at hc ⊢
  split at hc
  · rename_i g n cp zs g' ow
    obtain ⟨h1, h2, _⟩ := hc
    simp only [Con.h] at h1 h2
    subst h1
    refine small_of (R := R27 zs g 0 n cp ow) eA0_ok hmA (f := 27) (fn := f27) (by kernel_rfl) (by kernel_rfl) FnOrc.nil rfl (R27_ok ?_) R27_val (by rw [R27_tab, dropO_eq]; rfl)
    simp only [allP, Con.h, eq_self, true_and, and_true]
    omega
  · exact absurd hc nofail
def S27 : Summary := callR sm27 []
theorem S27_ok : SumOk prog (fun _ => none) 27 S27 := callR_ok sm27_ok []
noncomputable def eT : Env := eA [(17, S17), (21, S21), (23, S23), (25, S25), (27, S27)]
theorem eT_ok : EnvOk eT := envOf_ok tysA_ok (SumsOk.cons (fn := f17) S17_ok (by kernel_rfl) (by kernel_rfl) (by kernel_rfl) (SumsOk.cons (fn := f21) S21_ok (by kernel_rfl) (by kernel_rfl) (by kernel_rfl) (SumsOk.cons (fn := f23) S23_ok (by kernel_rfl) (by kernel_rfl) (by kernel_rfl) (SumsOk.cons (fn := f25) S25_ok (by kernel_rfl) (by kernel_rfl) (by kernel_rfl) (SumsOk.cons (fn := f27) S27_ok (by kernel_rfl) (by kernel_rfl) (by kernel_rfl) trivial)))))
noncomputable def R6 (zs bs : List Int) (n m : Nat) : Res := resG 2 [0,1] (runF eT f6 [] 400 [.slice 1 0 0 0 n (some zs.length), .slice 1 1 0 0 m (some bs.length)] [some ⟨.ints .u8 zs, 0, false, 5⟩, some ⟨.ints .u8 bs, 0, false, 5⟩] [some true, some true, some true, some true])
theorem R6_ok {zs bs : List Int} {n m : Nat} (h : allP [Con.leN n zs.length, Con.leN m bs.length, Con.leN 16 (sixLaw zs n).length, Con.leN 16 (sixLaw bs m).length,
    Con.p (Bytes (subLaw (sixLaw zs n) 0 16)), Con.p (Bytes (subLaw (sixLaw bs m) 0 16)),
    Con.leN 16 (sixLaw zs n).length, Con.p (Bytes (subLaw (sixLaw zs n) 0 16)),
    Con.p (Bytes (subLaw (blockLaw (ksLaw (subLaw (sixLaw zs n) 0 16) 176) (subLaw (sixLaw bs m) 0 16)) 0 16)),
    Con.leN 16 (sixLaw zs n).length, Con.leN 16 (sixLaw bs m).length, Con.p (Bytes (subLaw (sixLaw zs n) 0 16)),
    Con.p (Bytes (subLaw (sixLaw bs m) 0 16)), Con.leN 16 (sixLaw zs n).length,
    Con.p (Bytes (subLaw (sixLaw zs n) 0 16)),
    Con.p (Bytes (subLaw (unblockLaw (ksLaw (subLaw (sixLaw zs n) 0 16) 176) (subLaw (sixLaw bs m) 0 16)) 0 16)),
    Con.p (true = true), Con.leN 16 (sixLaw bs m).length,
    Con.p
      ((List.map byteOf
            (List.take 16
              (unblockLaw (ksLaw (subLaw (sixLaw zs n) 0 16) 176)
                (subLaw (blockLaw (ksLaw (subLaw (sixLaw zs n) 0 16) 176) (subLaw (sixLaw bs m) 0 16)) 0 16))) ==
          List.map byteOf (List.take 16 (sixLaw bs m))) =
        true),
    Con.leN 16 (sixLaw bs m).length,
    Con.p
      ((List.map byteOf
            (List.take 16
              (blockLaw (ksLaw (subLaw (sixLaw zs n) 0 16) 176)
                (subLaw (unblockLaw (ksLaw (subLaw (sixLaw zs n) 0 16) 176) (subLaw (sixLaw bs m) 0 16)) 0 16))) ==
          List.map byteOf (List.take 16 (sixLaw bs m))) =
        true),
    Con.p (true = true)]) : OkR (R6 zs bs n m) := OkR.dem (fl := [true, true, false, true, true, false, true, true, true, true, false, false, false, false, true, true, true, true,
    false, true, false, false, true, true, true, true, false, false, false, false, true, true, true, true, false, true,
    false, false, true, true, true, false, true, true, true, false, false, true, true, true, false, false, false]) (by kernel_rfl) (by kernel_rfl) (by kernel_rfl) h
theorem R6_val {zs bs : List Int} {n m : Nat} : (R6 zs bs n m).val = AVal.bool true := by kernel_rfl
theorem R6_tab {zs bs : List Int} {n m : Nat} : (R6 zs bs n m).tab = [some { data := AVal.ints IntKind.u8 zs, g := 0, own := false, et := 5 },
    some { data := AVal.ints IntKind.u8 bs, g := 0, own := false, et := 5 }] := by kernel_rfl
noncomputable def R7a (zs bs cs : List Int) (n m k : Nat) : Res := resG 3 [0,1,2] (runF eT f7 [] 400 [.slice 1 0 0 0 n (some zs.length), .slice 1 1 0 0 m (some bs.length), .slice 1 2 0 0 k (some cs.length)] [some ⟨.ints .u8 zs, 0, false, 5⟩, some ⟨.ints .u8 bs, 0, false, 5⟩, some ⟨.ints .u8 cs, 0, false, 5⟩] [some true, some true, some true, some true, some true, some true, some true])
theorem R7a_ok {zs bs cs : List Int} {n m k : Nat} (h : allP [Con.leN n zs.length, Con.leN m bs.length, Con.leN k cs.length, Con.leN 16 (sixLaw zs n).length,
    Con.leN 16 (sixLaw bs m).length, Con.p (Bytes (subLaw (sixLaw zs n) 0 16)),
    Con.p (Bytes (subLaw (sixLaw bs m) 0 16)), Con.leN 16 (sixLaw zs n).length, Con.leN 16 (sixLaw cs k).length,
    Con.p (Bytes (subLaw (sixLaw zs n) 0 16)), Con.p (Bytes (subLaw (sixLaw cs k) 0 16)),
    Con.leN 16 (sixLaw zs n).length, Con.leN 16 (sixLaw bs m).length, Con.p (Bytes (subLaw (sixLaw zs n) 0 16)),
    Con.p (Bytes (subLaw (sixLaw bs m) 0 16)), Con.leN 16 (sixLaw zs n).length, Con.leN 16 (sixLaw cs k).length,
    Con.p (Bytes (subLaw (sixLaw zs n) 0 16)), Con.p (Bytes (subLaw (sixLaw cs k) 0 16)),
    Con.leN 16 (sixLaw bs m).length, Con.leN 16 (sixLaw cs k).length,
    Con.p ((List.map byteOf (List.take 16 (sixLaw bs m)) == List.map byteOf (List.take 16 (sixLaw cs k))) = true),
    Con.p (true = true),
    Con.p
      ((List.map byteOf (List.take 16 (blockLaw (ksLaw (subLaw (sixLaw zs n) 0 16) 176) (subLaw (sixLaw bs m) 0 16))) ==
          List.map byteOf
            (List.take 16 (blockLaw (ksLaw (subLaw (sixLaw zs n) 0 16) 176) (subLaw (sixLaw cs k) 0 16)))) =
        true),
    Con.p (true = true),
    Con.p
      ((List.map byteOf
            (List.take 16 (unblockLaw (ksLaw (subLaw (sixLaw zs n) 0 16) 176) (subLaw (sixLaw bs m) 0 16))) ==
          List.map byteOf
            (List.take 16 (unblockLaw (ksLaw (subLaw (sixLaw zs n) 0 16) 176) (subLaw (sixLaw cs k) 0 16)))) =
        true),
    Con.p (true = true), Con.p (true = true)]) : OkR (R7a zs bs cs n m k) := OkR.dem (fl := [true, true, false, true, true, false, true, true, false, true, true, true, true, false, false, false, false, true,
    true, true, true, false, false, false, false, true, true, true, true, false, false, false, false, true, true, true,
    true, false, false, false, false, true, false, true, false, false, true, true, true, false, true, true, true, true,
    false, false, true, true, true, true, false, false, false]) (by kernel_rfl) (by kernel_rfl) (by kernel_rfl) h
theorem R7a_val {zs bs cs : List Int} {n m k : Nat} : (R7a zs bs cs n m k).val = AVal.bool true := by kernel_rfl
theorem R7a_tab {zs bs cs : List Int} {n m k : Nat} : (R7a zs bs cs n m k).tab = [some { data := AVal.ints IntKind.u8 zs, g := 0, own := false, et := 5 },
    some { data := AVal.ints IntKind.u8 bs, g := 0, own := false, et := 5 },
    some { data := AVal.ints IntKind.u8 cs, g := 0, own := false, et := 5 }] := by kernel_rfl
noncomputable def R7b (zs bs cs : List Int) (n m k : Nat) : Res := resG 3 [0,1,2] (runF eT f7 [] 400 [.slice 1 0 0 0 n (some zs.length), .slice 1 1 0 0 m (some bs.length), .slice 1 2 0 0 k (some cs.length)] [some ⟨.ints .u8 zs, 0, false, 5⟩, some ⟨.ints .u8 bs, 0, false, 5⟩, some ⟨.ints .u8 cs, 0, false, 5⟩] [some false, some true, some false, some true, some false, some true, some true])
theorem R7b_ok {zs bs cs : List Int} {n m k : Nat} (h : allP [Con.leN n zs.length, Con.leN m bs.length, Con.leN k cs.length, Con.leN 16 (sixLaw zs n).length,
    Con.leN 16 (sixLaw bs m).length, Con.p (Bytes (subLaw (sixLaw zs n) 0 16)),
    Con.p (Bytes (subLaw (sixLaw bs m) 0 16)), Con.leN 16 (sixLaw zs n).length, Con.leN 16 (sixLaw cs k).length,
    Con.p (Bytes (subLaw (sixLaw zs n) 0 16)), Con.p (Bytes (subLaw (sixLaw cs k) 0 16)),
    Con.leN 16 (sixLaw zs n).length, Con.leN 16 (sixLaw bs m).length, Con.p (Bytes (subLaw (sixLaw zs n) 0 16)),
    Con.p (Bytes (subLaw (sixLaw bs m) 0 16)), Con.leN 16 (sixLaw zs n).length, Con.leN 16 (sixLaw cs k).length,
    Con.p (Bytes (subLaw (sixLaw zs n) 0 16)), Con.p (Bytes (subLaw (sixLaw cs k) 0 16)),
    Con.leN 16 (sixLaw bs m).length, Con.leN 16 (sixLaw cs k).length,
    Con.p ((List.map byteOf (List.take 16 (sixLaw bs m)) == List.map byteOf (List.take 16 (sixLaw cs k))) = false),
    Con.p (true = true),
    Con.p
      ((List.map byteOf (List.take 16 (blockLaw (ksLaw (subLaw (sixLaw zs n) 0 16) 176) (subLaw (sixLaw bs m) 0 16))) ==
          List.map byteOf
            (List.take 16 (blockLaw (ksLaw (subLaw (sixLaw zs n) 0 16) 176) (subLaw (sixLaw cs k) 0 16)))) =
        false),
    Con.p (true = true),
    Con.p
      ((List.map byteOf
            (List.take 16 (unblockLaw (ksLaw (subLaw (sixLaw zs n) 0 16) 176) (subLaw (sixLaw bs m) 0 16))) ==
          List.map byteOf
            (List.take 16 (unblockLaw (ksLaw (subLaw (sixLaw zs n) 0 16) 176) (subLaw (sixLaw cs k) 0 16)))) =
        false),
    Con.p (true = true), Con.p (true = true)]) : OkR (R7b zs bs cs n m k) := OkR.dem (fl := [true, true, false, true, true, false, true, true, false, true, true, true, true, false, false, false, false, true,
    true, true, true, false, false, false, false, true, true, true, true, false, false, false, false, true, true, true,
    true, false, false, false, false, true, false, true, false, false, true, true, true, false, true, true, true, true,
    false, false, true, true, true, true, false, false, false]) (by kernel_rfl) (by kernel_rfl) (by kernel_rfl) h
theorem R7b_val {zs bs cs : List Int} {n m k : Nat} : (R7b zs bs cs n m k).val = AVal.bool true := by kernel_rfl
theorem R7b_tab {zs bs cs : List Int} {n m k : Nat} : (R7b zs bs cs n m k).tab = [some { data := AVal.ints IntKind.u8 zs, g := 0, own := false, et := 5 },
    some { data := AVal.ints IntKind.u8 bs, g := 0, own := false, et := 5 },
    some { data := AVal.ints IntKind.u8 cs, g := 0, own := false, et := 5 }] := by kernel_rfl
end Go.Abs
