/- What functions of the given program come to, by the abstract machine: one text of a proof. -/
import Derived.Test.YtlnflmjgnmljeaaBB5
set_option linter.unusedVariables false
set_option linter.unusedSimpArgs false
set_option maxRecDepth 8000
namespace Go.Abs
open Go.Proofs.Try
def sm42 : Summary := fun args T => match args, T with
  | [.slice 1 0 g0 off 16 cp, .slice 1 1 g1 0 256 cp1], [some ⟨.ints .u8 ks, g0', ow0, 5⟩, some ⟨.ints .u8 bx, g1', ow1, 5⟩] =>
    ⟨[.eqN g0 g0', .eqN g1 g1', .leN (off + 16) ks.length, .p (bx = BOXLaw), .p (Bytes (subLaw ks off 16))], .slice 1 2 161 0 176 none, [some ⟨.ints .u8 ks, g0', ow0, 5⟩, some ⟨.ints .u8 bx, g1', ow1, 5⟩, some ⟨.ints .u8 (ksLaw (subLaw ks off 16) 176), 161, true, 5⟩]⟩
  | _, _ => fail
theorem sm42_ok : SmOk prog (fun _ => none) 42 sm42 := by
  intro args T hc
  unfold sm42 at hc ⊢
  split at hc
  · rename_i g0 off cp g1 cp1 ks g0' ow0 bx g1' ow1
    obtain ⟨h1, h2, h3, h4, h5, _⟩ := hc
    simp only [Con.h] at h1 h2 h3 h4 h5
    subst h1 h2 h4
    have hl := subLaw_len h3
    have e : [] ++ List.take 16 (dropO off ks) = subLaw ks off 16 := by rw [dropO_eq]; rfl
    refine small_of (R := R42 BOXLaw ks g0 g1 off cp cp1 ow0 ow1) eJ_ok hmA (f := 42) (fn := f42) (by kernel_rfl) (by kernel_rfl) orc42_ok rfl (R42_ok ?_) R42_val (by rw [R42_tab, e])
    rw [e]
    exact ⟨rfl, h3, rfl, rfl, ⟨hl, h5⟩, trivial⟩
  · exact absurd hc nofail
def S42 : Summary := callR sm42 []
theorem S42_ok : SumOk prog (fun _ => none) 42 S42 := callR_ok sm42_ok []
noncomputable def eK : Env := eA [(39, S39), (42, S42)]
theorem eK_ok : EnvOk eK := envOf_ok tysA_ok (SumsOk.cons (fn := f39) S39_ok (by kernel_rfl) (by kernel_rfl) (by kernel_rfl) (SumsOk.cons (fn := f42) S42_ok (by kernel_rfl) (by kernel_rfl) (by kernel_rfl) trivial))
noncomputable def R20a (zs : List Int) (g off : Nat) (cp : Option Nat) (ow : Bool) : Res := runF eK f20 [] 400 [.slice 1 0 g off 16 cp] [some ⟨.ints .u8 zs, g, ow, 5⟩] []
theorem R20a_ok {zs : List Int} {g off : Nat} {cp : Option Nat} {ow : Bool} (h : allP [Con.eqN g g, Con.eqN g g, Con.eqN g g, Con.leN (off + 16) zs.length, Con.p (BOXLaw = BOXLaw),
    Con.p (Bytes (subLaw zs off 16))]) : OkR (R20a zs g off cp ow) := OkR.dem (fl := [false, false, true, false, true, false, false, false]) (by kernel_rfl) (by kernel_rfl) (by kernel_rfl) h
theorem R20a_val {zs : List Int} {g off : Nat} {cp : Option Nat} {ow : Bool} : (R20a zs g off cp ow).val = AVal.tuple [AVal.slice 1 2 161 0 176 none, AVal.int IntKind.i64 0] := by kernel_rfl
theorem R20a_tab {zs : List Int} {g off : Nat} {cp : Option Nat} {ow : Bool} : (R20a zs g off cp ow).tab = [some { data := AVal.ints IntKind.u8 zs, g := g, own := ow, et := 5 },
    some { data := AVal.ints IntKind.u8 BOXLaw, g := 256, own := true, et := 5 },
    some { data := AVal.ints IntKind.u8 (ksLaw (subLaw zs off 16) 176), g := 161, own := true, et := 5 }] := by kernel_rfl
noncomputable def R20b (zs : List Int) (g off n : Nat) (cp : Option Nat) (ow : Bool) : Res := runF eK f20 [] 400 [.slice 1 0 g off n cp] [some ⟨.ints .u8 zs, g, ow, 5⟩] [some true]
theorem R20b_ok {zs : List Int} {g off n : Nat} {cp : Option Nat} {ow : Bool} (h : allP [Con.eqN g g, Con.p (((↑n : Int) != 16) = true)]) : OkR (R20b zs g off n cp ow) := OkR.dem (fl := [false, false]) (by kernel_rfl) (by kernel_rfl) (by kernel_rfl) h
theorem R20b_val {zs : List Int} {g off n : Nat} {cp : Option Nat} {ow : Bool} : (R20b zs g off n cp ow).val = AVal.tuple [AVal.nilSlice, AVal.int IntKind.i64 1] := by kernel_rfl
theorem R20b_tab {zs : List Int} {g off n : Nat} {cp : Option Nat} {ow : Bool} : (R20b zs g off n cp ow).tab = [some { data := AVal.ints IntKind.u8 zs, g := g, own := ow, et := 5 }] := by kernel_rfl
/-! ### the loop over the squares -/
noncomputable def A19 (i : Int) (ks xs zs : List Int) (g g0 n : Nat) (ow : Bool) : Out := trim 2 2 [4,12,13] (run eI 21 ⟨2, []⟩ 400 (roundOf 0 f19) [(4, .slice 1 1 g 0 n none), (12, .ints .u8 ks), (13, .int .i64 i)] [some ⟨.ints .u8 zs, g0, ow, 5⟩, some ⟨.ints .u8 xs, g, true, 5⟩] [some true])
theorem A19_ok {i : Int} {ks xs zs : List Int} {g g0 n : Nat} {ow : Bool} (h : allP [Con.p (decide (i < 11) = true), Con.leI 0 i, Con.leI (i + 1) 11, Con.leN (i.toNat * 16 + 16) ks.length,
    Con.eqN (List.take 16 (dropO (i.toNat * 16) ks)).length 16,
    Con.leN 16 (List.take 16 (dropO (i.toNat * 16) ks)).length, Con.eqN g g, Con.leN (0 + n) xs.length,
    Con.leN (addO n 16) 140737488355328, Con.leN 16 (List.take 16 (dropO (i.toNat * 16) ks)).length,
    Con.rng (-9223372036854775808) (i + 1) 9223372036854775807]) : Ok (A19 i ks xs zs g g0 n ow) := Ok.dem (fl := [false, false, false, false, true, false, true, true, true, true, true, false, false, false, false, true, false, true,
    false]) (by kernel_rfl) (by kernel_rfl) (by kernel_rfl) h
theorem A19_ex {i : Int} {ks xs zs : List Int} {g g0 n : Nat} {ow : Bool} : (A19 i ks xs zs g g0 n ow).ex = AExit.normal := by kernel_rfl
theorem A19_fm {i : Int} {ks xs zs : List Int} {g g0 n : Nat} {ow : Bool} : (A19 i ks xs zs g g0 n ow).fm = [(4, AVal.slice 1 1 (g + 1) 0 (addO n 16) none), (12, AVal.ints IntKind.u8 ks), (13, AVal.int IntKind.i64 (i + 1))] := by kernel_rfl
theorem A19_tab {i : Int} {ks xs zs : List Int} {g g0 n : Nat} {ow : Bool} : (A19 i ks xs zs g g0 n ow).tab = [some { data := AVal.ints IntKind.u8 zs, g := g0, own := ow, et := 5 },
    some
      { data := AVal.ints IntKind.u8 (List.take n xs ++ List.take 16 (List.take 16 (dropO (i.toNat * 16) ks))),
        g := g + 1, own := true, et := 5 }] := by kernel_rfl
noncomputable def B19 (i : Int) (ks xs zs : List Int) (g g0 n : Nat) (ow : Bool) : Out := trim 2 2 [4] (run eI 21 ⟨2, []⟩ 400 (roundOf 0 f19) [(4, .slice 1 1 g 0 n none), (12, .ints .u8 ks), (13, .int .i64 i)] [some ⟨.ints .u8 zs, g0, ow, 5⟩, some ⟨.ints .u8 xs, g, true, 5⟩] [some false])
theorem B19_ok {i : Int} {ks xs zs : List Int} {g g0 n : Nat} {ow : Bool} (h : allP [Con.p (decide (i < 11) = false)]) : Ok (B19 i ks xs zs g g0 n ow) := Ok.dem (fl := [false]) (by kernel_rfl) (by kernel_rfl) (by kernel_rfl) h
theorem B19_ex {i : Int} {ks xs zs : List Int} {g g0 n : Nat} {ow : Bool} : (B19 i ks xs zs g g0 n ow).ex = AExit.exit 0 := by kernel_rfl
theorem B19_fm {i : Int} {ks xs zs : List Int} {g g0 n : Nat} {ow : Bool} : (B19 i ks xs zs g g0 n ow).fm = [(4, AVal.slice 1 1 g 0 n none)] := by kernel_rfl
theorem B19_tab {i : Int} {ks xs zs : List Int} {g g0 n : Nat} {ow : Bool} : (B19 i ks xs zs g g0 n ow).tab = [some { data := AVal.ints IntKind.u8 zs, g := g0, own := ow, et := 5 },
    some { data := AVal.ints IntKind.u8 xs, g := g, own := true, et := 5 }] := by kernel_rfl
def F19 (ks : List Int) (i : Nat) : Fm := [(4, .slice 1 1 i 0 (16 * i) none), (12, .ints .u8 ks), (13, .int .i64 i)]
def T19 (ks zs : List Int) (g0 : Nat) (ow : Bool) (i : Nat) : Tab := [some ⟨.ints .u8 zs, g0, ow, 5⟩, some ⟨.ints .u8 (ks.take (16 * i)), i, true, 5⟩]
theorem loop19 {ks zs : List Int} (hk : ks.length = 176) {g0 : Nat} {ow : Bool} : To eI 21 2 (.block 0 (.loop (roundOf 0 f19))) (F19 ks 0) (T19 ks zs g0 ow 0) .normal [(4, .slice 1 1 11 0 176 none)] (T19 ks zs g0 ow 11) :=
  To.rounds (F19 ks) (T19 ks zs g0 ow) 11 (fun i hi => by
    have hl : (ks.take (16 * i)).length = 16 * i := by simp; omega
    have e1 : List.take 16 (dropO (i * 16) ks) = (ks.drop (16 * i)).take 16 := by rw [dropO_eq, Nat.mul_comm]
    have hl2 : ((ks.drop (16 * i)).take 16).length = 16 := by simp; omega
    refine To.of (o := A19 i ks (ks.take (16 * i)) zs i g0 (16 * i) ow) eI_ok hmA (Nat.le_refl 2) OrcOk.nil rfl (A19_ok ?_) A19_ex ?_ ?_
    · simp only [allP, Con.h, Int.toNat_natCast, e1, hl, hl2, hk, addO_eq, decide_eq_true_eq]
      repeat' with_reducible apply And.intro
      all_goals first | trivial | rfl | omega
    · rw [A19_fm, addO_eq]; rfl
    · rw [A19_tab, Int.toNat_natCast, e1, List.take_of_length_le (Nat.le_of_eq hl), List.take_of_length_le (Nat.le_of_eq hl2), ← List.take_add]; rfl)
    (To.of (o := B19 (11 : Nat) ks (ks.take 176) zs 11 g0 176 ow) eI_ok hmA (Nat.le_refl 2) OrcOk.nil rfl (B19_ok (by simp [allP, Con.h])) B19_ex B19_fm B19_tab)
def g19 : List AVal → Tab → Out := fun vs T => match vs, T with
  | [.nilSlice, .ints .u8 ks, .int .i64 i], [some ⟨.ints .u8 zs, g0, ow, 5⟩] =>
    ⟨[.rng 0 i 0, .eqN ks.length 176], .normal, [(4, .slice 1 1 11 0 176 none)], [some ⟨.ints .u8 zs, g0, ow, 5⟩, some ⟨.ints .u8 ks, 11, true, 5⟩], []⟩
  | _, _ => failO
theorem g19_ok : BlkOk eI f19 0 (.loop (roundOf 0 f19)) (blkS 1 [4,12,13] g19) := by
  refine blkS_ok fun vs T h => ?_
  unfold g19 at h ⊢
  split at h
  · rename_i ks i zs g0 ow
    obtain ⟨h1, h2, _⟩ := h.h
    simp only [Con.h] at h1 h2
    obtain rfl : i = 0 := by omega
    have := loop19 h2 (zs := zs) (g0 := g0) (ow := ow)
    unfold T19 at this
    rw [List.take_of_length_le (Nat.le_of_eq h2)] at this
    refine AWp.nilTo (F19 ks 0) .u8 5 (fun t v hv => ?_) (To.base (by decide) this)
    simp only [F19, look, zipF] at hv ⊢
    repeat' split at hv
    all_goals first | cases hv | skip
    all_goals first | rfl | simp_all [look]
  · exact absurd h nofailO
noncomputable def orc19 : OrcL := [(0, blkS 1 [4,12,13] g19)]
theorem orc19_ok : FnOrc eI f19 orc19 := FnOrc.cons g19_ok (by kernel_rfl) FnOrc.nil
noncomputable def R19a (zs : List Int) (g off : Nat) (cp : Option Nat) (ow : Bool) : Res := runF eI f19 orc19 400 [.slice 1 0 g off 16 cp] [some ⟨.ints .u8 zs, g, ow, 5⟩] []
theorem R19a_ok {zs : List Int} {g off : Nat} {cp : Option Nat} {ow : Bool} (h : allP [Con.eqN g g, Con.eqN g g, Con.eqN g g, Con.leN (off + 16) zs.length, Con.p (TABLaw = TABLaw),
    Con.p (Bytes (subLaw zs off 16)), Con.eqN (ksLaw (subLaw zs off 16) 176).length 176]) : OkR (R19a zs g off cp ow) := OkR.dem (fl := [false, true, false, true, false, false, false, false, true, false]) (by kernel_rfl) (by kernel_rfl) (by kernel_rfl) h
theorem R19a_val {zs : List Int} {g off : Nat} {cp : Option Nat} {ow : Bool} : (R19a zs g off cp ow).val = AVal.tuple [AVal.slice 1 1 11 0 176 none, AVal.int IntKind.i64 0] := by kernel_rfl
theorem R19a_tab {zs : List Int} {g off : Nat} {cp : Option Nat} {ow : Bool} : (R19a zs g off cp ow).tab = [some { data := AVal.ints IntKind.u8 zs, g := g, own := ow, et := 5 },
    some { data := AVal.ints IntKind.u8 (ksLaw (subLaw zs off 16) 176), g := 11, own := true, et := 5 }] := by kernel_rfl
noncomputable def R19b (zs : List Int) (g off n : Nat) (cp : Option Nat) (ow : Bool) : Res := runF eI f19 orc19 400 [.slice 1 0 g off n cp] [some ⟨.ints .u8 zs, g, ow, 5⟩] [some true]
theorem R19b_ok {zs : List Int} {g off n : Nat} {cp : Option Nat} {ow : Bool} (h : allP [Con.eqN g g, Con.p (((↑n : Int) != 16) = true)]) : OkR (R19b zs g off n cp ow) := OkR.dem (fl := [false, false]) (by kernel_rfl) (by kernel_rfl) (by kernel_rfl) h
theorem R19b_val {zs : List Int} {g off n : Nat} {cp : Option Nat} {ow : Bool} : (R19b zs g off n cp ow).val = AVal.tuple [AVal.nilSlice, AVal.int IntKind.i64 1] := by kernel_rfl
theorem R19b_tab {zs : List Int} {g off n : Nat} {cp : Option Nat} {ow : Bool} : (R19b zs g off n cp ow).tab = [some { data := AVal.ints IntKind.u8 zs, g := g, own := ow, et := 5 }] := by kernel_rfl
end Go.Abs
