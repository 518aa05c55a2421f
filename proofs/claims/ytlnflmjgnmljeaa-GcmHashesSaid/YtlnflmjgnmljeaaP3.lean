/- What functions of the given program come to, by the abstract machine: texts of a proof. -/
import Derived.Test.YtlnflmjgnmljeaaP2
set_option linter.unusedVariables false
set_option linter.unusedSimpArgs false
set_option maxRecDepth 8000
namespace Go.Abs
open Go.Proofs.Try
/-! ### the document: Times, Hash -/
noncomputable def eGs : Env := eA [(62, S62), (64, S64)]
theorem eGs_ok : EnvOk eGs := envOf_ok tysA_ok (SumsOk.cons (fn := f62) S62_ok (by kernel_rfl) (by kernel_rfl) (by kernel_rfl) (SumsOk.cons (fn := f64) S64_ok (by kernel_rfl) (by kernel_rfl) (by kernel_rfl) trivial))
noncomputable def R36g (az bz : List Int) (ga gb : Nat) (owa owb : Bool) (ca cb : Option Nat) : Res := resG 2 [0,1,2] (runF eGs f36 [] 400 [.slice 1 0 ga 0 16 ca, .slice 1 1 gb 0 16 cb] [some ⟨.ints .u8 az, ga, owa, 5⟩, some ⟨.ints .u8 bz, gb, owb, 5⟩] [some false, some false])
theorem R36g_ok {az bz : List Int} {ga gb : Nat} {owa owb : Bool} {ca cb : Option Nat} (h : allP [.eqN ga ga, .p (false = false), .eqN gb gb, .p (false = false), .eqN ga ga, .eqN gb gb, .leN 16 az.length, .leN 16 bz.length, .p (Bytes az), .p (Bytes bz)]) : OkR (R36g az bz ga gb owa owb ca cb) := OkR.dem (fl := bitsF 12 0) (by kernel_rfl) (by kernel_rfl) (by kernel_rfl) h
theorem R36g_val {az bz : List Int} {ga gb : Nat} {owa owb : Bool} {ca cb : Option Nat} : (R36g az bz ga gb owa owb ca cb).val = .tuple [.slice 1 2 0 0 16 (some 16), .int .i64 0] := by kernel_rfl
theorem R36g_tab {az bz : List Int} {ga gb : Nat} {owa owb : Bool} {ca cb : Option Nat} : (R36g az bz ga gb owa owb ca cb).tab = [some ⟨.ints .u8 az, ga, owa, 5⟩, some ⟨.ints .u8 bz, gb, owb, 5⟩, some ⟨.ints .u8 (mbLaw (subLaw az 0 16) (subLaw bz 0 16)), 0, true, 5⟩] := by kernel_rfl
noncomputable def R36a (az bz : List Int) (ga gb : Nat) (owa owb : Bool) (ca cb : Option Nat) (n0 n1 : Nat) : Res := resG 2 [0,1] (runF eGs f36 [] 400 [.slice 1 0 ga 0 n0 ca, .slice 1 1 gb 0 n1 cb] [some ⟨.ints .u8 az, ga, owa, 5⟩, some ⟨.ints .u8 bz, gb, owb, 5⟩] [some true])
theorem R36a_ok {az bz : List Int} {ga gb : Nat} {owa owb : Bool} {ca cb : Option Nat} {n0 n1 : Nat} (h : allP [.eqN ga ga, .p (((↑n0 : Int) != 16) = true)]) : OkR (R36a az bz ga gb owa owb ca cb n0 n1) := OkR.dem (fl := [false, false]) (by kernel_rfl) (by kernel_rfl) (by kernel_rfl) h
theorem R36a_val {az bz : List Int} {ga gb : Nat} {owa owb : Bool} {ca cb : Option Nat} {n0 n1 : Nat} : (R36a az bz ga gb owa owb ca cb n0 n1).val = .tuple [.nilSlice, .int .i64 1] := by kernel_rfl
theorem R36a_tab {az bz : List Int} {ga gb : Nat} {owa owb : Bool} {ca cb : Option Nat} {n0 n1 : Nat} : (R36a az bz ga gb owa owb ca cb n0 n1).tab = [some ⟨.ints .u8 az, ga, owa, 5⟩, some ⟨.ints .u8 bz, gb, owb, 5⟩] := by kernel_rfl
noncomputable def R36b (az bz : List Int) (ga gb : Nat) (owa owb : Bool) (ca cb : Option Nat) (n0 n1 : Nat) : Res := resG 2 [0,1] (runF eGs f36 [] 400 [.slice 1 0 ga 0 n0 ca, .slice 1 1 gb 0 n1 cb] [some ⟨.ints .u8 az, ga, owa, 5⟩, some ⟨.ints .u8 bz, gb, owb, 5⟩] [some false, some true])
theorem R36b_ok {az bz : List Int} {ga gb : Nat} {owa owb : Bool} {ca cb : Option Nat} {n0 n1 : Nat} (h : allP [.eqN ga ga, .p (((↑n0 : Int) != 16) = false), .eqN gb gb, .p (((↑n1 : Int) != 16) = true)]) : OkR (R36b az bz ga gb owa owb ca cb n0 n1) := OkR.dem (fl := [false, false, false, false]) (by kernel_rfl) (by kernel_rfl) (by kernel_rfl) h
theorem R36b_val {az bz : List Int} {ga gb : Nat} {owa owb : Bool} {ca cb : Option Nat} {n0 n1 : Nat} : (R36b az bz ga gb owa owb ca cb n0 n1).val = .tuple [.nilSlice, .int .i64 1] := by kernel_rfl
theorem R36b_tab {az bz : List Int} {ga gb : Nat} {owa owb : Bool} {ca cb : Option Nat} {n0 n1 : Nat} : (R36b az bz ga gb owa owb ca cb n0 n1).tab = [some ⟨.ints .u8 az, ga, owa, 5⟩, some ⟨.ints .u8 bz, gb, owb, 5⟩] := by kernel_rfl
noncomputable def sm36xc (args : List AVal) (T : Tab) (az : List Int) (bz : List Int) (ga : Nat) (gb : Nat) (owa : Bool) (owb : Bool) (ca : Option Nat) (cb : Option Nat) (n0 : Nat) (n1 : Nat) : Res := ⟨[.tab T [some ⟨.ints .u8 az, ga, owa, 5⟩, some ⟨.ints .u8 bz, gb, owb, 5⟩], .val (.tuple args) (.tuple [.slice 1 0 ga 0 n0 ca, .slice 1 1 gb 0 n1 cb]), .p (n0 ≠ 16 ∨ n1 ≠ 16)], .tuple [.nilSlice, .int .i64 1], [some ⟨.ints .u8 az, ga, owa, 5⟩, some ⟨.ints .u8 bz, gb, owb, 5⟩]⟩
theorem sm36xc_ok {args : List AVal} {T : Tab} {az : List Int} {bz : List Int} {ga : Nat} {gb : Nat} {owa : Bool} {owb : Bool} {ca : Option Nat} {cb : Option Nat} {n0 : Nat} {n1 : Nat} (h : allP (sm36xc args T az bz ga gb owa owb ca cb n0 n1).cs) : Small prog (fun _ => none) 36 args T (sm36xc args T az bz ga gb owa owb ca cb n0 n1).val (sm36xc args T az bz ga gb owa owb ca cb n0 n1).tab := by
  obtain ⟨hT, hv, h1, _⟩ := h
  simp only [Con.h] at hT hv h1
  injection hv with hv
  subst hT hv
  by_cases h : n0 = 16
  · subst h
    have h2 := neq16 (h1.resolve_left (fun h => h rfl))
    refine small_ofG (R := R36b az bz ga gb owa owb ca cb 16 n1) (keep := [0,1]) eGs_ok hmA (f := 36) (fn := f36) (by kernel_rfl) (by kernel_rfl) FnOrc.nil rfl (R36b_ok ?_) R36b_val R36b_tab
    simp only [allP, Con.h, h2, eq16, eq_self, true_and, and_true]
  · refine small_ofG (R := R36a az bz ga gb owa owb ca cb n0 n1) (keep := [0,1]) eGs_ok hmA (f := 36) (fn := f36) (by kernel_rfl) (by kernel_rfl) FnOrc.nil rfl (R36a_ok ?_) R36a_val R36a_tab
    simp only [allP, Con.h, neq16 h, eq_self, true_and, and_true]
noncomputable def sm36x : Summary := fun args T => sm36xc args T (xsAt T 0) (xsAt T 1) (gAt T 0) (gAt T 1) (owAt T 0) (owAt T 1) (capOf (vAt args 0)) (capOf (vAt args 1)) (lenOf (vAt args 0)) (lenOf (vAt args 1))
theorem sm36x_ok : SmOk prog (fun _ => none) 36 sm36x := fun args T h => sm36xc_ok h
noncomputable def S36x : Summary := callR sm36x []
theorem S36x_ok : SumOk prog (fun _ => none) 36 S36x := callR_ok sm36x_ok []
noncomputable def A38 (az bz : List Int) (ga gb gx l : Nat) (owa owb : Bool) (ca : Option Nat) (y x : List Int) (i k : Int) : Out := trim 4 4 [0,6,7,8,9] (run eGs 44 ⟨4, []⟩ 400 (roundOf 2 f38) [(0, .slice 1 0 ga 0 16 ca), (6, .slice 1 2 0 0 16 (some 16)), (7, .slice 1 3 gx 0 l none), (8, .int .i64 i), (9, .int .i64 k)] [some ⟨.ints .u8 az, ga, owa, 5⟩, some ⟨.ints .u8 bz, gb, owb, 5⟩, some ⟨.ints .u8 y, 0, true, 5⟩, some ⟨.ints .u8 x, gx, true, 5⟩] [some true])
theorem A38_ok {az bz : List Int} {ga gb gx l : Nat} {owa owb : Bool} {ca : Option Nat} {y x : List Int} {i k : Int} (h : allP [.p (decide (k < 16) = true), .leI 0 k, .leI (k + 1) 16, .leN (k.toNat + 1) y.length, .rng (-9223372036854775808) (i + k) 9223372036854775807, .eqN gx gx, .leI 0 (i + k), .leI (i + k + 1) (↑l : Int), .eqN gx gx, .leN ((i + k).toNat + 1) x.length, .nn .u8 (y.getD k.toNat 0),
 .nn .u8 (x.getD (i + k).toNat 0), .leI 0 k, .leI (k + 1) 16, .leN (k.toNat + 1) y.length, .rng (-9223372036854775808) (k + 1) 9223372036854775807]) : Ok (A38 az bz ga gb gx l owa owb ca y x i k) := Ok.dem (fl := bitsF 24 2916388) (by kernel_rfl) (by kernel_rfl) (by kernel_rfl) h
theorem A38_ex {az bz : List Int} {ga gb gx l : Nat} {owa owb : Bool} {ca : Option Nat} {y x : List Int} {i k : Int} : (A38 az bz ga gb gx l owa owb ca y x i k).ex = .normal := by kernel_rfl
theorem A38_fm {az bz : List Int} {ga gb gx l : Nat} {owa owb : Bool} {ca : Option Nat} {y x : List Int} {i k : Int} : (A38 az bz ga gb gx l owa owb ca y x i k).fm = [(0, .slice 1 0 ga 0 16 ca), (6, .slice 1 2 0 0 16 (some 16)), (7, .slice 1 3 gx 0 l none), (8, .int .i64 i), (9, .int .i64 (k + 1))] := by kernel_rfl
theorem A38_tab {az bz : List Int} {ga gb gx l : Nat} {owa owb : Bool} {ca : Option Nat} {y x : List Int} {i k : Int} : (A38 az bz ga gb gx l owa owb ca y x i k).tab = [some ⟨.ints .u8 az, ga, owa, 5⟩, some ⟨.ints .u8 bz, gb, owb, 5⟩, some ⟨.ints .u8 (y.set k.toNat (ixor (y.getD k.toNat 0) (x.getD (i + k).toNat 0))), 0, true, 5⟩, some ⟨.ints .u8 x, gx, true, 5⟩] := by kernel_rfl
noncomputable def D38 (az bz : List Int) (ga gb gx l : Nat) (owa owb : Bool) (ca : Option Nat) (y x : List Int) (i : Int) : Out := trim 4 4 [0,6,7,8] (run eGs 44 ⟨4, []⟩ 400 (roundOf 2 f38) [(0, .slice 1 0 ga 0 16 ca), (6, .slice 1 2 0 0 16 (some 16)), (7, .slice 1 3 gx 0 l none), (8, .int .i64 i), (9, .int .i64 16)] [some ⟨.ints .u8 az, ga, owa, 5⟩, some ⟨.ints .u8 bz, gb, owb, 5⟩, some ⟨.ints .u8 y, 0, true, 5⟩, some ⟨.ints .u8 x, gx, true, 5⟩] [])
theorem D38_ok {az bz : List Int} {ga gb gx l : Nat} {owa owb : Bool} {ca : Option Nat} {y x : List Int} {i : Int} (h : allP []) : Ok (D38 az bz ga gb gx l owa owb ca y x i) := Ok.dem (fl := []) (by kernel_rfl) (by kernel_rfl) (by kernel_rfl) h
theorem D38_ex {az bz : List Int} {ga gb gx l : Nat} {owa owb : Bool} {ca : Option Nat} {y x : List Int} {i : Int} : (D38 az bz ga gb gx l owa owb ca y x i).ex = .exit 2 := by kernel_rfl
theorem D38_fm {az bz : List Int} {ga gb gx l : Nat} {owa owb : Bool} {ca : Option Nat} {y x : List Int} {i : Int} : (D38 az bz ga gb gx l owa owb ca y x i).fm = [(0, .slice 1 0 ga 0 16 ca), (6, .slice 1 2 0 0 16 (some 16)), (7, .slice 1 3 gx 0 l none), (8, .int .i64 i)] := by kernel_rfl
theorem D38_tab {az bz : List Int} {ga gb gx l : Nat} {owa owb : Bool} {ca : Option Nat} {y x : List Int} {i : Int} : (D38 az bz ga gb gx l owa owb ca y x i).tab = [some ⟨.ints .u8 az, ga, owa, 5⟩, some ⟨.ints .u8 bz, gb, owb, 5⟩, some ⟨.ints .u8 y, 0, true, 5⟩, some ⟨.ints .u8 x, gx, true, 5⟩] := by kernel_rfl
theorem loop38i {az bz : List Int} {ga gb gx l : Nat} {owa owb : Bool} {ca : Option Nat} {y x : List Int} (ly : y.length = 16) (lx : x.length = l) (hy : Bytes y) (hx : Bytes x) {i : Nat} (hi : i + 16 ≤ l) (hl : l ≤ 140737488355300) : To eGs 44 4 (.block 2 (.loop (roundOf 2 f38))) [(0, .slice 1 0 ga 0 16 ca), (6, .slice 1 2 0 0 16 (some 16)), (7, .slice 1 3 gx 0 l none), (8, .int .i64 (i : Nat)), (9, .int .i64 0)] [some ⟨.ints .u8 az, ga, owa, 5⟩, some ⟨.ints .u8 bz, gb, owb, 5⟩, some ⟨.ints .u8 y, 0, true, 5⟩, some ⟨.ints .u8 x, gx, true, 5⟩] .normal [(0, .slice 1 0 ga 0 16 ca), (6, .slice 1 2 0 0 16 (some 16)), (7, .slice 1 3 gx 0 l none), (8, .int .i64 (i : Nat))] [some ⟨.ints .u8 az, ga, owa, 5⟩, some ⟨.ints .u8 bz, gb, owb, 5⟩, some ⟨.ints .u8 (plusLaw y (subLaw x i 16)), 0, true, 5⟩, some ⟨.ints .u8 x, gx, true, 5⟩] := by
  have := To.rounds (E := eGs) (n := 44) (k := 4) (id := 2) (c := roundOf 2 f38) (fun k : Nat => [(0, .slice 1 0 ga 0 16 ca), (6, .slice 1 2 0 0 16 (some 16)), (7, .slice 1 3 gx 0 l none), (8, .int .i64 (i : Nat)), (9, .int .i64 (k : Nat))]) (fun k => [some ⟨.ints .u8 az, ga, owa, 5⟩, some ⟨.ints .u8 bz, gb, owb, 5⟩, some ⟨.ints .u8 (pxLaw y (subLaw x i 16) k), 0, true, 5⟩, some ⟨.ints .u8 x, gx, true, 5⟩]) 16 (fun k hk => ?_) (To.of (o := D38 az bz ga gb gx l owa owb ca (pxLaw y (subLaw x i 16) 16) x (i : Nat)) eGs_ok hmA (Nat.le_refl 4) OrcOk.nil rfl (D38_ok trivial) D38_ex D38_fm D38_tab)
  · rw [px_zero ly, px_end] at this
    exact this
  · have h1 := (px_bytes hy (sub_bytes hx i 16) k).get k
    have h2 := hx.get (i + k)
    have e : ((i : Int) + k).toNat = i + k := by omega
    have e2 : (subLaw x i 16).getD k 0 = x.getD (i + k) 0 := by
      unfold subLaw
      rw [List.getD_eq_getElem?_getD, List.getElem?_take_of_lt hk, ← List.getD_eq_getElem?_getD, getD_drop]
    refine To.of (o := A38 az bz ga gb gx l owa owb ca (pxLaw y (subLaw x i 16) k) x (i : Nat) (k : Nat)) eGs_ok hmA (Nat.le_refl 4) OrcOk.nil rfl (A38_ok ?_) A38_ex A38_fm ?_
    · rw [e]
      simp only [allP, Con.h, nonneg, addO_eq, Nat.zero_add, Nat.add_zero, Int.toNat_natCast, px_len, lx, decide_eq_true_eq, eq_self, true_and, and_true]
      omega
    · rw [A38_tab, e]
      simp only [addO_eq, Nat.zero_add, Nat.add_zero, Int.toNat_natCast]
      rw [← e2, px_step hk]
noncomputable def g38ic (vs : List AVal) (T : Tab) (az : List Int) (bz : List Int) (ga : Nat) (gb : Nat) (gx : Nat) (l : Nat) (owa : Bool) (owb : Bool) (ca : Option Nat) (y : List Int) (x : List Int) (i : Nat) (ii : Int) : Out := ⟨[.tab T [some ⟨.ints .u8 az, ga, owa, 5⟩, some ⟨.ints .u8 bz, gb, owb, 5⟩, some ⟨.ints .u8 y, 0, true, 5⟩, some ⟨.ints .u8 x, gx, true, 5⟩], .val (.tuple vs) (.tuple [.slice 1 0 ga 0 16 ca, .slice 1 2 0 0 16 (some 16), .slice 1 3 gx 0 l none, .int .i64 ii, .int .i64 0]), .eqN y.length 16, .eqN x.length l, .p (Bytes y), .p (Bytes x), .p (ii = (i : Nat)), .leN (i + 16) l, .leN l 140737488355300], .normal, [(0, .slice 1 0 ga 0 16 ca), (6, .slice 1 2 0 0 16 (some 16)), (7, .slice 1 3 gx 0 l none), (8, .int .i64 ii)], [some ⟨.ints .u8 az, ga, owa, 5⟩, some ⟨.ints .u8 bz, gb, owb, 5⟩, some ⟨.ints .u8 (plusLaw y (subLaw x i 16)), 0, true, 5⟩, some ⟨.ints .u8 x, gx, true, 5⟩], []⟩
theorem g38ic_ok {vs : List AVal} {T : Tab} {az : List Int} {bz : List Int} {ga : Nat} {gb : Nat} {gx : Nat} {l : Nat} {owa : Bool} {owb : Bool} {ca : Option Nat} {y : List Int} {x : List Int} {i : Nat} {ii : Int} (h : Ok (g38ic vs T az bz ga gb gx l owa owb ca y x i ii)) : To eGs 44 4 (.block 2 (.loop (roundOf 2 f38))) (zipF [0,6,7,8,9] vs) T (g38ic vs T az bz ga gb gx l owa owb ca y x i ii).ex (g38ic vs T az bz ga gb gx l owa owb ca y x i ii).fm (g38ic vs T az bz ga gb gx l owa owb ca y x i ii).tab := by
  obtain ⟨hT, hv, h1, h2, h3, h4, h5, h6, h7, _⟩ := h.h
  simp only [Con.h] at hT hv h1 h2 h3 h4 h5 h6 h7
  injection hv with hv
  subst hT hv
  subst h5
  exact loop38i h1 h2 h3 h4 h6 h7
noncomputable def g38i : List AVal → Tab → Out := fun vs T => g38ic vs T (xsAt T 0) (xsAt T 1) (gAt T 0) (gAt T 1) (gAt T 3) (lenOf (vAt vs 2)) (owAt T 0) (owAt T 1) (capOf (vAt vs 0)) (xsAt T 2) (xsAt T 3) ((iOf (vAt vs 3)).toNat) (iOf (vAt vs 3))
theorem g38i_ok : BlkOk eGs f38 2 (.loop (roundOf 2 f38)) (blkS 4 [0,6,7,8,9] g38i) := blkS_ok fun vs T h => g38ic_ok h
noncomputable def orc38i : OrcL := [(2, blkS 4 [0,6,7,8,9] g38i)]
theorem orc38i_ok {kb : Nat} : OrcOk eGs 44 ⟨kb, orc38i⟩ (roundOf 0 f38) := OrcOk.cons (fn := f38) g38i_ok (by kernel_rfl) OrcOk.nil
noncomputable def O38 (az bz : List Int) (ga gb gx l : Nat) (owa owb : Bool) (ca : Option Nat) (y x : List Int) (i : Int) : Out := trimG 2 [0,1,4,3] [0,6,7,8] (run eGs 44 ⟨4, orc38i⟩ 400 (roundOf 0 f38) [(0, .slice 1 0 ga 0 16 ca), (6, .slice 1 2 0 0 16 (some 16)), (7, .slice 1 3 gx 0 l none), (8, .int .i64 i)] [some ⟨.ints .u8 az, ga, owa, 5⟩, some ⟨.ints .u8 bz, gb, owb, 5⟩, some ⟨.ints .u8 y, 0, true, 5⟩, some ⟨.ints .u8 x, gx, true, 5⟩] [some true])
theorem O38_ok {az bz : List Int} {ga gb gx l : Nat} {owa owb : Bool} {ca : Option Nat} {y x : List Int} {i : Int} (h : allP [.eqN gx gx, .p (decide (i < (↑l : Int)) = true), .eqN y.length 16, .eqN x.length l, .p (Bytes y), .p (Bytes x), .p (i = (↑i.toNat : Int)), .leN (i.toNat + 16) l, .leN l 140737488355300, .eqN ga ga, .leN 16 az.length, .p (Bytes (plusLaw y (subLaw x i.toNat 16))), .p (Bytes
 az), .rng (-9223372036854775808) (i + 16) 9223372036854775807]) : Ok (O38 az bz ga gb gx l owa owb ca y x i) := Ok.dem (fl := bitsF 20 34816) (by kernel_rfl) (by kernel_rfl) (by kernel_rfl) h
theorem O38_ex {az bz : List Int} {ga gb gx l : Nat} {owa owb : Bool} {ca : Option Nat} {y x : List Int} {i : Int} : (O38 az bz ga gb gx l owa owb ca y x i).ex = .normal := by kernel_rfl
theorem O38_fm {az bz : List Int} {ga gb gx l : Nat} {owa owb : Bool} {ca : Option Nat} {y x : List Int} {i : Int} : (O38 az bz ga gb gx l owa owb ca y x i).fm = [(0, .slice 1 0 ga 0 16 ca), (6, .slice 1 2 0 0 16 (some 16)), (7, .slice 1 3 gx 0 l none), (8, .int .i64 (i + 16))] := by kernel_rfl
theorem O38_tab {az bz : List Int} {ga gb gx l : Nat} {owa owb : Bool} {ca : Option Nat} {y x : List Int} {i : Int} : (O38 az bz ga gb gx l owa owb ca y x i).tab = [some ⟨.ints .u8 az, ga, owa, 5⟩, some ⟨.ints .u8 bz, gb, owb, 5⟩, some ⟨.ints .u8 (mbLaw (subLaw (plusLaw y (subLaw x i.toNat 16)) 0 16) (subLaw az 0 16)), 0, true, 5⟩, some ⟨.ints .u8 x, gx, true, 5⟩] := by kernel_rfl
noncomputable def E38 (az bz : List Int) (ga gb gx l : Nat) (owa owb : Bool) (ca : Option Nat) (y x : List Int) (i : Int) : Out := trim 4 4 [6] (run eGs 44 ⟨4, []⟩ 400 (roundOf 0 f38) [(0, .slice 1 0 ga 0 16 ca), (6, .slice 1 2 0 0 16 (some 16)), (7, .slice 1 3 gx 0 l none), (8, .int .i64 i)] [some ⟨.ints .u8 az, ga, owa, 5⟩, some ⟨.ints .u8 bz, gb, owb, 5⟩, some ⟨.ints .u8 y, 0, true, 5⟩, some ⟨.ints .u8 x, gx, true, 5⟩] [some false])
theorem E38_ok {az bz : List Int} {ga gb gx l : Nat} {owa owb : Bool} {ca : Option Nat} {y x : List Int} {i : Int} (h : allP [.eqN gx gx, .p (decide (i < (↑l : Int)) = false)]) : Ok (E38 az bz ga gb gx l owa owb ca y x i) := Ok.dem (fl := [false, false]) (by kernel_rfl) (by kernel_rfl) (by kernel_rfl) h
theorem E38_ex {az bz : List Int} {ga gb gx l : Nat} {owa owb : Bool} {ca : Option Nat} {y x : List Int} {i : Int} : (E38 az bz ga gb gx l owa owb ca y x i).ex = .exit 0 := by kernel_rfl
theorem E38_fm {az bz : List Int} {ga gb gx l : Nat} {owa owb : Bool} {ca : Option Nat} {y x : List Int} {i : Int} : (E38 az bz ga gb gx l owa owb ca y x i).fm = [(6, .slice 1 2 0 0 16 (some 16))] := by kernel_rfl
theorem E38_tab {az bz : List Int} {ga gb gx l : Nat} {owa owb : Bool} {ca : Option Nat} {y x : List Int} {i : Int} : (E38 az bz ga gb gx l owa owb ca y x i).tab = [some ⟨.ints .u8 az, ga, owa, 5⟩, some ⟨.ints .u8 bz, gb, owb, 5⟩, some ⟨.ints .u8 y, 0, true, 5⟩, some ⟨.ints .u8 x, gx, true, 5⟩] := by kernel_rfl
def rhLaw (H x : List Int) : Nat → List Int
  | 0 => [0, 0, 0, 0, 0, 0, 0, 0, 0, 0, 0, 0, 0, 0, 0, 0]
  | j + 1 => mbLaw (plusLaw (rhLaw H x j) (subLaw x (16 * j) 16)) H
theorem mb_len (x y : List Int) : (mbLaw x y).length = 16 := rfl
theorem mb_bytes (x y : List Int) : Bytes (mbLaw x y) := bN_bytes _
theorem rh_len (H x : List Int) : ∀ j, (rhLaw H x j).length = 16
  | 0 => rfl
  | j + 1 => rfl
theorem rh_bytes (H x : List Int) : ∀ j, Bytes (rhLaw H x j)
  | 0 => Bytes.zer 16
  | j + 1 => mb_bytes _ _
def rhashLaw (H x : List Int) : List Int := rhLaw H x (x.length / 16)
theorem loop38 {az bz : List Int} {ga gb gx l : Nat} {owa owb : Bool} {ca : Option Nat} {x : List Int} (ha : 16 ≤ az.length) (hb : Bytes az) (lx : x.length = l) (hx : Bytes x) (hm : l % 16 = 0) (hl : l ≤ 140737488355200) : To eGs 44 2 (.block 0 (.loop (roundOf 0 f38))) [(0, .slice 1 0 ga 0 16 ca), (6, .slice 1 2 0 0 16 (some 16)), (7, .slice 1 3 gx 0 l none), (8, .int .i64 0)] [some ⟨.ints .u8 az, ga, owa, 5⟩, some ⟨.ints .u8 bz, gb, owb, 5⟩, some ⟨.ints .u8 [0, 0, 0, 0, 0, 0, 0, 0, 0, 0, 0, 0, 0, 0, 0, 0], 0, true, 5⟩, some ⟨.ints .u8 x, gx, true, 5⟩] .normal [(6, .slice 1 2 0 0 16 (some 16))] [some ⟨.ints .u8 az, ga, owa, 5⟩, some ⟨.ints .u8 bz, gb, owb, 5⟩, some ⟨.ints .u8 (rhashLaw (subLaw az 0 16) x), 0, true, 5⟩, some ⟨.ints .u8 x, gx, true, 5⟩] := by
  unfold rhashLaw
  refine To.rounds (fun j : Nat => [(0, .slice 1 0 ga 0 16 ca), (6, .slice 1 2 0 0 16 (some 16)), (7, .slice 1 3 gx 0 l none), (8, .int .i64 ((16 * j : Nat) : Int))]) (fun j => [some ⟨.ints .u8 az, ga, owa, 5⟩, some ⟨.ints .u8 bz, gb, owb, 5⟩, some ⟨.ints .u8 (rhLaw (subLaw az 0 16) x j), 0, true, 5⟩, some ⟨.ints .u8 x, gx, true, 5⟩]) (x.length / 16) (fun j hj => ?_) (To.base (by decide) (To.of (k := 4) (o := E38 az bz ga gb gx l owa owb ca (rhLaw (subLaw az 0 16) x (x.length / 16)) x ((16 * (x.length / 16) : Nat) : Int)) eGs_ok hmA (Nat.le_refl 4) OrcOk.nil rfl (E38_ok ?_) E38_ex E38_fm E38_tab))
  · have h1 := rh_len (subLaw az 0 16) x j
    have h2 := rh_bytes (subLaw az 0 16) x j
    have hp := plus_bytes h2 (sub_bytes hx (16 * j) 16)
    have lp : (plusLaw (rhLaw (subLaw az 0 16) x j) (subLaw x (16 * j) 16)).length = 16 := rfl
    refine To.ofG (k := 2) (o := O38 az bz ga gb gx l owa owb ca (rhLaw (subLaw az 0 16) x j) x ((16 * j : Nat) : Int)) eGs_ok hmA (by decide) orc38i_ok rfl (O38_ok ?_) O38_ex ?_ ?_
    · simp only [allP, Con.h, h1, h2, hp, lp, lx, hx, ha, hb, Int.toNat_natCast, decide_eq_true_eq, eq_self, true_and, and_true]
      omega
    · rw [O38_fm, show ((16 * j : Nat) : Int) + 16 = ((16 * (j + 1) : Nat) : Int) by omega]
    · rw [O38_tab, Int.toNat_natCast, sub_n lp]; rfl
  · simp only [allP, Con.h, decide_eq_false_iff_not, eq_self, true_and, and_true]
    omega
noncomputable def g38c (vs : List AVal) (T : Tab) (az : List Int) (bz : List Int) (ga : Nat) (gb : Nat) (gx : Nat) (l : Nat) (owa : Bool) (owb : Bool) (ca : Option Nat) (x : List Int) : Out := ⟨[.tab T [some ⟨.ints .u8 az, ga, owa, 5⟩, some ⟨.ints .u8 bz, gb, owb, 5⟩, some ⟨.ints .u8 [0, 0, 0, 0, 0, 0, 0, 0, 0, 0, 0, 0, 0, 0, 0, 0], 0, true, 5⟩, some ⟨.ints .u8 x, gx, true, 5⟩], .val (.tuple vs) (.tuple [.slice 1 0 ga 0 16 ca, .slice 1 2 0 0 16 (some 16), .slice 1 3 gx 0 l none, .int .i64 0]), .leN 16 az.length, .p (Bytes az), .eqN x.length l, .p (Bytes x), .eqN (l % 16) 0, .leN l 140737488355200], .normal, [(6, .slice 1 2 0 0 16 (some 16))], [some ⟨.ints .u8 az, ga, owa, 5⟩, some ⟨.ints .u8 bz, gb, owb, 5⟩, some ⟨.ints .u8 (rhashLaw (subLaw az 0 16) x), 0, true, 5⟩, some ⟨.ints .u8 x, gx, true, 5⟩], []⟩
theorem g38c_ok {vs : List AVal} {T : Tab} {az : List Int} {bz : List Int} {ga : Nat} {gb : Nat} {gx : Nat} {l : Nat} {owa : Bool} {owb : Bool} {ca : Option Nat} {x : List Int} (h : Ok (g38c vs T az bz ga gb gx l owa owb ca x)) : To eGs 44 2 (.block 0 (.loop (roundOf 0 f38))) (zipF [0,6,7,8] vs) T (g38c vs T az bz ga gb gx l owa owb ca x).ex (g38c vs T az bz ga gb gx l owa owb ca x).fm (g38c vs T az bz ga gb gx l owa owb ca x).tab := by
  obtain ⟨hT, hv, h1, h2, h3, h4, h5, h6, _⟩ := h.h
  simp only [Con.h] at hT hv h1 h2 h3 h4 h5 h6
  injection hv with hv
  subst hT hv
  exact loop38 h1 h2 h3 h4 h5 h6
noncomputable def g38 : List AVal → Tab → Out := fun vs T => g38c vs T (xsAt T 0) (xsAt T 1) (gAt T 0) (gAt T 1) (gAt T 3) (lenOf (vAt vs 2)) (owAt T 0) (owAt T 1) (capOf (vAt vs 0)) (xsAt T 3)
theorem g38_ok : BlkOk eGs f38 0 (.loop (roundOf 0 f38)) (blkS2 2 4 [0,6,7,8] g38) := blkS2_ok fun vs T h => g38c_ok h
noncomputable def orc38 : OrcL := [(0, blkS2 2 4 [0,6,7,8] g38)]
theorem orc38_ok : FnOrc eGs f38 orc38 := FnOrc.cons g38_ok (by kernel_rfl) FnOrc.nil
noncomputable def R38g (az bz : List Int) (ga gb : Nat) (owa owb : Bool) (ca cb : Option Nat) (n1 : Nat) : Res := resG 2 [0,1,2] (runF eGs f38 orc38 400 [.slice 1 0 ga 0 16 ca, .slice 1 1 gb 0 n1 cb] [some ⟨.ints .u8 az, ga, owa, 5⟩, some ⟨.ints .u8 bz, gb, owb, 5⟩] [some false])
theorem R38g_ok {az bz : List Int} {ga gb : Nat} {owa owb : Bool} {ca cb : Option Nat} {n1 : Nat} (h : allP [.eqN ga ga, .p (false = false), .eqN gb gb, .leN n1 bz.length, .leN n1 140737488352000, .leN 16 az.length, .p (Bytes az), .eqN (fullLaw (subLaw bz 0 n1) (padLaw n1)).length (n1 + padLaw n1), .p (Bytes (fullLaw (subLaw bz 0 n1) (padLaw n1))), .eqN ((n1 + padLaw n1) % 16) 0, .leN (n1 + padLaw
 n1) 140737488355200]) : OkR (R38g az bz ga gb owa owb ca cb n1) := OkR.dem (fl := bitsF 19 60) (by kernel_rfl) (by kernel_rfl) (by kernel_rfl) h
theorem R38g_val {az bz : List Int} {ga gb : Nat} {owa owb : Bool} {ca cb : Option Nat} {n1 : Nat} : (R38g az bz ga gb owa owb ca cb n1).val = .tuple [.slice 1 2 0 0 16 (some 16), .int .i64 0] := by kernel_rfl
theorem R38g_tab {az bz : List Int} {ga gb : Nat} {owa owb : Bool} {ca cb : Option Nat} {n1 : Nat} : (R38g az bz ga gb owa owb ca cb n1).tab = [some ⟨.ints .u8 az, ga, owa, 5⟩, some ⟨.ints .u8 bz, gb, owb, 5⟩, some ⟨.ints .u8 (rhashLaw (subLaw az 0 16) (fullLaw (subLaw bz 0 n1) (padLaw n1))), 0, true, 5⟩] := by kernel_rfl
noncomputable def R38a (az bz : List Int) (ga gb : Nat) (owa owb : Bool) (ca cb : Option Nat) (n0 n1 : Nat) : Res := resG 2 [0,1] (runF eGs f38 [] 400 [.slice 1 0 ga 0 n0 ca, .slice 1 1 gb 0 n1 cb] [some ⟨.ints .u8 az, ga, owa, 5⟩, some ⟨.ints .u8 bz, gb, owb, 5⟩] [some true])
theorem R38a_ok {az bz : List Int} {ga gb : Nat} {owa owb : Bool} {ca cb : Option Nat} {n0 n1 : Nat} (h : allP [.eqN ga ga, .p (((↑n0 : Int) != 16) = true)]) : OkR (R38a az bz ga gb owa owb ca cb n0 n1) := OkR.dem (fl := [false, false]) (by kernel_rfl) (by kernel_rfl) (by kernel_rfl) h
theorem R38a_val {az bz : List Int} {ga gb : Nat} {owa owb : Bool} {ca cb : Option Nat} {n0 n1 : Nat} : (R38a az bz ga gb owa owb ca cb n0 n1).val = .tuple [.nilSlice, .int .i64 1] := by kernel_rfl
theorem R38a_tab {az bz : List Int} {ga gb : Nat} {owa owb : Bool} {ca cb : Option Nat} {n0 n1 : Nat} : (R38a az bz ga gb owa owb ca cb n0 n1).tab = [some ⟨.ints .u8 az, ga, owa, 5⟩, some ⟨.ints .u8 bz, gb, owb, 5⟩] := by kernel_rfl
noncomputable def sm38c (args : List AVal) (T : Tab) (az : List Int) (bz : List Int) (ga : Nat) (gb : Nat) (owa : Bool) (owb : Bool) (ca : Option Nat) (cb : Option Nat) (n1 : Nat) : Res := ⟨[.tab T [some ⟨.ints .u8 az, ga, owa, 5⟩, some ⟨.ints .u8 bz, gb, owb, 5⟩], .val (.tuple args) (.tuple [.slice 1 0 ga 0 16 ca, .slice 1 1 gb 0 n1 cb]), .leN 16 az.length, .leN n1 bz.length, .p (Bytes az), .p (Bytes bz), .leN n1 140737488352000], .tuple [.slice 1 2 0 0 16 (some 16), .int .i64 0], [some ⟨.ints .u8 az, ga, owa, 5⟩, some ⟨.ints .u8 bz, gb, owb, 5⟩, some ⟨.ints .u8 (rhashLaw (subLaw az 0 16) (fullLaw (subLaw bz 0 n1) (padLaw n1))), 0, true, 5⟩]⟩
theorem sm38c_ok {args : List AVal} {T : Tab} {az : List Int} {bz : List Int} {ga : Nat} {gb : Nat} {owa : Bool} {owb : Bool} {ca : Option Nat} {cb : Option Nat} {n1 : Nat} (h : allP (sm38c args T az bz ga gb owa owb ca cb n1).cs) : Small prog (fun _ => none) 38 args T (sm38c args T az bz ga gb owa owb ca cb n1).val (sm38c args T az bz ga gb owa owb ca cb n1).tab := by
  obtain ⟨hT, hv, h1, h2, h3, h4, h5, _⟩ := h
  simp only [Con.h] at hT hv h1 h2 h3 h4 h5
  injection hv with hv
  subst hT hv
  have lx : (subLaw bz 0 n1).length = n1 := subLaw_len (by omega)
  have lf := full_len (subLaw bz 0 n1) (padLaw n1)
  have bf := full_bytes (sub_bytes h4 0 n1) (padLaw n1)
  have hp : padLaw n1 < 16 ∧ (n1 + padLaw n1) % 16 = 0 := by unfold padLaw; omega
  refine small_ofG (R := R38g az bz ga gb owa owb ca cb n1) (keep := [0,1,2]) eGs_ok hmA (f := 38) (fn := f38) (by kernel_rfl) (by kernel_rfl) orc38_ok rfl (R38g_ok ?_) R38g_val R38g_tab
  simp only [allP, Con.h, lf, lx, bf, hp.2, h1, h2, h3, h5, eq_self, true_and, and_true]
  omega
noncomputable def sm38 : Summary := fun args T => sm38c args T (xsAt T 0) (xsAt T 1) (gAt T 0) (gAt T 1) (owAt T 0) (owAt T 1) (capOf (vAt args 0)) (capOf (vAt args 1)) (lenOf (vAt args 1))
theorem sm38_ok : SmOk prog (fun _ => none) 38 sm38 := fun args T h => sm38c_ok h
noncomputable def S38 : Summary := callR sm38 []
theorem S38_ok : SumOk prog (fun _ => none) 38 S38 := callR_ok sm38_ok []
noncomputable def sm38xc (args : List AVal) (T : Tab) (az : List Int) (bz : List Int) (ga : Nat) (gb : Nat) (owa : Bool) (owb : Bool) (ca : Option Nat) (cb : Option Nat) (n0 : Nat) (n1 : Nat) : Res := ⟨[.tab T [some ⟨.ints .u8 az, ga, owa, 5⟩, some ⟨.ints .u8 bz, gb, owb, 5⟩], .val (.tuple args) (.tuple [.slice 1 0 ga 0 n0 ca, .slice 1 1 gb 0 n1 cb]), .p (n0 ≠ 16)], .tuple [.nilSlice, .int .i64 1], [some ⟨.ints .u8 az, ga, owa, 5⟩, some ⟨.ints .u8 bz, gb, owb, 5⟩]⟩
theorem sm38xc_ok {args : List AVal} {T : Tab} {az : List Int} {bz : List Int} {ga : Nat} {gb : Nat} {owa : Bool} {owb : Bool} {ca : Option Nat} {cb : Option Nat} {n0 : Nat} {n1 : Nat} (h : allP (sm38xc args T az bz ga gb owa owb ca cb n0 n1).cs) : Small prog (fun _ => none) 38 args T (sm38xc args T az bz ga gb owa owb ca cb n0 n1).val (sm38xc args T az bz ga gb owa owb ca cb n0 n1).tab := by
  obtain ⟨hT, hv, h1, _⟩ := h
  simp only [Con.h] at hT hv h1
  injection hv with hv
  subst hT hv
  refine small_ofG (R := R38a az bz ga gb owa owb ca cb n0 n1) (keep := [0,1]) eGs_ok hmA (f := 38) (fn := f38) (by kernel_rfl) (by kernel_rfl) FnOrc.nil rfl (R38a_ok ?_) R38a_val R38a_tab
  simp only [allP, Con.h, neq16 h1, eq_self, true_and, and_true]
noncomputable def sm38x : Summary := fun args T => sm38xc args T (xsAt T 0) (xsAt T 1) (gAt T 0) (gAt T 1) (owAt T 0) (owAt T 1) (capOf (vAt args 0)) (capOf (vAt args 1)) (lenOf (vAt args 0)) (lenOf (vAt args 1))
theorem sm38x_ok : SmOk prog (fun _ => none) 38 sm38x := fun args T h => sm38xc_ok h
noncomputable def S38x : Summary := callR sm38x []
theorem S38x_ok : SumOk prog (fun _ => none) 38 S38x := callR_ok sm38x_ok []
end Go.Abs

set_option linter.unusedVariables false
set_option linter.unusedSimpArgs false
set_option maxRecDepth 8000
namespace Go.Abs
open Go.Proofs.Try
/-! ### the program's answers are the document's -/
theorem gw_eq (b : List Int) : gwLaw b = wN (nB b) := rfl
theorem times_eq (A B : List Int) : ptLaw (mwLaw (gwLaw A) (gwLaw B)) = mbLaw A B := by
  rw [gw_eq, gw_eq, mw_wN, pt_wN]; rfl
def rhN (h y : Nat) (F : List Int) : Nat → Nat
  | 0 => y
  | j + 1 => mulN (rhN h y F j ^^^ nB (subLaw F (16 * j) 16)) h
theorem rhN_lt {h y : Nat} {F : List Int} (hy : y < 2 ^ 128) (hF : Bytes F) : ∀ j, 16 * j ≤ F.length → rhN h y F j < 2 ^ 128
  | 0, _ => hy
  | j + 1, hj => by
    have hb := sub_bytes hF (16 * j) 16
    have hl : (subLaw F (16 * j) 16).length = 16 := subLaw_len (by omega)
    exact mulN_lt _ (Nat.xor_lt_two_pow (rhN_lt hy hF j (by omega)) (nB_lt16 hb hl))
theorem full_chunk {z : List Int} {n j : Nat} (hn : n ≤ z.length) (hj : 16 * j < n) : ckLaw z n j = subLaw (fullLaw (subLaw z 0 n) (padLaw n)) (16 * j) 16 := by
  have lz : (subLaw z 0 n).length = n := subLaw_len (by omega)
  have e0 : subLaw z 0 n = List.take n z := rfl
  unfold fullLaw
  rw [e0]
  rw [e0] at lz
  unfold subLaw
  rw [List.drop_append, lz]
  by_cases h : 16 * j + 16 ≤ n
  · rw [ck_full h, List.take_append_of_le_length (by rw [List.length_drop, lz]; omega), List.drop_take, List.take_take, show min 16 (n - 16 * j) = 16 by omega]; rfl
  · rw [ck_part (by omega), List.take_append, List.length_drop, lz, List.drop_take, List.take_take, show min 16 (n - 16 * j) = n - 16 * j by omega]
    congr 1
    rw [List.drop_replicate, List.take_replicate]
    congr 1
    unfold padLaw
    omega
theorem hy_rhN {h y : Nat} {z : List Int} {n : Nat} (hn : n ≤ z.length) : ∀ j, 16 * j < n + 16 → hyLaw (wN h) (wN y) z n j = wN (rhN h y (fullLaw (subLaw z 0 n) (padLaw n)) j)
  | 0, _ => rfl
  | j + 1, hj => by
    have ih := hy_rhN (h := h) (y := y) hn j (by omega)
    show mwLaw (xwLaw (hyLaw (wN h) (wN y) z n j) (gwLaw (ckLaw z n j))) (wN h) = _
    rw [ih, gw_eq, xw_wN, mw_wN, full_chunk hn (by omega)]
    rfl
theorem hs_rhN {h y : Nat} {z : List Int} {n : Nat} (hn : n ≤ z.length) : hsLaw (wN h) (wN y) z n = wN (rhN h y (fullLaw (subLaw z 0 n) (padLaw n)) ((n + 15) / 16)) := hy_rhN hn _ (by omega)
theorem rh_rhN {H x : List Int} (hx : Bytes x) : ∀ j, 16 * j ≤ x.length → rhLaw H x j = bN (rhN (nB H) 0 x j)
  | 0, _ => by kernel_rfl
  | j + 1, hj => by
    have ih := rh_rhN (H := H) hx j (by omega)
    have hb := sub_bytes hx (16 * j) 16
    have hl : (subLaw x (16 * j) 16).length = 16 := subLaw_len (by omega)
    have hlt := rhN_lt (h := nB H) (y := 0) (by decide) hx j (by omega)
    show bN (mulN (nB (plusLaw (rhLaw H x j) (subLaw x (16 * j) 16))) (nB H)) = _
    rw [ih, nB_plus (bN_bytes _) hb (bN_len _) hl, nB_bN hlt]
    rfl
theorem zero_w : ([0, 0] : List Int) = wN 0 := by kernel_rfl
theorem fullp_len {z : List Int} {n : Nat} (hn : n ≤ z.length) : (fullLaw (subLaw z 0 n) (padLaw n)).length = 16 * ((n + 15) / 16) := by
  rw [full_len, subLaw_len (by omega)]
  unfold padLaw; omega
theorem hash_eq {H z : List Int} {n : Nat} (hn : n ≤ z.length) (hz : Bytes z) : ptLaw (hsLaw (gwLaw H) [0, 0] z n) = rhashLaw H (fullLaw (subLaw z 0 n) (padLaw n)) := by
  have hl := fullp_len hn
  have hb := full_bytes (sub_bytes hz 0 n) (padLaw n)
  unfold rhashLaw
  rw [gw_eq, zero_w, hs_rhN hn, pt_wN, hl, show 16 * ((n + 15) / 16) / 16 = (n + 15) / 16 by omega, rh_rhN hb _ (by omega)]
end Go.Abs

set_option linter.unusedVariables false
set_option linter.unusedSimpArgs false
set_option maxRecDepth 8000
namespace Go.Abs
open Go.Proofs.Try
/-! ### GcmProducts, GcmHashes -/
def holdLaw (n : Nat) (l : List Int) : List Int := match n with
  | 0 => []
  | _ + 1 => l
theorem hold_eq {n : Nat} (h : 1 ≤ n) (l : List Int) : holdLaw n l = l := by
  cases n with
  | zero => omega
  | succ n => rfl
noncomputable def sm36hc (args : List AVal) (T : Tab) (az : List Int) (bz : List Int) (ga : Nat) (gb : Nat) (owa : Bool) (owb : Bool) (ca : Option Nat) (cb : Option Nat) : Res := ⟨[.tab T [some ⟨.ints .u8 az, ga, owa, 5⟩, some ⟨.ints .u8 bz, gb, owb, 5⟩], .val (.tuple args) (.tuple [.slice 1 0 ga 0 16 ca, .slice 1 1 gb 0 16 cb]), .leN 16 az.length, .leN 16 bz.length, .p (Bytes az), .p (Bytes bz)], .tuple [.slice 1 2 0 0 16 (some 16), .int .i64 0], [some ⟨.ints .u8 az, ga, owa, 5⟩, some ⟨.ints .u8 bz, gb, owb, 5⟩, some ⟨.ints .u8 (holdLaw az.length (mbLaw (subLaw az 0 16) (subLaw bz 0 16))), 0, true, 5⟩]⟩
theorem sm36hc_ok {args : List AVal} {T : Tab} {az : List Int} {bz : List Int} {ga : Nat} {gb : Nat} {owa : Bool} {owb : Bool} {ca : Option Nat} {cb : Option Nat} (h : allP (sm36hc args T az bz ga gb owa owb ca cb).cs) : Small prog (fun _ => none) 36 args T (sm36hc args T az bz ga gb owa owb ca cb).val (sm36hc args T az bz ga gb owa owb ca cb).tab := by
  obtain ⟨hT, hv, h1, h2, h3, h4, _⟩ := h
  simp only [Con.h] at hT hv h1 h2 h3 h4
  injection hv with hv
  subst hT hv
  refine small_ofG (R := R36g az bz ga gb owa owb ca cb) (keep := [0,1,2]) eGs_ok hmA (f := 36) (fn := f36) (by kernel_rfl) (by kernel_rfl) FnOrc.nil rfl (R36g_ok ?_) R36g_val (by rw [R36g_tab]; show _ = [_, _, some (⟨.ints .u8 (holdLaw az.length (mbLaw (subLaw az 0 16) (subLaw bz 0 16))), 0, true, 5⟩ : AObj)]; rw [hold_eq (by omega)])
  simp only [allP, Con.h, h1, h2, h3, h4, eq_self, true_and, and_true]
noncomputable def sm36h : Summary := fun args T => sm36hc args T (xsAt T 0) (xsAt T 1) (gAt T 0) (gAt T 1) (owAt T 0) (owAt T 1) (capOf (vAt args 0)) (capOf (vAt args 1))
theorem sm36h_ok : SmOk prog (fun _ => none) 36 sm36h := fun args T h => sm36hc_ok h
noncomputable def S36h : Summary := callR sm36h []
theorem S36h_ok : SumOk prog (fun _ => none) 36 S36h := callR_ok sm36h_ok []
noncomputable def eV1 : Env := eA [(18, S18), (22, S22), (30, S30), (31, S31), (35, S35), (36, S36h)]
theorem eV1_ok : EnvOk eV1 := envOf_ok tysA_ok (SumsOk.cons (fn := f18) S18_ok (by kernel_rfl) (by kernel_rfl) (by kernel_rfl) (SumsOk.cons (fn := f22) S22_ok (by kernel_rfl) (by kernel_rfl) (by kernel_rfl) (SumsOk.cons (fn := f30) S30_ok (by kernel_rfl) (by kernel_rfl) (by kernel_rfl) (SumsOk.cons (fn := f31) S31_ok (by kernel_rfl) (by kernel_rfl) (by kernel_rfl) (SumsOk.cons (fn := f35) S35_ok (by kernel_rfl) (by kernel_rfl) (by kernel_rfl) (SumsOk.cons (fn := f36) S36h_ok (by kernel_rfl) (by kernel_rfl) (by kernel_rfl) trivial))))))
noncomputable def eV1x : Env := eA [(18, S18), (22, S22), (30, S30), (31, S31), (35, S35x), (36, S36x)]
theorem eV1x_ok : EnvOk eV1x := envOf_ok tysA_ok (SumsOk.cons (fn := f18) S18_ok (by kernel_rfl) (by kernel_rfl) (by kernel_rfl) (SumsOk.cons (fn := f22) S22_ok (by kernel_rfl) (by kernel_rfl) (by kernel_rfl) (SumsOk.cons (fn := f30) S30_ok (by kernel_rfl) (by kernel_rfl) (by kernel_rfl) (SumsOk.cons (fn := f31) S31_ok (by kernel_rfl) (by kernel_rfl) (by kernel_rfl) (SumsOk.cons (fn := f35) S35x_ok (by kernel_rfl) (by kernel_rfl) (by kernel_rfl) (SumsOk.cons (fn := f36) S36x_ok (by kernel_rfl) (by kernel_rfl) (by kernel_rfl) trivial))))))
noncomputable def eV2 : Env := eA [(18, S18), (22, S22), (30, S30), (31, S31), (37, S37), (38, S38)]
theorem eV2_ok : EnvOk eV2 := envOf_ok tysA_ok (SumsOk.cons (fn := f18) S18_ok (by kernel_rfl) (by kernel_rfl) (by kernel_rfl) (SumsOk.cons (fn := f22) S22_ok (by kernel_rfl) (by kernel_rfl) (by kernel_rfl) (SumsOk.cons (fn := f30) S30_ok (by kernel_rfl) (by kernel_rfl) (by kernel_rfl) (SumsOk.cons (fn := f31) S31_ok (by kernel_rfl) (by kernel_rfl) (by kernel_rfl) (SumsOk.cons (fn := f37) S37_ok (by kernel_rfl) (by kernel_rfl) (by kernel_rfl) (SumsOk.cons (fn := f38) S38_ok (by kernel_rfl) (by kernel_rfl) (by kernel_rfl) trivial))))))
noncomputable def eV2x : Env := eA [(18, S18), (22, S22), (30, S30), (31, S31), (37, S37x), (38, S38x)]
theorem eV2x_ok : EnvOk eV2x := envOf_ok tysA_ok (SumsOk.cons (fn := f18) S18_ok (by kernel_rfl) (by kernel_rfl) (by kernel_rfl) (SumsOk.cons (fn := f22) S22_ok (by kernel_rfl) (by kernel_rfl) (by kernel_rfl) (SumsOk.cons (fn := f30) S30_ok (by kernel_rfl) (by kernel_rfl) (by kernel_rfl) (SumsOk.cons (fn := f31) S31_ok (by kernel_rfl) (by kernel_rfl) (by kernel_rfl) (SumsOk.cons (fn := f37) S37x_ok (by kernel_rfl) (by kernel_rfl) (by kernel_rfl) (SumsOk.cons (fn := f38) S38x_ok (by kernel_rfl) (by kernel_rfl) (by kernel_rfl) trivial))))))
noncomputable def R12 (zs bs : List Int) : Res := resG 2 [0,1] (runF eV1 f12 [] 400 [.slice 1 0 0 0 16 (some zs.length), .slice 1 1 0 0 16 (some bs.length)] [some ⟨.ints .u8 zs, 0, false, 5⟩, some ⟨.ints .u8 bs, 0, false, 5⟩] [some true, some true, some true, some true, some true, some true, some true])
theorem R12_ok {zs bs : List Int} (h : allP [.leN 16 zs.length, .leN 16 bs.length, .leN 16 (subLaw zs 0 16 ++ [201, 202]).length, .leN 16 (subLaw bs 0 16 ++ [201, 202]).length, .p (Bytes (subLaw zs 0 16 ++ [201, 202])), .p (Bytes (subLaw bs 0 16 ++ [201, 202])), .leN 16 zs.length, .leN 16 bs.length, .p (Bytes zs), .p (Bytes bs), .leN 16 (holdLaw zs.length (mbLaw (subLaw zs 0 16) (subLaw bs 0
 16))).length, .p ((List.map byteOf (List.take 16 (ptLaw (mwLaw (gwLaw (subLaw (subLaw zs 0 16 ++ [201, 202]) 0 16)) (gwLaw (subLaw (subLaw bs 0 16 ++ [201, 202]) 0 16))))) == List.map byteOf (List.take 16 (holdLaw zs.length (mbLaw (subLaw zs 0 16) (subLaw bs 0 16))))) = true), .p (true = true), .orN 18 16 18 (subLaw zs 0 16 ++ [201, 202]).length, .orN 16 18 16 (subLaw zs 0 16 ++ [201, 202]).length,
 .leN 16 (subLaw zs 0 16 ++ [201, 202]).length, .leN 16 zs.length, .p ((List.map byteOf (List.take 16 (subLaw zs 0 16 ++ [201, 202])) == List.map byteOf (List.take 16 zs)) = true), .leN 17 (subLaw zs 0 16 ++ [201, 202]).length, .p (((subLaw zs 0 16 ++ [201, 202]).getD 16 0 == 201) = true), .leN 18 (subLaw zs 0 16 ++ [201, 202]).length, .p (((subLaw zs 0 16 ++ [201, 202]).getD 17 0 == 202) = true),
 .p (true = true), .orN 18 16 18 (subLaw bs 0 16 ++ [201, 202]).length, .orN 16 18 16 (subLaw bs 0 16 ++ [201, 202]).length, .leN 16 (subLaw bs 0 16 ++ [201, 202]).length, .leN 16 bs.length, .p ((List.map byteOf (List.take 16 (subLaw bs 0 16 ++ [201, 202])) == List.map byteOf (List.take 16 bs)) = true), .leN 17 (subLaw bs 0 16 ++ [201, 202]).length, .p (((subLaw bs 0 16 ++ [201, 202]).getD 16 0 ==
 201) = true), .leN 18 (subLaw bs 0 16 ++ [201, 202]).length, .p (((subLaw bs 0 16 ++ [201, 202]).getD 17 0 == 202) = true), .p (true = true), .p (true = true)]) : OkR (R12 zs bs) := OkR.dem (fl := bitsF 103 156583382503054950398515413947) (by kernel_rfl) (by kernel_rfl) (by kernel_rfl) h
theorem R12_val {zs bs : List Int} : (R12 zs bs).val = .bool true := by kernel_rfl
theorem R12_tab {zs bs : List Int} : (R12 zs bs).tab = [some ⟨.ints .u8 zs, 0, false, 5⟩, some ⟨.ints .u8 bs, 0, false, 5⟩] := by kernel_rfl
noncomputable def R12x (zs bs : List Int) (n m : Nat) : Res := resG 2 [0,1] (runF eV1x f12 [] 400 [.slice 1 0 0 0 n (some zs.length), .slice 1 1 0 0 m (some bs.length)] [some ⟨.ints .u8 zs, 0, false, 5⟩, some ⟨.ints .u8 bs, 0, false, 5⟩] [some true, some true, some true, some true, some true, some true, some true])
theorem R12x_ok {zs bs : List Int} {n m : Nat} (h : allP [.leN (0 + n) zs.length, .leN n 140737488355300, .leN (0 + m) bs.length, .leN m 140737488355300, .p (n ≠ 16 ∨ m ≠ 16), .p (n ≠ 16 ∨ m ≠ 16), .p (true = true), .p (true = true), .rng (-9223372036854775808) ((↑n : Int) + 2) 9223372036854775807, .leI 0 ((↑n : Int) + 2), .leN 0 (n + 2), .orN (n + 2) n (0 + (n + 2)) (subLaw zs 0 n ++ [201,
 202]).length, .leI 0 (↑n : Int), .leN 0 n, .orN n (n + 2) (0 + n) (subLaw zs 0 n ++ [201, 202]).length, .leN (0 + n) (subLaw zs 0 n ++ [201, 202]).length, .leN (0 + n) zs.length, .p ((List.map byteOf (List.take n (subLaw zs 0 n ++ [201, 202])) == List.map byteOf (List.take n zs)) = true), .leI 0 (↑n : Int), .leI ((↑n : Int) + 1) (↑(n + 2) : Int), .leN (n + 1) (subLaw zs 0 n ++ [201, 202]).length,
 .p (((subLaw zs 0 n ++ [201, 202]).getD n 0 == 201) = true), .rng (-9223372036854775808) ((↑n : Int) + 1) 9223372036854775807, .leI 0 ((↑n : Int) + 1), .leI ((↑n : Int) + 1 + 1) (↑(n + 2) : Int), .leN (n + 1 + 1) (subLaw zs 0 n ++ [201, 202]).length, .p (((subLaw zs 0 n ++ [201, 202]).getD (n + 1) 0 == 202) = true), .p (true = true), .rng (-9223372036854775808) ((↑m : Int) + 2) 9223372036854775807,
 .leI 0 ((↑m : Int) + 2), .leN 0 (m + 2), .orN (m + 2) m (0 + (m + 2)) (subLaw bs 0 m ++ [201, 202]).length, .leI 0 (↑m : Int), .leN 0 m, .orN m (m + 2) (0 + m) (subLaw bs 0 m ++ [201, 202]).length, .leN (0 + m) (subLaw bs 0 m ++ [201, 202]).length, .leN (0 + m) bs.length, .p ((List.map byteOf (List.take m (subLaw bs 0 m ++ [201, 202])) == List.map byteOf (List.take m bs)) = true), .leI 0 (↑m :
 Int), .leI ((↑m : Int) + 1) (↑(m + 2) : Int), .leN (m + 1) (subLaw bs 0 m ++ [201, 202]).length, .p (((subLaw bs 0 m ++ [201, 202]).getD m 0 == 201) = true), .rng (-9223372036854775808) ((↑m : Int) + 1) 9223372036854775807, .leI 0 ((↑m : Int) + 1), .leI ((↑m : Int) + 1 + 1) (↑(m + 2) : Int), .leN (m + 1 + 1) (subLaw bs 0 m ++ [201, 202]).length, .p (((subLaw bs 0 m ++ [201, 202]).getD (m + 1) 0 ==
 202) = true), .p (true = true), .p (true = true)]) : OkR (R12x zs bs n m) := OkR.dem (fl := bitsF 93 89822455624690075299767091) (by kernel_rfl) (by kernel_rfl) (by kernel_rfl) h
theorem R12x_val {zs bs : List Int} {n m : Nat} : (R12x zs bs n m).val = .bool true := by kernel_rfl
theorem R12x_tab {zs bs : List Int} {n m : Nat} : (R12x zs bs n m).tab = [some ⟨.ints .u8 zs, 0, false, 5⟩, some ⟨.ints .u8 bs, 0, false, 5⟩] := by kernel_rfl
noncomputable def R13 (zs bs : List Int) (m : Nat) : Res := resG 2 [0,1] (runF eV2 f13 [] 400 [.slice 1 0 0 0 16 (some zs.length), .slice 1 1 0 0 m (some bs.length)] [some ⟨.ints .u8 zs, 0, false, 5⟩, some ⟨.ints .u8 bs, 0, false, 5⟩] [some true, some true, some true, some true, some true, some true, some true])
theorem R13_ok {zs bs : List Int} {m : Nat} (h : allP [.leN 16 zs.length, .leN (0 + m) bs.length, .leN m 140737488355300, .leN 16 (subLaw zs 0 16 ++ [201, 202]).length, .leN m (subLaw bs 0 m ++ [201, 202]).length, .p (Bytes (subLaw zs 0 16 ++ [201, 202])), .p (Bytes (subLaw bs 0 m ++ [201, 202])), .leN m 140737488352000, .leN 16 zs.length, .leN m bs.length, .p (Bytes zs), .p (Bytes bs), .leN m
 140737488352000, .leN 16 (rhashLaw (subLaw zs 0 16) (fullLaw (subLaw bs 0 m) (padLaw m))).length, .p ((List.map byteOf (List.take 16 (ptLaw (hsLaw (gwLaw (subLaw (subLaw zs 0 16 ++ [201, 202]) 0 16)) [0, 0] (subLaw bs 0 m ++ [201, 202]) m))) == List.map byteOf (List.take 16 (rhashLaw (subLaw zs 0 16) (fullLaw (subLaw bs 0 m) (padLaw m))))) = true), .p (true = true), .orN 18 16 18 (subLaw zs 0 16 ++
 [201, 202]).length, .orN 16 18 16 (subLaw zs 0 16 ++ [201, 202]).length, .leN 16 (subLaw zs 0 16 ++ [201, 202]).length, .leN 16 zs.length, .p ((List.map byteOf (List.take 16 (subLaw zs 0 16 ++ [201, 202])) == List.map byteOf (List.take 16 zs)) = true), .leN 17 (subLaw zs 0 16 ++ [201, 202]).length, .p (((subLaw zs 0 16 ++ [201, 202]).getD 16 0 == 201) = true), .leN 18 (subLaw zs 0 16 ++ [201,
 202]).length, .p (((subLaw zs 0 16 ++ [201, 202]).getD 17 0 == 202) = true), .p (true = true), .rng (-9223372036854775808) ((↑m : Int) + 2) 9223372036854775807, .leI 0 ((↑m : Int) + 2), .leN 0 (m + 2), .orN (m + 2) m (0 + (m + 2)) (subLaw bs 0 m ++ [201, 202]).length, .leI 0 (↑m : Int), .leN 0 m, .orN m (m + 2) (0 + m) (subLaw bs 0 m ++ [201, 202]).length, .leN (0 + m) (subLaw bs 0 m ++ [201,
 202]).length, .leN (0 + m) bs.length, .p ((List.map byteOf (List.take m (subLaw bs 0 m ++ [201, 202])) == List.map byteOf (List.take m bs)) = true), .leI 0 (↑m : Int), .leI ((↑m : Int) + 1) (↑(m + 2) : Int), .leN (m + 1) (subLaw bs 0 m ++ [201, 202]).length, .p (((subLaw bs 0 m ++ [201, 202]).getD m 0 == 201) = true), .rng (-9223372036854775808) ((↑m : Int) + 1) 9223372036854775807, .leI 0 ((↑m :
 Int) + 1), .leI ((↑m : Int) + 1 + 1) (↑(m + 2) : Int), .leN (m + 1 + 1) (subLaw bs 0 m ++ [201, 202]).length, .p (((subLaw bs 0 m ++ [201, 202]).getD (m + 1) 0 == 202) = true), .p (true = true), .p (true = true)]) : OkR (R13 zs bs m) := OkR.dem (fl := bitsF 105 367912778246251582174110548795) (by kernel_rfl) (by kernel_rfl) (by kernel_rfl) h
theorem R13_val {zs bs : List Int} {m : Nat} : (R13 zs bs m).val = .bool true := by kernel_rfl
theorem R13_tab {zs bs : List Int} {m : Nat} : (R13 zs bs m).tab = [some ⟨.ints .u8 zs, 0, false, 5⟩, some ⟨.ints .u8 bs, 0, false, 5⟩] := by kernel_rfl
noncomputable def R13x (zs bs : List Int) (n m : Nat) : Res := resG 2 [0,1] (runF eV2x f13 [] 400 [.slice 1 0 0 0 n (some zs.length), .slice 1 1 0 0 m (some bs.length)] [some ⟨.ints .u8 zs, 0, false, 5⟩, some ⟨.ints .u8 bs, 0, false, 5⟩] [some true, some true, some true, some true, some true, some true, some true])
theorem R13x_ok {zs bs : List Int} {n m : Nat} (h : allP [.leN (0 + n) zs.length, .leN n 140737488355300, .leN (0 + m) bs.length, .leN m 140737488355300, .p (n ≠ 16), .p (n ≠ 16), .p (true = true), .p (true = true), .rng (-9223372036854775808) ((↑n : Int) + 2) 9223372036854775807, .leI 0 ((↑n : Int) + 2), .leN 0 (n + 2), .orN (n + 2) n (0 + (n + 2)) (subLaw zs 0 n ++ [201, 202]).length, .leI 0 (↑n
 : Int), .leN 0 n, .orN n (n + 2) (0 + n) (subLaw zs 0 n ++ [201, 202]).length, .leN (0 + n) (subLaw zs 0 n ++ [201, 202]).length, .leN (0 + n) zs.length, .p ((List.map byteOf (List.take n (subLaw zs 0 n ++ [201, 202])) == List.map byteOf (List.take n zs)) = true), .leI 0 (↑n : Int), .leI ((↑n : Int) + 1) (↑(n + 2) : Int), .leN (n + 1) (subLaw zs 0 n ++ [201, 202]).length, .p (((subLaw zs 0 n ++
 [201, 202]).getD n 0 == 201) = true), .rng (-9223372036854775808) ((↑n : Int) + 1) 9223372036854775807, .leI 0 ((↑n : Int) + 1), .leI ((↑n : Int) + 1 + 1) (↑(n + 2) : Int), .leN (n + 1 + 1) (subLaw zs 0 n ++ [201, 202]).length, .p (((subLaw zs 0 n ++ [201, 202]).getD (n + 1) 0 == 202) = true), .p (true = true), .rng (-9223372036854775808) ((↑m : Int) + 2) 9223372036854775807, .leI 0 ((↑m : Int) +
 2), .leN 0 (m + 2), .orN (m + 2) m (0 + (m + 2)) (subLaw bs 0 m ++ [201, 202]).length, .leI 0 (↑m : Int), .leN 0 m, .orN m (m + 2) (0 + m) (subLaw bs 0 m ++ [201, 202]).length, .leN (0 + m) (subLaw bs 0 m ++ [201, 202]).length, .leN (0 + m) bs.length, .p ((List.map byteOf (List.take m (subLaw bs 0 m ++ [201, 202])) == List.map byteOf (List.take m bs)) = true), .leI 0 (↑m : Int), .leI ((↑m : Int) +
 1) (↑(m + 2) : Int), .leN (m + 1) (subLaw bs 0 m ++ [201, 202]).length, .p (((subLaw bs 0 m ++ [201, 202]).getD m 0 == 201) = true), .rng (-9223372036854775808) ((↑m : Int) + 1) 9223372036854775807, .leI 0 ((↑m : Int) + 1), .leI ((↑m : Int) + 1 + 1) (↑(m + 2) : Int), .leN (m + 1 + 1) (subLaw bs 0 m ++ [201, 202]).length, .p (((subLaw bs 0 m ++ [201, 202]).getD (m + 1) 0 == 202) = true), .p (true =
 true), .p (true = true)]) : OkR (R13x zs bs n m) := OkR.dem (fl := bitsF 93 89822455624690075299767091) (by kernel_rfl) (by kernel_rfl) (by kernel_rfl) h
theorem R13x_val {zs bs : List Int} {n m : Nat} : (R13x zs bs n m).val = .bool true := by kernel_rfl
theorem R13x_tab {zs bs : List Int} {n m : Nat} : (R13x zs bs n m).tab = [some ⟨.ints .u8 zs, 0, false, 5⟩, some ⟨.ints .u8 bs, 0, false, 5⟩] := by kernel_rfl
end Go.Abs

set_option linter.unusedVariables false
set_option linter.unusedSimpArgs false
set_option maxRecDepth 8000
namespace Go.Abs
open Go.Proofs.Try
theorem lent_bytes {zs : List Int} (hz : Bytes zs) (n : Nat) : Bytes (subLaw zs 0 n ++ [201, 202]) := (sub_bytes hz 0 n).append (fun i hi => by
  match i, hi with
  | 0, _ => exact ⟨by decide, by decide⟩
  | 1, _ => exact ⟨by decide, by decide⟩
  | i + 2, hi => simp at hi; omega)
theorem law12 {zs bs : List Int} {n m : Nat} (hn : n ≤ zs.length) (hz : ∀ z ∈ zs, 0 ≤ z ∧ z < 256) (hk : zs.length ≤ 140737488351232) (hm : m ≤ bs.length) (hb : ∀ z ∈ bs, 0 ≤ z ∧ z < 256) (hk' : bs.length ≤ 140737488351232) :
    Small prog (fun _ => none) 12 [.slice 1 0 0 0 n (some zs.length), .slice 1 1 0 0 m (some bs.length)] [some ⟨.ints .u8 zs, 0, false, 5⟩, some ⟨.ints .u8 bs, 0, false, 5⟩] (.bool true) [some ⟨.ints .u8 zs, 0, false, 5⟩, some ⟨.ints .u8 bs, 0, false, 5⟩] := by
  have hl : (subLaw zs 0 n).length = n := subLaw_len (by omega)
  have hl' : (subLaw bs 0 m).length = m := subLaw_len (by omega)
  have e0 := lent_a hn
  have e1 := lent_b hn
  have f0 := lent_a hm
  have f1 := lent_b hm
  have hz' := Bytes.of hz
  have hb' := Bytes.of hb
  by_cases h : n = 16 ∧ m = 16
  · obtain ⟨rfl, rfl⟩ := h
    have q := lent_bytes hz' 16
    have q' := lent_bytes hb' 16
    have hm2 := mb_len (subLaw zs 0 16) (subLaw bs 0 16)
    have hh : holdLaw zs.length (mbLaw (subLaw zs 0 16) (subLaw bs 0 16)) = mbLaw (subLaw zs 0 16) (subLaw bs 0 16) := hold_eq (by omega) _
    refine small_ofG (keep := [0,1]) (R := R12 zs bs) eV1_ok hmA (f := 12) (fn := f12) (by kernel_rfl) (by kernel_rfl) FnOrc.nil rfl (R12_ok ?_) R12_val R12_tab
    rw [lent_sub hn, lent_sub hm, times_eq, hh]
    generalize mbLaw (subLaw zs 0 16) (subLaw bs 0 16) = P at hm2 ⊢
    simp only [allP, Con.h, lent_take hn, lent_take hm, e0, e1, f0, f1, hl, hl', hm2, hz', hb', q, q', beq_self_eq_true, List.length_append, List.length_cons, List.length_nil, eq_self, true_and, and_true, Nat.zero_add, Nat.reduceAdd]
    omega
  · have hne : n ≠ 16 ∨ m ≠ 16 := by omega
    refine small_ofG (keep := [0,1]) (R := R12x zs bs n m) eV1x_ok hmA (f := 12) (fn := f12) (by kernel_rfl) (by kernel_rfl) FnOrc.nil rfl (R12x_ok ?_) R12x_val R12x_tab
    simp only [allP, Con.h, lent_take hn, lent_take hm, e0, e1, f0, f1, hl, hl', hne, beq_self_eq_true, List.length_append, List.length_cons, List.length_nil, eq_self, true_and, and_true, Nat.zero_add]
    omega
theorem law13 {zs bs : List Int} {n m : Nat} (hn : n ≤ zs.length) (hz : ∀ z ∈ zs, 0 ≤ z ∧ z < 256) (hk : zs.length ≤ 140737488351232) (hm : m ≤ bs.length) (hb : ∀ z ∈ bs, 0 ≤ z ∧ z < 256) (hk' : bs.length ≤ 140737488351232) :
    Small prog (fun _ => none) 13 [.slice 1 0 0 0 n (some zs.length), .slice 1 1 0 0 m (some bs.length)] [some ⟨.ints .u8 zs, 0, false, 5⟩, some ⟨.ints .u8 bs, 0, false, 5⟩] (.bool true) [some ⟨.ints .u8 zs, 0, false, 5⟩, some ⟨.ints .u8 bs, 0, false, 5⟩] := by
  have hl : (subLaw zs 0 n).length = n := subLaw_len (by omega)
  have hl' : (subLaw bs 0 m).length = m := subLaw_len (by omega)
  have e0 := lent_a hn
  have e1 := lent_b hn
  have f0 := lent_a hm
  have f1 := lent_b hm
  have hz' := Bytes.of hz
  have hb' := Bytes.of hb
  by_cases h : n = 16
  · subst h
    have q := lent_bytes hz' 16
    have q' := lent_bytes hb' m
    have hh : ptLaw (hsLaw (gwLaw (subLaw zs 0 16)) [0, 0] (subLaw bs 0 m ++ [201, 202]) m) = rhashLaw (subLaw zs 0 16) (fullLaw (subLaw bs 0 m) (padLaw m)) := by
      rw [hash_eq (by rw [List.length_append, hl']; omega) q', lent_sub hm]
    have hr := rh_len (subLaw zs 0 16) (fullLaw (subLaw bs 0 m) (padLaw m)) ((fullLaw (subLaw bs 0 m) (padLaw m)).length / 16)
    have hr' : (rhashLaw (subLaw zs 0 16) (fullLaw (subLaw bs 0 m) (padLaw m))).length = 16 := hr
    refine small_ofG (keep := [0,1]) (R := R13 zs bs m) eV2_ok hmA (f := 13) (fn := f13) (by kernel_rfl) (by kernel_rfl) FnOrc.nil rfl (R13_ok ?_) R13_val R13_tab
    rw [lent_sub hn, hh]
    generalize rhashLaw (subLaw zs 0 16) (fullLaw (subLaw bs 0 m) (padLaw m)) = P at hr' ⊢
    simp only [allP, Con.h, lent_take hn, lent_take hm, e0, e1, f0, f1, hl, hl', hr', hz', hb', q, q', beq_self_eq_true, List.length_append, List.length_cons, List.length_nil, eq_self, true_and, and_true, Nat.zero_add, Nat.reduceAdd]
    omega
  · refine small_ofG (keep := [0,1]) (R := R13x zs bs n m) eV2x_ok hmA (f := 13) (fn := f13) (by kernel_rfl) (by kernel_rfl) FnOrc.nil rfl (R13x_ok ?_) R13x_val R13x_tab
    simp only [allP, Con.h, lent_take hn, lent_take hm, e0, e1, f0, f1, hl, hl', h, ne_eq, not_false_eq_true, beq_self_eq_true, List.length_append, List.length_cons, List.length_nil, eq_self, true_and, and_true, Nat.zero_add]
    omega
end Go.Abs
