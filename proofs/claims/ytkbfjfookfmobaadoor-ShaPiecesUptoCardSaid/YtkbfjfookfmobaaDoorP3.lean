/- What functions of the given program come to, by the abstract machine: texts of a proof. -/
import Derived.Test.YtkbfjfookfmobaaDoorP2
import Derived.Test.YtkbfjfookfmobaaDoorAbs2
set_option linter.unusedVariables false
set_option linter.unusedSimpArgs false
set_option maxRecDepth 100000
set_option maxHeartbeats 4000000
namespace Go.Abs
open Go.Proofs Go.Proofs.Tryd
/-! ### ShaPieces: the loops over bytes, told -/
def bu6Law (X : List Int) : Nat → List Int
  | 0 => X
  | k + 1 => (bu6Law X k).set k (((bu6Law X k).getD k 0 + 1) % 256)
theorem bu6_len (X : List Int) : ∀ k, (bu6Law X k).length = X.length
  | 0 => rfl
  | k + 1 => by rw [bu6Law, List.length_set, bu6_len X k]
def zo6Law (v : List Int) : Nat → List Int
  | 0 => v
  | k + 1 => (zo6Law v k).set k 0
theorem zo6_len (v : List Int) : ∀ k, (zo6Law v k).length = v.length
  | 0 => rfl
  | k + 1 => by rw [zo6Law, List.length_set, zo6_len v k]
theorem loop6x {z hb ob al v : List Int} {Z : List (List Int)} {bits : Int} {gh go ga gv nh no na n : Nat} {lg : Bool} {c : Option Nat} {i : Int} (hv : n ≤ v.length) (hn : n ≤ 140737488355000) : To eP 101 8 (.block 2 (.loop (roundOf 2 f6))) [(0, .bool lg), (1, .slice 1 0 0 0 (Z.length + 1) c), (6, .var 2 0), (7, .var 3 0), (8, .slice 1 6 ga 0 na none), (9, .int .i64 i), (10, .slice 1 7 gv 0 n none), (11, .int .i64 0)] [some ⟨.frows 1 0 (z :: Z) [], 0, false, 22⟩, some ⟨.fam (z :: Z), 0, false, 5⟩, some ⟨.agg [.int .i64 bits, .slice 1 4 gh 0 nh none], 0, true, 35⟩, some ⟨.agg [.int .i64 bits, .slice 1 5 go 0 no none], 0, true, 35⟩, some ⟨.ints .u8 hb, gh, true, 5⟩, some ⟨.ints .u8 ob, go, true, 5⟩, some ⟨.ints .u8 al, ga, true, 5⟩, some ⟨.ints .u8 v, gv, true, 5⟩] .normal [(0, .bool lg), (1, .slice 1 0 0 0 (Z.length + 1) c), (6, .var 2 0), (7, .var 3 0), (8, .slice 1 6 ga 0 na none), (9, .int .i64 i)] [some ⟨.frows 1 0 (z :: Z) [], 0, false, 22⟩, some ⟨.fam (z :: Z), 0, false, 5⟩, some ⟨.agg [.int .i64 bits, .slice 1 4 gh 0 nh none], 0, true, 35⟩, some ⟨.agg [.int .i64 bits, .slice 1 5 go 0 no none], 0, true, 35⟩, some ⟨.ints .u8 hb, gh, true, 5⟩, some ⟨.ints .u8 ob, go, true, 5⟩, some ⟨.ints .u8 al, ga, true, 5⟩, some ⟨.ints .u8 (bu6Law v n), gv, true, 5⟩] := by
  refine To.rounds (E := eP) (n := 101) (k := 8) (id := 2) (c := roundOf 2 f6) (fun k : Nat => [(0, .bool lg), (1, .slice 1 0 0 0 (Z.length + 1) c), (6, .var 2 0), (7, .var 3 0), (8, .slice 1 6 ga 0 na none), (9, .int .i64 i), (10, .slice 1 7 gv 0 n none), (11, .int .i64 (k : Nat))]) (fun k => [some ⟨.frows 1 0 (z :: Z) [], 0, false, 22⟩, some ⟨.fam (z :: Z), 0, false, 5⟩, some ⟨.agg [.int .i64 bits, .slice 1 4 gh 0 nh none], 0, true, 35⟩, some ⟨.agg [.int .i64 bits, .slice 1 5 go 0 no none], 0, true, 35⟩, some ⟨.ints .u8 hb, gh, true, 5⟩, some ⟨.ints .u8 ob, go, true, 5⟩, some ⟨.ints .u8 al, ga, true, 5⟩, some ⟨.ints .u8 (bu6Law v k), gv, true, 5⟩]) n (fun k hk => ?_) (To.of (o := D6x z hb ob al (bu6Law v n) Z bits gh go ga gv nh no na n lg c i (n : Nat)) eP_ok hmS (Nat.le_refl 8) OrcOk.nil rfl (D6x_ok ?_) D6x_ex D6x_fm D6x_tab)
  · have hl := bu6_len v k
    refine To.of (o := A6x z hb ob al (bu6Law v k) Z bits gh go ga gv nh no na n lg c i (k : Nat)) eP_ok hmS (Nat.le_refl 8) OrcOk.nil rfl (A6x_ok ?_) A6x_ex A6x_fm ?_
    · simp only [allP, Con.h, hl, addO_eq, Nat.zero_add, Int.toNat_natCast, decide_eq_true_eq, eq_self, true_and, and_true]
      omega
    · rw [A6x_tab]
      try simp only [addO_eq, Nat.zero_add, Int.toNat_natCast]
      rfl
  · simp only [allP, Con.h, decide_eq_false_iff_not, eq_self, true_and, and_true]
    omega
theorem loop6s {z hb ob al v : List Int} {Z : List (List Int)} {bits : Int} {gh go ga gv nh no na n : Nat} {lg : Bool} {c : Option Nat} {i : Int} (hv : n ≤ v.length) (hn : n ≤ 140737488355000) : To eP 101 8 (.block 4 (.loop (roundOf 4 f6))) [(0, .bool lg), (1, .slice 1 0 0 0 (Z.length + 1) c), (6, .var 2 0), (7, .var 3 0), (8, .slice 1 6 ga 0 na none), (9, .int .i64 i), (13, .slice 1 7 gv 0 n none), (14, .int .i64 0)] [some ⟨.frows 1 0 (z :: Z) [], 0, false, 22⟩, some ⟨.fam (z :: Z), 0, false, 5⟩, some ⟨.agg [.int .i64 bits, .slice 1 4 gh 0 nh none], 0, true, 35⟩, some ⟨.agg [.int .i64 bits, .slice 1 5 go 0 no none], 0, true, 35⟩, some ⟨.ints .u8 hb, gh, true, 5⟩, some ⟨.ints .u8 ob, go, true, 5⟩, some ⟨.ints .u8 al, ga, true, 5⟩, some ⟨.ints .u8 v, gv, true, 5⟩] .normal [(0, .bool lg), (1, .slice 1 0 0 0 (Z.length + 1) c), (6, .var 2 0), (7, .var 3 0), (8, .slice 1 6 ga 0 na none), (9, .int .i64 i)] [some ⟨.frows 1 0 (z :: Z) [], 0, false, 22⟩, some ⟨.fam (z :: Z), 0, false, 5⟩, some ⟨.agg [.int .i64 bits, .slice 1 4 gh 0 nh none], 0, true, 35⟩, some ⟨.agg [.int .i64 bits, .slice 1 5 go 0 no none], 0, true, 35⟩, some ⟨.ints .u8 hb, gh, true, 5⟩, some ⟨.ints .u8 ob, go, true, 5⟩, some ⟨.ints .u8 al, ga, true, 5⟩, some ⟨.ints .u8 (zo6Law v n), gv, true, 5⟩] := by
  refine To.rounds (E := eP) (n := 101) (k := 8) (id := 4) (c := roundOf 4 f6) (fun k : Nat => [(0, .bool lg), (1, .slice 1 0 0 0 (Z.length + 1) c), (6, .var 2 0), (7, .var 3 0), (8, .slice 1 6 ga 0 na none), (9, .int .i64 i), (13, .slice 1 7 gv 0 n none), (14, .int .i64 (k : Nat))]) (fun k => [some ⟨.frows 1 0 (z :: Z) [], 0, false, 22⟩, some ⟨.fam (z :: Z), 0, false, 5⟩, some ⟨.agg [.int .i64 bits, .slice 1 4 gh 0 nh none], 0, true, 35⟩, some ⟨.agg [.int .i64 bits, .slice 1 5 go 0 no none], 0, true, 35⟩, some ⟨.ints .u8 hb, gh, true, 5⟩, some ⟨.ints .u8 ob, go, true, 5⟩, some ⟨.ints .u8 al, ga, true, 5⟩, some ⟨.ints .u8 (zo6Law v k), gv, true, 5⟩]) n (fun k hk => ?_) (To.of (o := D6s z hb ob al (zo6Law v n) Z bits gh go ga gv nh no na n lg c i (n : Nat)) eP_ok hmS (Nat.le_refl 8) OrcOk.nil rfl (D6s_ok ?_) D6s_ex D6s_fm D6s_tab)
  · have hl := zo6_len v k
    refine To.of (o := A6s z hb ob al (zo6Law v k) Z bits gh go ga gv nh no na n lg c i (k : Nat)) eP_ok hmS (Nat.le_refl 8) OrcOk.nil rfl (A6s_ok ?_) A6s_ex A6s_fm ?_
    · simp only [allP, Con.h, hl, addO_eq, Nat.zero_add, Int.toNat_natCast, decide_eq_true_eq, eq_self, true_and, and_true]
      omega
    · rw [A6s_tab]
      try simp only [addO_eq, Nat.zero_add, Int.toNat_natCast]
      rfl
  · simp only [allP, Con.h, decide_eq_false_iff_not, eq_self, true_and, and_true]
    omega
noncomputable def g6xc (vs : List AVal) (T : Tab) (z : List Int) (hb : List Int) (ob : List Int) (al : List Int) (v : List Int) (Z : List (List Int)) (bits : Int) (gh : Nat) (go : Nat) (ga : Nat) (gv : Nat) (nh : Nat) (no : Nat) (na : Nat) (n : Nat) (lg : Bool) (c : Option Nat) (i : Int) : Out := ⟨[.tab T [some ⟨.frows 1 0 (z :: Z) [], 0, false, 22⟩, some ⟨.fam (z :: Z), 0, false, 5⟩, some ⟨.agg [.int .i64 bits, .slice 1 4 gh 0 nh none], 0, true, 35⟩, some ⟨.agg [.int .i64 bits, .slice 1 5 go 0 no none], 0, true, 35⟩, some ⟨.ints .u8 hb, gh, true, 5⟩, some ⟨.ints .u8 ob, go, true, 5⟩, some ⟨.ints .u8 al, ga, true, 5⟩, some ⟨.ints .u8 v, gv, true, 5⟩], .val (.tuple vs) (.tuple [.bool lg, .slice 1 0 0 0 (Z.length + 1) c, .var 2 0, .var 3 0, .slice 1 6 ga 0 na none, .int .i64 i, .slice 1 7 gv 0 n none, .int .i64 0]), .leN n v.length, .leN n 140737488355000], .normal, [(0, .bool lg), (1, .slice 1 0 0 0 (Z.length + 1) c), (6, .var 2 0), (7, .var 3 0), (8, .slice 1 6 ga 0 na none), (9, .int .i64 i)], [some ⟨.frows 1 0 (z :: Z) [], 0, false, 22⟩, some ⟨.fam (z :: Z), 0, false, 5⟩, some ⟨.agg [.int .i64 bits, .slice 1 4 gh 0 nh none], 0, true, 35⟩, some ⟨.agg [.int .i64 bits, .slice 1 5 go 0 no none], 0, true, 35⟩, some ⟨.ints .u8 hb, gh, true, 5⟩, some ⟨.ints .u8 ob, go, true, 5⟩, some ⟨.ints .u8 al, ga, true, 5⟩, some ⟨.ints .u8 (bu6Law v n), gv, true, 5⟩], []⟩
theorem g6xc_ok {vs : List AVal} {T : Tab} {z : List Int} {hb : List Int} {ob : List Int} {al : List Int} {v : List Int} {Z : List (List Int)} {bits : Int} {gh : Nat} {go : Nat} {ga : Nat} {gv : Nat} {nh : Nat} {no : Nat} {na : Nat} {n : Nat} {lg : Bool} {c : Option Nat} {i : Int} (h : Ok (g6xc vs T z hb ob al v Z bits gh go ga gv nh no na n lg c i)) : To eP 101 7 (.block 2 (.loop (roundOf 2 f6))) (zipF [0,1,6,7,8,9,10,11] vs) T (g6xc vs T z hb ob al v Z bits gh go ga gv nh no na n lg c i).ex (g6xc vs T z hb ob al v Z bits gh go ga gv nh no na n lg c i).fm (g6xc vs T z hb ob al v Z bits gh go ga gv nh no na n lg c i).tab := by
  obtain ⟨hT, hv, h1, h2, _⟩ := h.h
  simp only [Con.h] at hT hv h1 h2
  injection hv with hv
  subst hT hv
  exact To.base (Nat.le_of_ble_eq_true rfl) (loop6x h1 h2)
noncomputable def g6x : List AVal → Tab → Out := fun vs T => g6xc vs T (zOf (dAt T 0)) (xsAt T 4) (xsAt T 5) (xsAt T 6) (xsAt T 7) (ZOf (dAt T 0)) (iOf (cAt T 2 0)) (gAt T 4) (gAt T 5) (gAt T 6) (gAt T 7) (lenOf (cAt T 2 1)) (lenOf (cAt T 3 1)) (lenOf (vAt vs 4)) (lenOf (vAt vs 6)) (bOf (vAt vs 0)) (capOf (vAt vs 1)) (iOf (vAt vs 5))
theorem g6x_ok : BlkOk eP f6 2 (.loop (roundOf 2 f6)) (blkGC 7 [0,1,2,3,4,5,6,7] [0,1,6,7,8,9,10,11] g6x) := blkGC_ok fun vs T h => g6xc_ok h
noncomputable def g6sc (vs : List AVal) (T : Tab) (z : List Int) (hb : List Int) (ob : List Int) (al : List Int) (v : List Int) (Z : List (List Int)) (bits : Int) (gh : Nat) (go : Nat) (ga : Nat) (gv : Nat) (nh : Nat) (no : Nat) (na : Nat) (n : Nat) (lg : Bool) (c : Option Nat) (i : Int) : Out := ⟨[.tab T [some ⟨.frows 1 0 (z :: Z) [], 0, false, 22⟩, some ⟨.fam (z :: Z), 0, false, 5⟩, some ⟨.agg [.int .i64 bits, .slice 1 4 gh 0 nh none], 0, true, 35⟩, some ⟨.agg [.int .i64 bits, .slice 1 5 go 0 no none], 0, true, 35⟩, some ⟨.ints .u8 hb, gh, true, 5⟩, some ⟨.ints .u8 ob, go, true, 5⟩, some ⟨.ints .u8 al, ga, true, 5⟩, some ⟨.ints .u8 v, gv, true, 5⟩], .val (.tuple vs) (.tuple [.bool lg, .slice 1 0 0 0 (Z.length + 1) c, .var 2 0, .var 3 0, .slice 1 6 ga 0 na none, .int .i64 i, .slice 1 7 gv 0 n none, .int .i64 0]), .leN n v.length, .leN n 140737488355000], .normal, [(0, .bool lg), (1, .slice 1 0 0 0 (Z.length + 1) c), (6, .var 2 0), (7, .var 3 0), (8, .slice 1 6 ga 0 na none), (9, .int .i64 i)], [some ⟨.frows 1 0 (z :: Z) [], 0, false, 22⟩, some ⟨.fam (z :: Z), 0, false, 5⟩, some ⟨.agg [.int .i64 bits, .slice 1 4 gh 0 nh none], 0, true, 35⟩, some ⟨.agg [.int .i64 bits, .slice 1 5 go 0 no none], 0, true, 35⟩, some ⟨.ints .u8 hb, gh, true, 5⟩, some ⟨.ints .u8 ob, go, true, 5⟩, some ⟨.ints .u8 al, ga, true, 5⟩, some ⟨.ints .u8 (zo6Law v n), gv, true, 5⟩], []⟩
theorem g6sc_ok {vs : List AVal} {T : Tab} {z : List Int} {hb : List Int} {ob : List Int} {al : List Int} {v : List Int} {Z : List (List Int)} {bits : Int} {gh : Nat} {go : Nat} {ga : Nat} {gv : Nat} {nh : Nat} {no : Nat} {na : Nat} {n : Nat} {lg : Bool} {c : Option Nat} {i : Int} (h : Ok (g6sc vs T z hb ob al v Z bits gh go ga gv nh no na n lg c i)) : To eP 101 7 (.block 4 (.loop (roundOf 4 f6))) (zipF [0,1,6,7,8,9,13,14] vs) T (g6sc vs T z hb ob al v Z bits gh go ga gv nh no na n lg c i).ex (g6sc vs T z hb ob al v Z bits gh go ga gv nh no na n lg c i).fm (g6sc vs T z hb ob al v Z bits gh go ga gv nh no na n lg c i).tab := by
  obtain ⟨hT, hv, h1, h2, _⟩ := h.h
  simp only [Con.h] at hT hv h1 h2
  injection hv with hv
  subst hT hv
  exact To.base (Nat.le_of_ble_eq_true rfl) (loop6s h1 h2)
noncomputable def g6s : List AVal → Tab → Out := fun vs T => g6sc vs T (zOf (dAt T 0)) (xsAt T 4) (xsAt T 5) (xsAt T 6) (xsAt T 7) (ZOf (dAt T 0)) (iOf (cAt T 2 0)) (gAt T 4) (gAt T 5) (gAt T 6) (gAt T 7) (lenOf (cAt T 2 1)) (lenOf (cAt T 3 1)) (lenOf (vAt vs 4)) (lenOf (vAt vs 6)) (bOf (vAt vs 0)) (capOf (vAt vs 1)) (iOf (vAt vs 5))
theorem g6s_ok : BlkOk eP f6 4 (.loop (roundOf 4 f6)) (blkGC 7 [0,1,2,3,4,5,6,10] [0,1,6,7,8,9,13,14] g6s) := blkGC_ok fun vs T h => g6sc_ok h
noncomputable def g6lc (vs : List AVal) (T : Tab) (z : List Int) (hb : List Int) (ob : List Int) (al : List Int) (v : List Int) (Z : List (List Int)) (bits : Int) (gh : Nat) (go : Nat) (ga : Nat) (gv : Nat) (nh : Nat) (no : Nat) (na : Nat) (n : Nat) (lg : Bool) (c : Option Nat) (i : Int) : Out := ⟨[.tab T [some ⟨.frows 1 0 (z :: Z) [], 0, false, 22⟩, some ⟨.fam (z :: Z), 0, false, 5⟩, some ⟨.agg [.int .i64 bits, .slice 1 4 gh 0 nh none], 0, true, 35⟩, some ⟨.agg [.int .i64 bits, .slice 1 5 go 0 no none], 0, true, 35⟩, some ⟨.ints .u8 hb, gh, true, 5⟩, some ⟨.ints .u8 ob, go, true, 5⟩, some ⟨.ints .u8 al, ga, true, 5⟩, some ⟨.ints .u8 v, gv, true, 5⟩], .val (.tuple vs) (.tuple [.bool lg, .slice 1 0 0 0 (Z.length + 1) c, .var 2 0, .var 3 0, .slice 1 6 ga 0 na none, .int .i64 i, .slice 1 7 gv 0 n none, .int .i64 0]), .leN n v.length, .leN n 140737488355000], .normal, [(0, .bool lg), (1, .slice 1 0 0 0 (Z.length + 1) c), (6, .var 2 0), (7, .var 3 0), (8, .slice 1 6 ga 0 na none), (9, .int .i64 i)], [some ⟨.frows 1 0 (z :: Z) [], 0, false, 22⟩, some ⟨.fam (z :: Z), 0, false, 5⟩, some ⟨.agg [.int .i64 bits, .slice 1 4 gh 0 nh none], 0, true, 35⟩, some ⟨.agg [.int .i64 bits, .slice 1 5 go 0 no none], 0, true, 35⟩, some ⟨.ints .u8 hb, gh, true, 5⟩, some ⟨.ints .u8 ob, go, true, 5⟩, some ⟨.ints .u8 al, ga, true, 5⟩, some ⟨.ints .u8 (zo6Law v n), gv, true, 5⟩], []⟩
theorem g6lc_ok {vs : List AVal} {T : Tab} {z : List Int} {hb : List Int} {ob : List Int} {al : List Int} {v : List Int} {Z : List (List Int)} {bits : Int} {gh : Nat} {go : Nat} {ga : Nat} {gv : Nat} {nh : Nat} {no : Nat} {na : Nat} {n : Nat} {lg : Bool} {c : Option Nat} {i : Int} (h : Ok (g6lc vs T z hb ob al v Z bits gh go ga gv nh no na n lg c i)) : To eP 101 7 (.block 4 (.loop (roundOf 4 f6))) (zipF [0,1,6,7,8,9,13,14] vs) T (g6lc vs T z hb ob al v Z bits gh go ga gv nh no na n lg c i).ex (g6lc vs T z hb ob al v Z bits gh go ga gv nh no na n lg c i).fm (g6lc vs T z hb ob al v Z bits gh go ga gv nh no na n lg c i).tab := by
  obtain ⟨hT, hv, h1, h2, _⟩ := h.h
  simp only [Con.h] at hT hv h1 h2
  injection hv with hv
  subst hT hv
  exact To.base (Nat.le_of_ble_eq_true rfl) (loop6s h1 h2)
noncomputable def g6l : List AVal → Tab → Out := fun vs T => g6lc vs T (zOf (dAt T 0)) (xsAt T 4) (xsAt T 5) (xsAt T 6) (xsAt T 7) (ZOf (dAt T 0)) (iOf (cAt T 2 0)) (gAt T 4) (gAt T 5) (gAt T 6) (gAt T 7) (lenOf (cAt T 2 1)) (lenOf (cAt T 3 1)) (lenOf (vAt vs 4)) (lenOf (vAt vs 6)) (bOf (vAt vs 0)) (capOf (vAt vs 1)) (iOf (vAt vs 5))
theorem g6l_ok : BlkOk eP f6 4 (.loop (roundOf 4 f6)) (blkGC 7 [0,1,2,3,4,5,6,11] [0,1,6,7,8,9,13,14] g6l) := blkGC_ok fun vs T h => g6lc_ok h
noncomputable def orc6s : OrcL := [(2, blkGC 7 [0,1,2,3,4,5,6,7] [0,1,6,7,8,9,10,11] g6x), (4, blkGC 7 [0,1,2,3,4,5,6,10] [0,1,6,7,8,9,13,14] g6s)]
noncomputable def orc6l : OrcL := [(2, blkGC 7 [0,1,2,3,4,5,6,7] [0,1,6,7,8,9,10,11] g6x), (4, blkGC 7 [0,1,2,3,4,5,6,11] [0,1,6,7,8,9,13,14] g6l)]
theorem orc6s_ok (kb : Nat) : OrcOk eP 101 ⟨kb, orc6s⟩ (roundOf 0 f6) := OrcOk.cons (fn := f6) g6x_ok (by kernel_rfl) (OrcOk.cons (fn := f6) g6s_ok (by kernel_rfl) OrcOk.nil)
theorem orc6l_ok (kb : Nat) : OrcOk eP 101 ⟨kb, orc6l⟩ (roundOf 0 f6) := OrcOk.cons (fn := f6) g6x_ok (by kernel_rfl) (OrcOk.cons (fn := f6) g6l_ok (by kernel_rfl) OrcOk.nil)
end Go.Abs

set_option linter.unusedVariables false
set_option linter.unusedSimpArgs false
set_option maxRecDepth 100000
set_option maxHeartbeats 4000000
namespace Go.Abs
open Go.Proofs Go.Proofs.Tryd
/-! ### ShaPieces: the pieces -/
noncomputable def c6t : Code := backC 5 (bodyOf f6)
noncomputable def c6a : Code := match backC 2 c6t with | .seq (.seq a _) _ => a | c => c
noncomputable def c6r : Code := match backC 2 c6t with | .seq _ c => c | c => c
theorem split6 : backC 2 c6t = .seq (.seq c6a (.block 0 (.loop (roundOf 0 f6)))) c6r := by kernel_rfl
noncomputable def N6s (z : List Int) (Z : List (List Int)) (c : Option Nat) : Out := trim 2 4 [0,1,6,7] (runs eP 101 ⟨2, []⟩ 400 (frontC 5 (bodyOf f6)) [(0, .bool false), (1, .slice 1 0 0 0 (Z.length + 1) c)] [some ⟨.frows 1 0 (z :: Z) [], 0, false, 22⟩, some ⟨.fam (z :: Z), 0, false, 5⟩] [])
theorem N6s_ok {z : List Int} {Z : List (List Int)} {c : Option Nat} (h : allP []) : Ok (N6s z Z c) := Ok.dem (fl := [true, true, true, true]) (by kernel_rfl) (by kernel_rfl) (by kernel_rfl) h
theorem N6s_ex {z : List Int} {Z : List (List Int)} {c : Option Nat} : (N6s z Z c).ex = .normal := by kernel_rfl
theorem N6s_fm {z : List Int} {Z : List (List Int)} {c : Option Nat} : (N6s z Z c).fm = [(0, .bool false), (1, .slice 1 0 0 0 (Z.length + 1) c), (6, .var 2 0), (7, .var 3 0)] := by kernel_rfl
theorem N6s_tab {z : List Int} {Z : List (List Int)} {c : Option Nat} : (N6s z Z c).tab = [some ⟨AVal.frows 1 0 (z :: Z) [], 0, false, 22⟩, some ⟨AVal.fam (z :: Z), 0, false, 5⟩, some ⟨.agg [.int .i64 256, .nilSlice], 0, true, 35⟩, some ⟨.agg [.int .i64 256, .nilSlice], 0, true, 35⟩] := by kernel_rfl
noncomputable def M6s (z : List Int) (Z : List (List Int)) (c : Option Nat) : Out := trim 2 4 [0,1,6,7,8] (runs eP 101 ⟨2, []⟩ 400 (frontC 2 c6t) [(0, .bool false), (1, .slice 1 0 0 0 (Z.length + 1) c), (6, .var 2 0), (7, .var 3 0)] [some ⟨.frows 1 0 (z :: Z) [], 0, false, 22⟩, some ⟨.fam (z :: Z), 0, false, 5⟩, some ⟨.agg [.int .i64 256, .nilSlice], 0, true, 35⟩, some ⟨.agg [.int .i64 256, .nilSlice], 0, true, 35⟩] [])
theorem M6s_ok {z : List Int} {Z : List (List Int)} {c : Option Nat} (h : allP []) : Ok (M6s z Z c) := Ok.dem (fl := [true, true]) (by kernel_rfl) (by kernel_rfl) (by kernel_rfl) h
theorem M6s_ex {z : List Int} {Z : List (List Int)} {c : Option Nat} : (M6s z Z c).ex = .normal := by kernel_rfl
theorem M6s_fm {z : List Int} {Z : List (List Int)} {c : Option Nat} : (M6s z Z c).fm = [(0, .bool false), (1, .slice 1 0 0 0 (Z.length + 1) c), (6, .var 2 0), (7, .var 3 0), (8, .nilSlice)] := by kernel_rfl
theorem M6s_tab {z : List Int} {Z : List (List Int)} {c : Option Nat} : (M6s z Z c).tab = [some ⟨AVal.frows 1 0 (z :: Z) [], 0, false, 22⟩, some ⟨AVal.fam (z :: Z), 0, false, 5⟩, some ⟨.agg [.int .i64 256, .nilSlice], 0, true, 35⟩, some ⟨.agg [.int .i64 256, .nilSlice], 0, true, 35⟩] := by kernel_rfl
noncomputable def I6s (z hb ob al : List Int) (Z : List (List Int)) (gh go ga nh no na i : Nat) (c : Option Nat) : Out := trim 2 7 [0,1,6,7,8,9] (run eP 101 ⟨2, []⟩ 400 c6a [(0, .bool false), (1, .slice 1 0 0 0 (Z.length + 1) c), (6, .var 2 0), (7, .var 3 0), (8, .slice 1 6 ga 0 na none)] [some ⟨.frows 1 0 (z :: Z) [], 0, false, 22⟩, some ⟨.fam (z :: Z), 0, false, 5⟩, some ⟨.agg [.int .i64 256, .slice 1 4 gh 0 nh none], 0, true, 35⟩, some ⟨.agg [.int .i64 256, .slice 1 5 go 0 no none], 0, true, 35⟩, some ⟨.ints .u8 hb, gh, true, 5⟩, some ⟨.ints .u8 ob, go, true, 5⟩, some ⟨.ints .u8 al, ga, true, 5⟩] [])
theorem I6s_ok {z hb ob al : List Int} {Z : List (List Int)} {gh go ga nh no na i : Nat} {c : Option Nat} (h : allP []) : Ok (I6s z hb ob al Z gh go ga nh no na i c) := Ok.dem (fl := []) (by kernel_rfl) (by kernel_rfl) (by kernel_rfl) h
theorem I6s_ex {z hb ob al : List Int} {Z : List (List Int)} {gh go ga nh no na i : Nat} {c : Option Nat} : (I6s z hb ob al Z gh go ga nh no na i c).ex = .normal := by kernel_rfl
theorem I6s_fm {z hb ob al : List Int} {Z : List (List Int)} {gh go ga nh no na i : Nat} {c : Option Nat} : (I6s z hb ob al Z gh go ga nh no na i c).fm = [(0, .bool false), (1, .slice 1 0 0 0 (Z.length + 1) c), (6, .var 2 0), (7, .var 3 0), (8, .slice 1 6 ga 0 na none), (9, .int .i64 0)] := by kernel_rfl
theorem I6s_tab {z hb ob al : List Int} {Z : List (List Int)} {gh go ga nh no na i : Nat} {c : Option Nat} : (I6s z hb ob al Z gh go ga nh no na i c).tab = [some ⟨AVal.frows 1 0 (z :: Z) [], 0, false, 22⟩, some ⟨AVal.fam (z :: Z), 0, false, 5⟩, some ⟨.agg [.int .i64 256, .slice 1 4 gh 0 nh none], 0, true, 35⟩, some ⟨.agg [.int .i64 256, .slice 1 5 go 0 no none], 0, true, 35⟩, some ⟨.ints .u8 hb,
 gh, true, 5⟩, some ⟨.ints .u8 ob, go, true, 5⟩, some ⟨.ints .u8 al, ga, true, 5⟩] := by kernel_rfl
noncomputable def R6s (z hb ob al : List Int) (Z : List (List Int)) (gh go ga nh no na i : Nat) (c : Option Nat) : Out := trim 7 7 [0,1,6,7,8,9] (run eP 101 ⟨7, orc6s⟩ 400 (roundOf 0 f6) [(0, .bool false), (1, .slice 1 0 0 0 (Z.length + 1) c), (6, .var 2 0), (7, .var 3 0), (8, .slice 1 6 ga 0 na none), (9, .int .i64 (i : Nat))] [some ⟨.frows 1 0 (z :: Z) [], 0, false, 22⟩, some ⟨.fam (z :: Z), 0, false, 5⟩, some ⟨.agg [.int .i64 256, .slice 1 4 gh 0 nh none], 0, true, 35⟩, some ⟨.agg [.int .i64 256, .slice 1 5 go 0 no none], 0, true, 35⟩, some ⟨.ints .u8 hb, gh, true, 5⟩, some ⟨.ints .u8 ob, go, true, 5⟩, some ⟨.ints .u8 al, ga, true, 5⟩] [some true, some false, none, some false])
theorem R6s_ok {z hb ob al : List Int} {Z : List (List Int)} {gh go ga nh no na i : Nat} {c : Option Nat} (h : allP [.p (decide ((↑i : Int) < (↑(Z.length + 1) : Int)) = true), .leI 0 (↑i : Int), .leI ((↑i : Int) + 1) (↑(Z.length + 1) : Int), .leN (i + 1) (z :: Z).length, .leN (0 + ((z :: Z).getD i []).length) ((z :: Z).getD i []).length, .leN ((z :: Z).getD i []).length 140737488355300, .eqN gh gh,
 .leN (0 + nh) hb.length, .leN (addO nh ((z :: Z).getD i []).length) 140737488355328, .leN (0 + ((z :: Z).getD i []).length) (subLaw ((z :: Z).getD i []) 0 ((z :: Z).getD i []).length ++ [201, 202]).length, .p (false = false), .leI 0 (↑i : Int), .leI ((↑i : Int) + 1) (↑(Z.length + 1) : Int), .leN (i + 1) (z :: Z).length, .eqN ((z :: Z).getD i []).length ((z :: Z).getD i []).length, .leN (0 + ((z ::
 Z).getD i []).length) ((z :: Z).getD i []).length, .leN ((z :: Z).getD i []).length 140737488355300, .p (lentLaw (subLaw ((z :: Z).getD i []) 0 ((z :: Z).getD i []).length ++ [201, 202]) (subLaw ((z :: Z).getD i []) 0 ((z :: Z).getD i []).length)), .leN ((z :: Z).getD i []).length (subLaw ((z :: Z).getD i []) 0 ((z :: Z).getD i []).length ++ [201, 202]).length, .leN ((z :: Z).getD i []).length
 140737488355000, .eqN go go, .leN (0 + no) ob.length, .leN (addO no 1) 140737488355328, .leI 0 (↑i : Int), .leI ((↑i : Int) + 1) (↑(Z.length + 1) : Int), .leN (i + 1) (z :: Z).length, .eqN ga ga, .leN (0 + na) al.length, .leN (addO na ((z :: Z).getD i []).length) 140737488355328, .eqN (ga + 1) (ga + 1), .leN (0 + addO na ((z :: Z).getD i []).length) (List.take na al ++ (z :: Z).getD i []).length,
 .leN (addO na ((z :: Z).getD i []).length) 140737488355000, .p (BsLaw (List.take na al ++ (z :: Z).getD i [])), .eqN (gh + 1) (gh + 1), .eqN (gh + 1) (gh + 1), .eqN (gh + 1) (gh + 1), .leN (0 + addO nh ((z :: Z).getD i []).length) (List.take nh hb ++ List.take ((z :: Z).getD i []).length (subLaw ((z :: Z).getD i []) 0 ((z :: Z).getD i []).length ++ [201, 202])).length, .leN (addO nh ((z :: Z).getD
 i []).length) 140737488355000, .p (BsLaw (List.take nh hb ++ List.take ((z :: Z).getD i []).length (subLaw ((z :: Z).getD i []) 0 ((z :: Z).getD i []).length ++ [201, 202]))), .p (capLaw (addO nh ((z :: Z).getD i []).length) none), .p ((!List.map byteOf (List.take 32 (sum32Law (subLaw (List.take nh hb ++ List.take ((z :: Z).getD i []).length (subLaw ((z :: Z).getD i []) 0 ((z :: Z).getD i
 []).length ++ [201, 202])) 0 (addO nh ((z :: Z).getD i []).length)))) == List.map byteOf (List.take 32 (sum32Law (subLaw (List.take na al ++ (z :: Z).getD i []) 0 (addO na ((z :: Z).getD i []).length))))) = false), .rng (-9223372036854775808) ((↑i : Int) + 1) 9223372036854775807]) : Ok (R6s z hb ob al Z gh go ga nh no na i c) := Ok.dem (fl := bitsF 129 265186175714215964965907254840949457829) (by
 kernel_rfl) (by kernel_rfl) (by kernel_rfl) h
theorem R6s_ex {z hb ob al : List Int} {Z : List (List Int)} {gh go ga nh no na i : Nat} {c : Option Nat} : (R6s z hb ob al Z gh go ga nh no na i c).ex = .normal := by kernel_rfl
theorem R6s_fm {z hb ob al : List Int} {Z : List (List Int)} {gh go ga nh no na i : Nat} {c : Option Nat} : (R6s z hb ob al Z gh go ga nh no na i c).fm = [(0, .bool false), (1, .slice 1 0 0 0 (Z.length + 1) c), (6, .var 2 0), (7, .var 3 0), (8, .slice 1 6 (ga + 1) 0 (addO na ((z :: Z).getD i []).length) none), (9, .int .i64 ((↑i : Int) + 1))] := by kernel_rfl
theorem R6s_tab {z hb ob al : List Int} {Z : List (List Int)} {gh go ga nh no na i : Nat} {c : Option Nat} : (R6s z hb ob al Z gh go ga nh no na i c).tab = [some ⟨AVal.frows 1 0 (z :: Z) [], 0, false, 22⟩, some ⟨AVal.fam (z :: Z), 0, false, 5⟩, some ⟨.agg [.int .i64 (OfNat.ofNat 256), .slice 1 4 (gh + 1) 0 (addO nh ((z :: Z).getD i []).length) none], 0, true, 35⟩, some ⟨.agg [.int .i64 (OfNat.ofNat
 256), .slice 1 5 (go + 1) 0 (addO no 1) none], 0, true, 35⟩, some ⟨.ints .u8 (List.take nh hb ++ List.take ((z :: Z).getD i []).length (subLaw ((z :: Z).getD i []) 0 ((z :: Z).getD i []).length ++ [201, 202])), gh + 1, true, 5⟩, some ⟨.ints .u8 (List.take no ob ++ List.take 1 ([0].set 0 ((↑i : Int) % 256))), go + 1, true, 5⟩, some ⟨.ints .u8 (List.take na al ++ (z :: Z).getD i []), ga + 1, true,
 5⟩] := by kernel_rfl
noncomputable def E6s (z hb ob al : List Int) (Z : List (List Int)) (gh go ga nh no na i : Nat) (c : Option Nat) : Out := trim 7 7 [0,1] (run eP 101 ⟨7, []⟩ 400 (roundOf 0 f6) [(0, .bool false), (1, .slice 1 0 0 0 (Z.length + 1) c), (6, .var 2 0), (7, .var 3 0), (8, .slice 1 6 ga 0 na none), (9, .int .i64 (i : Nat))] [some ⟨.frows 1 0 (z :: Z) [], 0, false, 22⟩, some ⟨.fam (z :: Z), 0, false, 5⟩, some ⟨.agg [.int .i64 256, .slice 1 4 gh 0 nh none], 0, true, 35⟩, some ⟨.agg [.int .i64 256, .slice 1 5 go 0 no none], 0, true, 35⟩, some ⟨.ints .u8 hb, gh, true, 5⟩, some ⟨.ints .u8 ob, go, true, 5⟩, some ⟨.ints .u8 al, ga, true, 5⟩] [some false])
theorem E6s_ok {z hb ob al : List Int} {Z : List (List Int)} {gh go ga nh no na i : Nat} {c : Option Nat} (h : allP [.p (decide ((↑i : Int) < (↑(Z.length + 1) : Int)) = false)]) : Ok (E6s z hb ob al Z gh go ga nh no na i c) := Ok.dem (fl := [true, false]) (by kernel_rfl) (by kernel_rfl) (by kernel_rfl) h
theorem E6s_ex {z hb ob al : List Int} {Z : List (List Int)} {gh go ga nh no na i : Nat} {c : Option Nat} : (E6s z hb ob al Z gh go ga nh no na i c).ex = .exit 0 := by kernel_rfl
theorem E6s_fm {z hb ob al : List Int} {Z : List (List Int)} {gh go ga nh no na i : Nat} {c : Option Nat} : (E6s z hb ob al Z gh go ga nh no na i c).fm = [(0, .bool false), (1, .slice 1 0 0 0 (Z.length + 1) c)] := by kernel_rfl
theorem E6s_tab {z hb ob al : List Int} {Z : List (List Int)} {gh go ga nh no na i : Nat} {c : Option Nat} : (E6s z hb ob al Z gh go ga nh no na i c).tab = [some ⟨AVal.frows 1 0 (z :: Z) [], 0, false, 22⟩, some ⟨AVal.fam (z :: Z), 0, false, 5⟩, some ⟨.agg [.int .i64 256, .slice 1 4 gh 0 nh none], 0, true, 35⟩, some ⟨.agg [.int .i64 256, .slice 1 5 go 0 no none], 0, true, 35⟩, some ⟨.ints .u8 hb,
 gh, true, 5⟩, some ⟨.ints .u8 ob, go, true, 5⟩, some ⟨.ints .u8 al, ga, true, 5⟩] := by kernel_rfl
noncomputable def Z6s (z hb ob al : List Int) (Z : List (List Int)) (gh go ga nh no na i : Nat) (c : Option Nat) : Out := trim 2 2 [4] (run eP 101 ⟨2, []⟩ 400 c6r [(0, .bool false), (1, .slice 1 0 0 0 (Z.length + 1) c)] [some ⟨.frows 1 0 (z :: Z) [], 0, false, 22⟩, some ⟨.fam (z :: Z), 0, false, 5⟩, some ⟨.agg [.int .i64 256, .slice 1 4 gh 0 nh none], 0, true, 35⟩, some ⟨.agg [.int .i64 256, .slice 1 5 go 0 no none], 0, true, 35⟩, some ⟨.ints .u8 hb, gh, true, 5⟩, some ⟨.ints .u8 ob, go, true, 5⟩, some ⟨.ints .u8 al, ga, true, 5⟩] [])
theorem Z6s_ok {z hb ob al : List Int} {Z : List (List Int)} {gh go ga nh no na i : Nat} {c : Option Nat} (h : allP []) : Ok (Z6s z hb ob al Z gh go ga nh no na i c) := Ok.dem (fl := []) (by kernel_rfl) (by kernel_rfl) (by kernel_rfl) h
theorem Z6s_ex {z hb ob al : List Int} {Z : List (List Int)} {gh go ga nh no na i : Nat} {c : Option Nat} : (Z6s z hb ob al Z gh go ga nh no na i c).ex = .ret := by kernel_rfl
theorem Z6s_fm {z hb ob al : List Int} {Z : List (List Int)} {gh go ga nh no na i : Nat} {c : Option Nat} : (Z6s z hb ob al Z gh go ga nh no na i c).fm = [(4, .bool true)] := by kernel_rfl
theorem Z6s_tab {z hb ob al : List Int} {Z : List (List Int)} {gh go ga nh no na i : Nat} {c : Option Nat} : (Z6s z hb ob al Z gh go ga nh no na i c).tab = [some ⟨AVal.frows 1 0 (z :: Z) [], 0, false, 22⟩, some ⟨AVal.fam (z :: Z), 0, false, 5⟩] := by kernel_rfl
noncomputable def R6se (c : Option Nat) : Res := runF eP f6 [] 400 [.bool false, .slice 1 0 0 0 0 c] [some ⟨.agg [], 0, false, 22⟩] [none, none, none, some false]
theorem R6se_ok {c : Option Nat} (h : allP [.p (false = false)]) : OkR (R6se c) := OkR.dem (fl := [true, true, true, true, true, true, true, false]) (by kernel_rfl) (by kernel_rfl) (by kernel_rfl) h
theorem R6se_val {c : Option Nat} : (R6se c).val = .bool true := by kernel_rfl
theorem R6se_tab {c : Option Nat} : (R6se c).tab = [some ⟨.agg [], 0, false, 22⟩, some ⟨.agg [.int .i64 256, .nilSlice], 0, true, 35⟩, some ⟨.agg [.int .i64 256, .nilSlice], 0, true, 35⟩] := by kernel_rfl
noncomputable def N6l (z : List Int) (Z : List (List Int)) (c : Option Nat) : Out := trim 2 4 [0,1,6,7] (runs eP 101 ⟨2, []⟩ 400 (frontC 5 (bodyOf f6)) [(0, .bool true), (1, .slice 1 0 0 0 (Z.length + 1) c)] [some ⟨.frows 1 0 (z :: Z) [], 0, false, 22⟩, some ⟨.fam (z :: Z), 0, false, 5⟩] [])
theorem N6l_ok {z : List Int} {Z : List (List Int)} {c : Option Nat} (h : allP []) : Ok (N6l z Z c) := Ok.dem (fl := [true, true, true, true]) (by kernel_rfl) (by kernel_rfl) (by kernel_rfl) h
theorem N6l_ex {z : List Int} {Z : List (List Int)} {c : Option Nat} : (N6l z Z c).ex = .normal := by kernel_rfl
theorem N6l_fm {z : List Int} {Z : List (List Int)} {c : Option Nat} : (N6l z Z c).fm = [(0, .bool true), (1, .slice 1 0 0 0 (Z.length + 1) c), (6, .var 2 0), (7, .var 3 0)] := by kernel_rfl
theorem N6l_tab {z : List Int} {Z : List (List Int)} {c : Option Nat} : (N6l z Z c).tab = [some ⟨AVal.frows 1 0 (z :: Z) [], 0, false, 22⟩, some ⟨AVal.fam (z :: Z), 0, false, 5⟩, some ⟨.agg [.int .i64 512, .nilSlice], 0, true, 35⟩, some ⟨.agg [.int .i64 512, .nilSlice], 0, true, 35⟩] := by kernel_rfl
noncomputable def M6l (z : List Int) (Z : List (List Int)) (c : Option Nat) : Out := trim 2 4 [0,1,6,7,8] (runs eP 101 ⟨2, []⟩ 400 (frontC 2 c6t) [(0, .bool true), (1, .slice 1 0 0 0 (Z.length + 1) c), (6, .var 2 0), (7, .var 3 0)] [some ⟨.frows 1 0 (z :: Z) [], 0, false, 22⟩, some ⟨.fam (z :: Z), 0, false, 5⟩, some ⟨.agg [.int .i64 512, .nilSlice], 0, true, 35⟩, some ⟨.agg [.int .i64 512, .nilSlice], 0, true, 35⟩] [])
theorem M6l_ok {z : List Int} {Z : List (List Int)} {c : Option Nat} (h : allP []) : Ok (M6l z Z c) := Ok.dem (fl := [true, true]) (by kernel_rfl) (by kernel_rfl) (by kernel_rfl) h
theorem M6l_ex {z : List Int} {Z : List (List Int)} {c : Option Nat} : (M6l z Z c).ex = .normal := by kernel_rfl
theorem M6l_fm {z : List Int} {Z : List (List Int)} {c : Option Nat} : (M6l z Z c).fm = [(0, .bool true), (1, .slice 1 0 0 0 (Z.length + 1) c), (6, .var 2 0), (7, .var 3 0), (8, .nilSlice)] := by kernel_rfl
theorem M6l_tab {z : List Int} {Z : List (List Int)} {c : Option Nat} : (M6l z Z c).tab = [some ⟨AVal.frows 1 0 (z :: Z) [], 0, false, 22⟩, some ⟨AVal.fam (z :: Z), 0, false, 5⟩, some ⟨.agg [.int .i64 512, .nilSlice], 0, true, 35⟩, some ⟨.agg [.int .i64 512, .nilSlice], 0, true, 35⟩] := by kernel_rfl
noncomputable def I6l (z hb ob al : List Int) (Z : List (List Int)) (gh go ga nh no na i : Nat) (c : Option Nat) : Out := trim 2 7 [0,1,6,7,8,9] (run eP 101 ⟨2, []⟩ 400 c6a [(0, .bool true), (1, .slice 1 0 0 0 (Z.length + 1) c), (6, .var 2 0), (7, .var 3 0), (8, .slice 1 6 ga 0 na none)] [some ⟨.frows 1 0 (z :: Z) [], 0, false, 22⟩, some ⟨.fam (z :: Z), 0, false, 5⟩, some ⟨.agg [.int .i64 512, .slice 1 4 gh 0 nh none], 0, true, 35⟩, some ⟨.agg [.int .i64 512, .slice 1 5 go 0 no none], 0, true, 35⟩, some ⟨.ints .u8 hb, gh, true, 5⟩, some ⟨.ints .u8 ob, go, true, 5⟩, some ⟨.ints .u8 al, ga, true, 5⟩] [])
theorem I6l_ok {z hb ob al : List Int} {Z : List (List Int)} {gh go ga nh no na i : Nat} {c : Option Nat} (h : allP []) : Ok (I6l z hb ob al Z gh go ga nh no na i c) := Ok.dem (fl := []) (by kernel_rfl) (by kernel_rfl) (by kernel_rfl) h
theorem I6l_ex {z hb ob al : List Int} {Z : List (List Int)} {gh go ga nh no na i : Nat} {c : Option Nat} : (I6l z hb ob al Z gh go ga nh no na i c).ex = .normal := by kernel_rfl
theorem I6l_fm {z hb ob al : List Int} {Z : List (List Int)} {gh go ga nh no na i : Nat} {c : Option Nat} : (I6l z hb ob al Z gh go ga nh no na i c).fm = [(0, .bool true), (1, .slice 1 0 0 0 (Z.length + 1) c), (6, .var 2 0), (7, .var 3 0), (8, .slice 1 6 ga 0 na none), (9, .int .i64 0)] := by kernel_rfl
theorem I6l_tab {z hb ob al : List Int} {Z : List (List Int)} {gh go ga nh no na i : Nat} {c : Option Nat} : (I6l z hb ob al Z gh go ga nh no na i c).tab = [some ⟨AVal.frows 1 0 (z :: Z) [], 0, false, 22⟩, some ⟨AVal.fam (z :: Z), 0, false, 5⟩, some ⟨.agg [.int .i64 512, .slice 1 4 gh 0 nh none], 0, true, 35⟩, some ⟨.agg [.int .i64 512, .slice 1 5 go 0 no none], 0, true, 35⟩, some ⟨.ints .u8 hb,
 gh, true, 5⟩, some ⟨.ints .u8 ob, go, true, 5⟩, some ⟨.ints .u8 al, ga, true, 5⟩] := by kernel_rfl
noncomputable def R6l (z hb ob al : List Int) (Z : List (List Int)) (gh go ga nh no na i : Nat) (c : Option Nat) : Out := trim 7 7 [0,1,6,7,8,9] (run eP 101 ⟨7, orc6l⟩ 400 (roundOf 0 f6) [(0, .bool true), (1, .slice 1 0 0 0 (Z.length + 1) c), (6, .var 2 0), (7, .var 3 0), (8, .slice 1 6 ga 0 na none), (9, .int .i64 (i : Nat))] [some ⟨.frows 1 0 (z :: Z) [], 0, false, 22⟩, some ⟨.fam (z :: Z), 0, false, 5⟩, some ⟨.agg [.int .i64 512, .slice 1 4 gh 0 nh none], 0, true, 35⟩, some ⟨.agg [.int .i64 512, .slice 1 5 go 0 no none], 0, true, 35⟩, some ⟨.ints .u8 hb, gh, true, 5⟩, some ⟨.ints .u8 ob, go, true, 5⟩, some ⟨.ints .u8 al, ga, true, 5⟩] [some true, some false, none, some false])
theorem R6l_ok {z hb ob al : List Int} {Z : List (List Int)} {gh go ga nh no na i : Nat} {c : Option Nat} (h : allP [.p (decide ((↑i : Int) < (↑(Z.length + 1) : Int)) = true), .leI 0 (↑i : Int), .leI ((↑i : Int) + 1) (↑(Z.length + 1) : Int), .leN (i + 1) (z :: Z).length, .leN (0 + ((z :: Z).getD i []).length) ((z :: Z).getD i []).length, .leN ((z :: Z).getD i []).length 140737488355300, .eqN gh gh,
 .leN (0 + nh) hb.length, .leN (addO nh ((z :: Z).getD i []).length) 140737488355328, .leN (0 + ((z :: Z).getD i []).length) (subLaw ((z :: Z).getD i []) 0 ((z :: Z).getD i []).length ++ [201, 202]).length, .p (false = false), .leI 0 (↑i : Int), .leI ((↑i : Int) + 1) (↑(Z.length + 1) : Int), .leN (i + 1) (z :: Z).length, .eqN ((z :: Z).getD i []).length ((z :: Z).getD i []).length, .leN (0 + ((z ::
 Z).getD i []).length) ((z :: Z).getD i []).length, .leN ((z :: Z).getD i []).length 140737488355300, .p (lentLaw (subLaw ((z :: Z).getD i []) 0 ((z :: Z).getD i []).length ++ [201, 202]) (subLaw ((z :: Z).getD i []) 0 ((z :: Z).getD i []).length)), .leN ((z :: Z).getD i []).length (subLaw ((z :: Z).getD i []) 0 ((z :: Z).getD i []).length ++ [201, 202]).length, .leN ((z :: Z).getD i []).length
 140737488355000, .eqN go go, .leN (0 + no) ob.length, .leN (addO no 1) 140737488355328, .leI 0 (↑i : Int), .leI ((↑i : Int) + 1) (↑(Z.length + 1) : Int), .leN (i + 1) (z :: Z).length, .eqN ga ga, .leN (0 + na) al.length, .leN (addO na ((z :: Z).getD i []).length) 140737488355328, .eqN (ga + 1) (ga + 1), .leN (0 + addO na ((z :: Z).getD i []).length) (List.take na al ++ (z :: Z).getD i []).length,
 .leN (addO na ((z :: Z).getD i []).length) 140737488355000, .p (BsLaw (List.take na al ++ (z :: Z).getD i [])), .eqN (ga + 1) (ga + 1), .leN (0 + addO na ((z :: Z).getD i []).length) (List.take na al ++ (z :: Z).getD i []).length, .leN (addO na ((z :: Z).getD i []).length) 140737488355000, .p (BsLaw (List.take na al ++ (z :: Z).getD i [])), .eqN (gh + 1) (gh + 1), .eqN (gh + 1) (gh + 1), .eqN (gh +
 1) (gh + 1), .leN (0 + addO nh ((z :: Z).getD i []).length) (List.take nh hb ++ List.take ((z :: Z).getD i []).length (subLaw ((z :: Z).getD i []) 0 ((z :: Z).getD i []).length ++ [201, 202])).length, .leN (addO nh ((z :: Z).getD i []).length) 140737488355000, .p (BsLaw (List.take nh hb ++ List.take ((z :: Z).getD i []).length (subLaw ((z :: Z).getD i []) 0 ((z :: Z).getD i []).length ++ [201,
 202]))), .p (capLaw (addO nh ((z :: Z).getD i []).length) none), .p ((!List.map byteOf (List.take 64 (sum64Law (subLaw (List.take nh hb ++ List.take ((z :: Z).getD i []).length (subLaw ((z :: Z).getD i []) 0 ((z :: Z).getD i []).length ++ [201, 202])) 0 (addO nh ((z :: Z).getD i []).length)))) == List.map byteOf (List.take 64 (sum64Law (subLaw (List.take na al ++ (z :: Z).getD i []) 0 (addO na ((z
 :: Z).getD i []).length))))) = false), .rng (-9223372036854775808) ((↑i : Int) + 1) 9223372036854775807]) : Ok (R6l z hb ob al Z gh go ga nh no na i c) := Ok.dem (fl := bitsF 135 16971915245628785562927631808591285961637) (by kernel_rfl) (by kernel_rfl) (by kernel_rfl) h
theorem R6l_ex {z hb ob al : List Int} {Z : List (List Int)} {gh go ga nh no na i : Nat} {c : Option Nat} : (R6l z hb ob al Z gh go ga nh no na i c).ex = .normal := by kernel_rfl
theorem R6l_fm {z hb ob al : List Int} {Z : List (List Int)} {gh go ga nh no na i : Nat} {c : Option Nat} : (R6l z hb ob al Z gh go ga nh no na i c).fm = [(0, .bool true), (1, .slice 1 0 0 0 (Z.length + 1) c), (6, .var 2 0), (7, .var 3 0), (8, .slice 1 6 (ga + 1) 0 (addO na ((z :: Z).getD i []).length) none), (9, .int .i64 ((↑i : Int) + 1))] := by kernel_rfl
theorem R6l_tab {z hb ob al : List Int} {Z : List (List Int)} {gh go ga nh no na i : Nat} {c : Option Nat} : (R6l z hb ob al Z gh go ga nh no na i c).tab = [some ⟨AVal.frows 1 0 (z :: Z) [], 0, false, 22⟩, some ⟨AVal.fam (z :: Z), 0, false, 5⟩, some ⟨.agg [.int .i64 (OfNat.ofNat 512), .slice 1 4 (gh + 1) 0 (addO nh ((z :: Z).getD i []).length) none], 0, true, 35⟩, some ⟨.agg [.int .i64 (OfNat.ofNat
 512), .slice 1 5 (go + 1) 0 (addO no 1) none], 0, true, 35⟩, some ⟨.ints .u8 (List.take nh hb ++ List.take ((z :: Z).getD i []).length (subLaw ((z :: Z).getD i []) 0 ((z :: Z).getD i []).length ++ [201, 202])), gh + 1, true, 5⟩, some ⟨.ints .u8 (List.take no ob ++ List.take 1 ([0].set 0 ((↑i : Int) % 256))), go + 1, true, 5⟩, some ⟨.ints .u8 (List.take na al ++ (z :: Z).getD i []), ga + 1, true,
 5⟩] := by kernel_rfl
noncomputable def E6l (z hb ob al : List Int) (Z : List (List Int)) (gh go ga nh no na i : Nat) (c : Option Nat) : Out := trim 7 7 [0,1] (run eP 101 ⟨7, []⟩ 400 (roundOf 0 f6) [(0, .bool true), (1, .slice 1 0 0 0 (Z.length + 1) c), (6, .var 2 0), (7, .var 3 0), (8, .slice 1 6 ga 0 na none), (9, .int .i64 (i : Nat))] [some ⟨.frows 1 0 (z :: Z) [], 0, false, 22⟩, some ⟨.fam (z :: Z), 0, false, 5⟩, some ⟨.agg [.int .i64 512, .slice 1 4 gh 0 nh none], 0, true, 35⟩, some ⟨.agg [.int .i64 512, .slice 1 5 go 0 no none], 0, true, 35⟩, some ⟨.ints .u8 hb, gh, true, 5⟩, some ⟨.ints .u8 ob, go, true, 5⟩, some ⟨.ints .u8 al, ga, true, 5⟩] [some false])
theorem E6l_ok {z hb ob al : List Int} {Z : List (List Int)} {gh go ga nh no na i : Nat} {c : Option Nat} (h : allP [.p (decide ((↑i : Int) < (↑(Z.length + 1) : Int)) = false)]) : Ok (E6l z hb ob al Z gh go ga nh no na i c) := Ok.dem (fl := [true, false]) (by kernel_rfl) (by kernel_rfl) (by kernel_rfl) h
theorem E6l_ex {z hb ob al : List Int} {Z : List (List Int)} {gh go ga nh no na i : Nat} {c : Option Nat} : (E6l z hb ob al Z gh go ga nh no na i c).ex = .exit 0 := by kernel_rfl
theorem E6l_fm {z hb ob al : List Int} {Z : List (List Int)} {gh go ga nh no na i : Nat} {c : Option Nat} : (E6l z hb ob al Z gh go ga nh no na i c).fm = [(0, .bool true), (1, .slice 1 0 0 0 (Z.length + 1) c)] := by kernel_rfl
theorem E6l_tab {z hb ob al : List Int} {Z : List (List Int)} {gh go ga nh no na i : Nat} {c : Option Nat} : (E6l z hb ob al Z gh go ga nh no na i c).tab = [some ⟨AVal.frows 1 0 (z :: Z) [], 0, false, 22⟩, some ⟨AVal.fam (z :: Z), 0, false, 5⟩, some ⟨.agg [.int .i64 512, .slice 1 4 gh 0 nh none], 0, true, 35⟩, some ⟨.agg [.int .i64 512, .slice 1 5 go 0 no none], 0, true, 35⟩, some ⟨.ints .u8 hb,
 gh, true, 5⟩, some ⟨.ints .u8 ob, go, true, 5⟩, some ⟨.ints .u8 al, ga, true, 5⟩] := by kernel_rfl
noncomputable def Z6l (z hb ob al : List Int) (Z : List (List Int)) (gh go ga nh no na i : Nat) (c : Option Nat) : Out := trim 2 2 [4] (run eP 101 ⟨2, []⟩ 400 c6r [(0, .bool true), (1, .slice 1 0 0 0 (Z.length + 1) c)] [some ⟨.frows 1 0 (z :: Z) [], 0, false, 22⟩, some ⟨.fam (z :: Z), 0, false, 5⟩, some ⟨.agg [.int .i64 512, .slice 1 4 gh 0 nh none], 0, true, 35⟩, some ⟨.agg [.int .i64 512, .slice 1 5 go 0 no none], 0, true, 35⟩, some ⟨.ints .u8 hb, gh, true, 5⟩, some ⟨.ints .u8 ob, go, true, 5⟩, some ⟨.ints .u8 al, ga, true, 5⟩] [])
theorem Z6l_ok {z hb ob al : List Int} {Z : List (List Int)} {gh go ga nh no na i : Nat} {c : Option Nat} (h : allP []) : Ok (Z6l z hb ob al Z gh go ga nh no na i c) := Ok.dem (fl := []) (by kernel_rfl) (by kernel_rfl) (by kernel_rfl) h
theorem Z6l_ex {z hb ob al : List Int} {Z : List (List Int)} {gh go ga nh no na i : Nat} {c : Option Nat} : (Z6l z hb ob al Z gh go ga nh no na i c).ex = .ret := by kernel_rfl
theorem Z6l_fm {z hb ob al : List Int} {Z : List (List Int)} {gh go ga nh no na i : Nat} {c : Option Nat} : (Z6l z hb ob al Z gh go ga nh no na i c).fm = [(4, .bool true)] := by kernel_rfl
theorem Z6l_tab {z hb ob al : List Int} {Z : List (List Int)} {gh go ga nh no na i : Nat} {c : Option Nat} : (Z6l z hb ob al Z gh go ga nh no na i c).tab = [some ⟨AVal.frows 1 0 (z :: Z) [], 0, false, 22⟩, some ⟨AVal.fam (z :: Z), 0, false, 5⟩] := by kernel_rfl
noncomputable def R6le (c : Option Nat) : Res := runF eP f6 [] 400 [.bool true, .slice 1 0 0 0 0 c] [some ⟨.agg [], 0, false, 22⟩] [none, none, none, some false]
theorem R6le_ok {c : Option Nat} (h : allP [.p (false = false)]) : OkR (R6le c) := OkR.dem (fl := [true, true, true, true, true, true, true, false]) (by kernel_rfl) (by kernel_rfl) (by kernel_rfl) h
theorem R6le_val {c : Option Nat} : (R6le c).val = .bool true := by kernel_rfl
theorem R6le_tab {c : Option Nat} : (R6le c).tab = [some ⟨.agg [], 0, false, 22⟩, some ⟨.agg [.int .i64 512, .nilSlice], 0, true, 35⟩, some ⟨.agg [.int .i64 512, .nilSlice], 0, true, 35⟩] := by kernel_rfl
end Go.Abs

set_option linter.unusedVariables false
set_option linter.unusedSimpArgs false
set_option maxRecDepth 100000
set_option maxHeartbeats 4000000
namespace Go.Abs
open Go.Proofs Go.Proofs.Tryd
/-! ### ShaPieces: the law -/
theorem AWp.cutTG {E : Env} (hE : EnvOk E) (hm : E.P.follows .mixedOrders = true) {n k m : Nat} {f : Nat} {post : AExit → Fm → Tab → Prop} {c : Code} (j : Nat) {fm : Fm} {T : Tab} {ds : List (Option Bool)} {slots : List Nat} {o : Out} (ho : Abs.trim k m slots (runs E n ⟨k, []⟩ f (frontC j c) fm T ds) = o) (hc : Ok o) (hx : o.ex = .normal) (h : AWp E n k (backC j c) o.fm o.tab post) : AWp E n k c fm T post := by
  generalize hr : runs E n ⟨k, []⟩ f (frontC j c) fm T ds = r at ho
  obtain ⟨cs, ex, fm1, T1, ds1⟩ := r
  unfold Abs.trim at ho
  simp only at ho
  split at ho
  · rename_i g hp hb
    subst ho
    exact AWp.cut hE hm j hr ⟨hc.h⟩ hx (AWp.enter hp hb h)
  · subst ho
    exact absurd hc.h failO_no
def flL (Y : List (List Int)) (k : Nat) : List Int := (Y.take k).flatten
theorem flL_step {Y : List (List Int)} {k : Nat} (h : k < Y.length) : flL Y (k + 1) = flL Y k ++ Y.getD k [] := by
  have e : Y.take (k + 1) = Y.take k ++ [Y.getD k []] := by rw [List.take_add_one, List.getD_eq_getElem?_getD, List.getElem?_eq_getElem h]; rfl
  unfold flL
  rw [e, List.flatten_append]
  simp
theorem flL_le (Y : List (List Int)) (k : Nat) : (flL Y k).length ≤ (Y.map List.length).sum := by
  have e : Y.flatten.length = (flL Y k).length + (Y.drop k).flatten.length := by
    unfold flL
    rw [← List.length_append, ← List.flatten_append, List.take_append_drop]
  have := List.length_flatten (L := Y)
  omega
theorem flL_by {Y : List (List Int)} (hz : ∀ r ∈ Y, ∀ c ∈ r, 0 ≤ c ∧ c < 256) (k : Nat) : BsLaw (flL Y k) := fun i => by
  rw [List.getD_eq_getElem?_getD]
  rcases Nat.lt_or_ge i (flL Y k).length with hi | hi
  · rw [List.getElem?_eq_getElem hi]
    have hm := List.getElem_mem hi
    unfold flL at hm
    rw [List.mem_flatten] at hm
    obtain ⟨r, hr, hc⟩ := hm
    exact hz r (List.mem_of_mem_take hr) _ hc
  · rw [List.getElem?_eq_none hi]; exact ⟨Int.le_refl 0, by decide⟩
def obL : Nat → List Int
  | 0 => []
  | k + 1 => obL k ++ [((k : Nat) : Int) % 256]
theorem obL_len : ∀ k, (obL k).length = k
  | 0 => rfl
  | k + 1 => by rw [obL, List.length_append, obL_len k]; rfl
theorem round6s {z : List Int} {Z : List (List Int)} {c : Option Nat} (hz : ∀ r ∈ z :: Z, ∀ c ∈ r, 0 ≤ c ∧ c < 256) (hs : ((z :: Z).map List.length).sum ≤ 1048576) (hL : Z.length + 1 ≤ 1048576) (k : Nat) (hk : k < Z.length + 1) :
    To eP 101 7 (roundOf 0 f6) [(0, .bool false), (1, .slice 1 0 0 0 (Z.length + 1) c), (6, .var 2 0), (7, .var 3 0), (8, .slice 1 6 k 0 (flL (z :: Z) k).length none), (9, .int .i64 (k : Nat))] [some ⟨.frows 1 0 (z :: Z) [], 0, false, 22⟩, some ⟨.fam (z :: Z), 0, false, 5⟩, some ⟨.agg [.int .i64 256, .slice 1 4 k 0 (flL (z :: Z) k).length none], 0, true, 35⟩, some ⟨.agg [.int .i64 256, .slice 1 5 k 0 k none], 0, true, 35⟩, some ⟨.ints .u8 (flL (z :: Z) k), k, true, 5⟩, some ⟨.ints .u8 (obL k), k, true, 5⟩, some ⟨.ints .u8 (flL (z :: Z) k), k, true, 5⟩] .normal [(0, .bool false), (1, .slice 1 0 0 0 (Z.length + 1) c), (6, .var 2 0), (7, .var 3 0), (8, .slice 1 6 (k + 1) 0 (flL (z :: Z) (k + 1)).length none), (9, .int .i64 ((k + 1) : Nat))] [some ⟨.frows 1 0 (z :: Z) [], 0, false, 22⟩, some ⟨.fam (z :: Z), 0, false, 5⟩, some ⟨.agg [.int .i64 256, .slice 1 4 (k + 1) 0 (flL (z :: Z) (k + 1)).length none], 0, true, 35⟩, some ⟨.agg [.int .i64 256, .slice 1 5 (k + 1) 0 (k + 1) none], 0, true, 35⟩, some ⟨.ints .u8 (flL (z :: Z) (k + 1)), (k + 1), true, 5⟩, some ⟨.ints .u8 (obL (k + 1)), (k + 1), true, 5⟩, some ⟨.ints .u8 (flL (z :: Z) (k + 1)), (k + 1), true, 5⟩] := by
  have e1 := flL_step (Y := (z :: Z)) (k := k) (by simpa using hk)
  have hle := flL_le (z :: Z) (k + 1)
  have hby := flL_by hz (k + 1)
  have hob := obL_len k
  have hob2 : List.take k (obL k) = obL k := List.take_of_length_le (by rw [hob]; exact Nat.le_refl _)
  have h1 : (z :: Z).length = Z.length + 1 := rfl
  have e0 := R6s_tab (z := z) (hb := flL (z :: Z) k) (ob := obL k) (al := flL (z :: Z) k) (Z := Z) (gh := k) (go := k) (ga := k) (nh := (flL (z :: Z) k).length) (no := k) (na := (flL (z :: Z) k).length) (i := k) (c := c)
  have e2 := R6s_fm (z := z) (hb := flL (z :: Z) k) (ob := obL k) (al := flL (z :: Z) k) (Z := Z) (gh := k) (go := k) (ga := k) (nh := (flL (z :: Z) k).length) (no := k) (na := (flL (z :: Z) k).length) (i := k) (c := c)
  have hok := @R6s_ok z (flL (z :: Z) k) (obL k) (flL (z :: Z) k) Z k k k (flL (z :: Z) k).length k (flL (z :: Z) k).length k c
  generalize hr : (z :: Z).getD k [] = r at e1 e0 e2 hok
  have hsub : subLaw r 0 r.length = r := by unfold subLaw; rw [List.drop_zero, List.take_length]
  have htake : List.take r.length (r ++ [201, 202]) = r := List.take_left' rfl
  have hlent : lentLaw (r ++ [201, 202]) r := rfl
  have hlen : (flL (z :: Z) (k + 1)).length = (flL (z :: Z) k).length + r.length := by rw [e1, List.length_append]
  rw [e1] at hby
  refine To.of (o := R6s z (flL (z :: Z) k) (obL k) (flL (z :: Z) k) Z k k k (flL (z :: Z) k).length k (flL (z :: Z) k).length k c) eP_ok hmS (Nat.le_refl 7) (orc6s_ok 7) rfl (hok ?_) R6s_ex ?_ ?_
  · simp only [allP, Con.h, addO_eq, List.take_length, hsub, htake, hlent, hby, capLaw_none, beq_self_eq_true, Bool.not_true, Nat.zero_add, Nat.le_refl, hob, h1, List.length_append, List.length_cons, List.length_nil, decide_eq_true_eq, eq_self, true_and, and_true]
    omega
  · rw [e2, hlen]
    simp only [addO_eq]
    rfl
  · rw [e0, e1]
    simp only [addO_eq, List.take_length, hsub, htake, hob2, List.length_append]
    rfl
theorem law6s {z : List Int} {Z : List (List Int)} {c : Option Nat} (hz : ∀ r ∈ z :: Z, ∀ c ∈ r, 0 ≤ c ∧ c < 256) (hs : ((z :: Z).map List.length).sum ≤ 1048576) (hL : Z.length + 1 ≤ 1048576) :
    Small prog glS 6 [.bool false, .slice 1 0 0 0 (Z.length + 1) c] [some ⟨.frows 1 0 (z :: Z) [], 0, false, 22⟩, some ⟨.fam (z :: Z), 0, false, 5⟩] (.bool true) [some ⟨.frows 1 0 (z :: Z) [], 0, false, 22⟩, some ⟨.fam (z :: Z), 0, false, 5⟩] := by
  refine small_of_awp eP_ok (f := 6) (fn := f6) (c := bodyOf f6) (by kernel_rfl) (by kernel_rfl) (by kernel_rfl) ?_
  show AWp eP 101 2 (bodyOf f6) [(0, .bool false), (1, .slice 1 0 0 0 (Z.length + 1) c)] [some ⟨.frows 1 0 (z :: Z) [], 0, false, 22⟩, some ⟨.fam (z :: Z), 0, false, 5⟩] _
  refine AWp.cutTG eP_ok hmS (m := 4) 5 (o := N6s z Z c) rfl (N6s_ok trivial) N6s_ex ?_
  rw [N6s_fm, N6s_tab]
  show AWp eP 101 2 c6t _ _ _
  refine AWp.cutTG eP_ok hmS (m := 4) 2 (o := M6s z Z c) rfl (M6s_ok trivial) M6s_ex ?_
  rw [split6, M6s_fm, M6s_tab]
  refine AWp.conv (Conv.nilCell (kk := .u8) (et2 := 5) (sz := 1) (p := 2) (j := 1) rfl rfl rfl) (by intro p hp; simp at hp; subst hp; exact ⟨6, _, rfl, rfl⟩) ?_
  refine AWp.conv (Conv.nilCell (kk := .u8) (et2 := 5) (sz := 1) (p := 3) (j := 1) rfl rfl rfl) (by intro p hp; simp at hp; subst hp; exact ⟨7, _, rfl, rfl⟩) ?_
  refine AWp.nilTo [(0, .bool false), (1, .slice 1 0 0 0 (Z.length + 1) c), (6, .var 2 0), (7, .var 3 0), (8, .slice 1 6 0 0 0 none)] .u8 5 (fun t v hv => by
      simp only [look] at hv ⊢
      repeat' split at hv
      all_goals first
        | (injection hv with hv; subst hv; simp_all; done)
        | (simp_all; done)) ?_
  refine AWp.seq (AWp.seq (AWp.mono (To.of (o := I6s z [] [] [] Z 0 0 0 0 0 0 0 c) eP_ok hmS (Nat.le_refl 2) OrcOk.nil rfl (I6s_ok trivial) I6s_ex I6s_fm I6s_tab) fun ex fm T hP => ?_))
  obtain ⟨rfl, rfl, rfl⟩ := hP
  refine AWp.mono (To.base (Nat.le_of_ble_eq_true rfl : 2 ≤ 7) (To.rounds (E := eP) (n := 101) (k := 7) (id := 0) (c := roundOf 0 f6) (fun k : Nat => [(0, .bool false), (1, .slice 1 0 0 0 (Z.length + 1) c), (6, .var 2 0), (7, .var 3 0), (8, .slice 1 6 k 0 (flL (z :: Z) k).length none), (9, .int .i64 (k : Nat))]) (fun k => [some ⟨.frows 1 0 (z :: Z) [], 0, false, 22⟩, some ⟨.fam (z :: Z), 0, false, 5⟩, some ⟨.agg [.int .i64 256, .slice 1 4 k 0 (flL (z :: Z) k).length none], 0, true, 35⟩, some ⟨.agg [.int .i64 256, .slice 1 5 k 0 k none], 0, true, 35⟩, some ⟨.ints .u8 (flL (z :: Z) k), k, true, 5⟩, some ⟨.ints .u8 (obL k), k, true, 5⟩, some ⟨.ints .u8 (flL (z :: Z) k), k, true, 5⟩]) (Z.length + 1) (fun k hk => round6s hz hs hL k hk)
      (To.of (o := E6s z (flL (z :: Z) (Z.length + 1)) (obL (Z.length + 1)) (flL (z :: Z) (Z.length + 1)) Z (Z.length + 1) (Z.length + 1) (Z.length + 1) (flL (z :: Z) (Z.length + 1)).length (Z.length + 1) (flL (z :: Z) (Z.length + 1)).length (Z.length + 1) c) eP_ok hmS (Nat.le_refl 7) OrcOk.nil rfl (E6s_ok (by simp [allP, Con.h])) E6s_ex E6s_fm E6s_tab))) fun ex fm T hP => ?_
  obtain ⟨rfl, rfl, rfl⟩ := hP
  refine AWp.mono (To.of (o := Z6s z (flL (z :: Z) (Z.length + 1)) (obL (Z.length + 1)) (flL (z :: Z) (Z.length + 1)) Z (Z.length + 1) (Z.length + 1) (Z.length + 1) (flL (z :: Z) (Z.length + 1)).length (Z.length + 1) (flL (z :: Z) (Z.length + 1)).length (Z.length + 1) c) eP_ok hmS (Nat.le_refl 2) OrcOk.nil rfl (Z6s_ok trivial) Z6s_ex Z6s_fm Z6s_tab) fun ex fm T hP => ?_
  obtain ⟨rfl, rfl, rfl⟩ := hP
  exact ⟨.inr rfl, rfl, [], [.bool true], rfl, trivial, rfl⟩
theorem round6l {z : List Int} {Z : List (List Int)} {c : Option Nat} (hz : ∀ r ∈ z :: Z, ∀ c ∈ r, 0 ≤ c ∧ c < 256) (hs : ((z :: Z).map List.length).sum ≤ 1048576) (hL : Z.length + 1 ≤ 1048576) (k : Nat) (hk : k < Z.length + 1) :
    To eP 101 7 (roundOf 0 f6) [(0, .bool true), (1, .slice 1 0 0 0 (Z.length + 1) c), (6, .var 2 0), (7, .var 3 0), (8, .slice 1 6 k 0 (flL (z :: Z) k).length none), (9, .int .i64 (k : Nat))] [some ⟨.frows 1 0 (z :: Z) [], 0, false, 22⟩, some ⟨.fam (z :: Z), 0, false, 5⟩, some ⟨.agg [.int .i64 512, .slice 1 4 k 0 (flL (z :: Z) k).length none], 0, true, 35⟩, some ⟨.agg [.int .i64 512, .slice 1 5 k 0 k none], 0, true, 35⟩, some ⟨.ints .u8 (flL (z :: Z) k), k, true, 5⟩, some ⟨.ints .u8 (obL k), k, true, 5⟩, some ⟨.ints .u8 (flL (z :: Z) k), k, true, 5⟩] .normal [(0, .bool true), (1, .slice 1 0 0 0 (Z.length + 1) c), (6, .var 2 0), (7, .var 3 0), (8, .slice 1 6 (k + 1) 0 (flL (z :: Z) (k + 1)).length none), (9, .int .i64 ((k + 1) : Nat))] [some ⟨.frows 1 0 (z :: Z) [], 0, false, 22⟩, some ⟨.fam (z :: Z), 0, false, 5⟩, some ⟨.agg [.int .i64 512, .slice 1 4 (k + 1) 0 (flL (z :: Z) (k + 1)).length none], 0, true, 35⟩, some ⟨.agg [.int .i64 512, .slice 1 5 (k + 1) 0 (k + 1) none], 0, true, 35⟩, some ⟨.ints .u8 (flL (z :: Z) (k + 1)), (k + 1), true, 5⟩, some ⟨.ints .u8 (obL (k + 1)), (k + 1), true, 5⟩, some ⟨.ints .u8 (flL (z :: Z) (k + 1)), (k + 1), true, 5⟩] := by
  have e1 := flL_step (Y := (z :: Z)) (k := k) (by simpa using hk)
  have hle := flL_le (z :: Z) (k + 1)
  have hby := flL_by hz (k + 1)
  have hob := obL_len k
  have hob2 : List.take k (obL k) = obL k := List.take_of_length_le (by rw [hob]; exact Nat.le_refl _)
  have h1 : (z :: Z).length = Z.length + 1 := rfl
  have e0 := R6l_tab (z := z) (hb := flL (z :: Z) k) (ob := obL k) (al := flL (z :: Z) k) (Z := Z) (gh := k) (go := k) (ga := k) (nh := (flL (z :: Z) k).length) (no := k) (na := (flL (z :: Z) k).length) (i := k) (c := c)
  have e2 := R6l_fm (z := z) (hb := flL (z :: Z) k) (ob := obL k) (al := flL (z :: Z) k) (Z := Z) (gh := k) (go := k) (ga := k) (nh := (flL (z :: Z) k).length) (no := k) (na := (flL (z :: Z) k).length) (i := k) (c := c)
  have hok := @R6l_ok z (flL (z :: Z) k) (obL k) (flL (z :: Z) k) Z k k k (flL (z :: Z) k).length k (flL (z :: Z) k).length k c
  generalize hr : (z :: Z).getD k [] = r at e1 e0 e2 hok
  have hsub : subLaw r 0 r.length = r := by unfold subLaw; rw [List.drop_zero, List.take_length]
  have htake : List.take r.length (r ++ [201, 202]) = r := List.take_left' rfl
  have hlent : lentLaw (r ++ [201, 202]) r := rfl
  have hlen : (flL (z :: Z) (k + 1)).length = (flL (z :: Z) k).length + r.length := by rw [e1, List.length_append]
  rw [e1] at hby
  refine To.of (o := R6l z (flL (z :: Z) k) (obL k) (flL (z :: Z) k) Z k k k (flL (z :: Z) k).length k (flL (z :: Z) k).length k c) eP_ok hmS (Nat.le_refl 7) (orc6l_ok 7) rfl (hok ?_) R6l_ex ?_ ?_
  · simp only [allP, Con.h, addO_eq, List.take_length, hsub, htake, hlent, hby, capLaw_none, beq_self_eq_true, Bool.not_true, Nat.zero_add, Nat.le_refl, hob, h1, List.length_append, List.length_cons, List.length_nil, decide_eq_true_eq, eq_self, true_and, and_true]
    omega
  · rw [e2, hlen]
    simp only [addO_eq]
    rfl
  · rw [e0, e1]
    simp only [addO_eq, List.take_length, hsub, htake, hob2, List.length_append]
    rfl
theorem law6l {z : List Int} {Z : List (List Int)} {c : Option Nat} (hz : ∀ r ∈ z :: Z, ∀ c ∈ r, 0 ≤ c ∧ c < 256) (hs : ((z :: Z).map List.length).sum ≤ 1048576) (hL : Z.length + 1 ≤ 1048576) :
    Small prog glS 6 [.bool true, .slice 1 0 0 0 (Z.length + 1) c] [some ⟨.frows 1 0 (z :: Z) [], 0, false, 22⟩, some ⟨.fam (z :: Z), 0, false, 5⟩] (.bool true) [some ⟨.frows 1 0 (z :: Z) [], 0, false, 22⟩, some ⟨.fam (z :: Z), 0, false, 5⟩] := by
  refine small_of_awp eP_ok (f := 6) (fn := f6) (c := bodyOf f6) (by kernel_rfl) (by kernel_rfl) (by kernel_rfl) ?_
  show AWp eP 101 2 (bodyOf f6) [(0, .bool true), (1, .slice 1 0 0 0 (Z.length + 1) c)] [some ⟨.frows 1 0 (z :: Z) [], 0, false, 22⟩, some ⟨.fam (z :: Z), 0, false, 5⟩] _
  refine AWp.cutTG eP_ok hmS (m := 4) 5 (o := N6l z Z c) rfl (N6l_ok trivial) N6l_ex ?_
  rw [N6l_fm, N6l_tab]
  show AWp eP 101 2 c6t _ _ _
  refine AWp.cutTG eP_ok hmS (m := 4) 2 (o := M6l z Z c) rfl (M6l_ok trivial) M6l_ex ?_
  rw [split6, M6l_fm, M6l_tab]
  refine AWp.conv (Conv.nilCell (kk := .u8) (et2 := 5) (sz := 1) (p := 2) (j := 1) rfl rfl rfl) (by intro p hp; simp at hp; subst hp; exact ⟨6, _, rfl, rfl⟩) ?_
  refine AWp.conv (Conv.nilCell (kk := .u8) (et2 := 5) (sz := 1) (p := 3) (j := 1) rfl rfl rfl) (by intro p hp; simp at hp; subst hp; exact ⟨7, _, rfl, rfl⟩) ?_
  refine AWp.nilTo [(0, .bool true), (1, .slice 1 0 0 0 (Z.length + 1) c), (6, .var 2 0), (7, .var 3 0), (8, .slice 1 6 0 0 0 none)] .u8 5 (fun t v hv => by
      simp only [look] at hv ⊢
      repeat' split at hv
      all_goals first
        | (injection hv with hv; subst hv; simp_all; done)
        | (simp_all; done)) ?_
  refine AWp.seq (AWp.seq (AWp.mono (To.of (o := I6l z [] [] [] Z 0 0 0 0 0 0 0 c) eP_ok hmS (Nat.le_refl 2) OrcOk.nil rfl (I6l_ok trivial) I6l_ex I6l_fm I6l_tab) fun ex fm T hP => ?_))
  obtain ⟨rfl, rfl, rfl⟩ := hP
  refine AWp.mono (To.base (Nat.le_of_ble_eq_true rfl : 2 ≤ 7) (To.rounds (E := eP) (n := 101) (k := 7) (id := 0) (c := roundOf 0 f6) (fun k : Nat => [(0, .bool true), (1, .slice 1 0 0 0 (Z.length + 1) c), (6, .var 2 0), (7, .var 3 0), (8, .slice 1 6 k 0 (flL (z :: Z) k).length none), (9, .int .i64 (k : Nat))]) (fun k => [some ⟨.frows 1 0 (z :: Z) [], 0, false, 22⟩, some ⟨.fam (z :: Z), 0, false, 5⟩, some ⟨.agg [.int .i64 512, .slice 1 4 k 0 (flL (z :: Z) k).length none], 0, true, 35⟩, some ⟨.agg [.int .i64 512, .slice 1 5 k 0 k none], 0, true, 35⟩, some ⟨.ints .u8 (flL (z :: Z) k), k, true, 5⟩, some ⟨.ints .u8 (obL k), k, true, 5⟩, some ⟨.ints .u8 (flL (z :: Z) k), k, true, 5⟩]) (Z.length + 1) (fun k hk => round6l hz hs hL k hk)
      (To.of (o := E6l z (flL (z :: Z) (Z.length + 1)) (obL (Z.length + 1)) (flL (z :: Z) (Z.length + 1)) Z (Z.length + 1) (Z.length + 1) (Z.length + 1) (flL (z :: Z) (Z.length + 1)).length (Z.length + 1) (flL (z :: Z) (Z.length + 1)).length (Z.length + 1) c) eP_ok hmS (Nat.le_refl 7) OrcOk.nil rfl (E6l_ok (by simp [allP, Con.h])) E6l_ex E6l_fm E6l_tab))) fun ex fm T hP => ?_
  obtain ⟨rfl, rfl, rfl⟩ := hP
  refine AWp.mono (To.of (o := Z6l z (flL (z :: Z) (Z.length + 1)) (obL (Z.length + 1)) (flL (z :: Z) (Z.length + 1)) Z (Z.length + 1) (Z.length + 1) (Z.length + 1) (flL (z :: Z) (Z.length + 1)).length (Z.length + 1) (flL (z :: Z) (Z.length + 1)).length (Z.length + 1) c) eP_ok hmS (Nat.le_refl 2) OrcOk.nil rfl (Z6l_ok trivial) Z6l_ex Z6l_fm Z6l_tab) fun ex fm T hP => ?_
  obtain ⟨rfl, rfl, rfl⟩ := hP
  exact ⟨.inr rfl, rfl, [], [.bool true], rfl, trivial, rfl⟩
theorem law6 {lg : Bool} {z : List Int} {Z : List (List Int)} {c : Option Nat} (hz : ∀ r ∈ z :: Z, ∀ c ∈ r, 0 ≤ c ∧ c < 256) (hs : ((z :: Z).map List.length).sum ≤ 1048576) (hL : Z.length + 1 ≤ 1048576) :
    Small prog glS 6 [.bool lg, .slice 1 0 0 0 (Z.length + 1) c] [some ⟨.frows 1 0 (z :: Z) [], 0, false, 22⟩, some ⟨.fam (z :: Z), 0, false, 5⟩] (.bool true) [some ⟨.frows 1 0 (z :: Z) [], 0, false, 22⟩, some ⟨.fam (z :: Z), 0, false, 5⟩] := by
  cases lg
  · exact law6s hz hs hL
  · exact law6l hz hs hL
theorem law6e {lg : Bool} {c : Option Nat} : Small prog glS 6 [.bool lg, .slice 1 0 0 0 0 c] [some ⟨.agg [], 0, false, 22⟩] (.bool true) [some ⟨.agg [], 0, false, 22⟩] := by
  cases lg
  · exact small_drop (small_of (R := R6se c) eP_ok hmS (f := 6) (fn := f6) (by kernel_rfl) (by kernel_rfl) FnOrc.nil rfl (R6se_ok ⟨rfl, trivial⟩) R6se_val R6se_tab)
  · exact small_drop (small_of (R := R6le c) eP_ok hmS (f := 6) (fn := f6) (by kernel_rfl) (by kernel_rfl) FnOrc.nil rfl (R6le_ok ⟨rfl, trivial⟩) R6le_val R6le_tab)
end Go.Abs
