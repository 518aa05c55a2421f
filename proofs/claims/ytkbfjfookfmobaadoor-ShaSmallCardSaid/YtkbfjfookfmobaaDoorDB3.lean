/- What functions of the given program come to, by the abstract machine: one text of a proof. -/
import Derived.Test.YtkbfjfookfmobaaDoorDB2
set_option linter.unusedVariables false
set_option linter.unusedSimpArgs false
set_option maxRecDepth 8000
namespace Go.Abs
open Go.Proofs Go.Proofs.Tryd
/-! ### padding and blocks -/
def padLaw (B m : Nat) : Nat := (2 * B - B / 8 - m % B) % B
theorem pad64_lt {m i : Nat} (h : i < padLaw 64 m) : (m + i) % 64 ≠ 56 := by unfold padLaw at h; omega
theorem pad64_at (m : Nat) : (m + padLaw 64 m) % 64 = 56 := by unfold padLaw; omega
theorem pad64_le (m : Nat) : padLaw 64 m < 64 := by unfold padLaw; omega
theorem pad128_lt {m i : Nat} (h : i < padLaw 128 m) : (m + i) % 128 ≠ 112 := by unfold padLaw at h; omega
theorem pad128_at (m : Nat) : (m + padLaw 128 m) % 128 = 112 := by unfold padLaw; omega
theorem pad128_le (m : Nat) : padLaw 128 m < 128 := by unfold padLaw; omega
theorem tmod_nat (a b : Nat) : ((a : Int).tmod (b : Int)) = ((a % b : Nat) : Int) := rfl
def zeroLaw (n : Nat) : List Int := List.replicate n 0
theorem zero_snoc (xs : List Int) (i : Nat) : (xs ++ zeroLaw i) ++ [0] = xs ++ zeroLaw (i + 1) := by
  rw [List.append_assoc]; congr 1; unfold zeroLaw; rw [List.replicate_succ']
theorem To.start {E : Env} {n k : Nat} {c : Code} {fm fm' : Fm} {T0 T T' : Tab} {ex : AExit} (e : T0 = T) (h : To E n k c fm T0 ex fm' T') : To E n k c fm T ex fm' T' := e ▸ h
theorem zero_len (i : Nat) : (zeroLaw i).length = i := by simp [zeroLaw]
/-! width 32 -/
def FP33 (len : Int) (g4 m : Nat) : Fm := [(1, .slice 1 4 g4 0 m none), (2, .var 1 0), (5, .var 2 0), (6, .int .i64 64), (7, .int .u64 len)]
def TP33 (x0 x1 x2 x3 x4 x5 x6 x7 : Int) (zs : List Int) (g : Nat) (ow : Bool) (xs : List Int) (g4 : Nat) : Tab := [some ⟨.ints .u8 zs, g, ow, 5⟩, some ⟨.ints .i64 [32, 64, 7, 18, 3, 17, 19, 10, 2, 13, 22, 6, 11, 25], 0, true, 50⟩, some ⟨.agg [.int .i64 32, .int .i64 64, .int .i64 7, .int .i64 18, .int .i64 3, .int .i64 17, .int .i64 19, .int .i64 10, .int .i64 2, .int .i64 13, .int .i64 22, .int .i64 6, .int .i64 11, .int .i64 25, .int .u32 x0, .int .u32 x1, .int .u32 x2, .int .u32 x3, .int .u32 x4, .int .u32 x5, .int .u32 x6, .int .u32 x7], 0, true, 64⟩, some ⟨.ints .u8 [128], 0, true, 5⟩, some ⟨.ints .u8 xs, g4, true, 5⟩]
theorem loopP33 {len : Int} {x0 x1 x2 x3 x4 x5 x6 x7 : Int} {zs : List Int} {g : Nat} {ow : Bool} {xs : List Int} {g4 : Nat} (hl : xs.length + 64 ≤ 140737488355328) :
    To eX32 89 5 (.block 0 (.loop (roundOf 0 f33))) (FP33 len g4 xs.length) (TP33 x0 x1 x2 x3 x4 x5 x6 x7 zs g ow xs g4) .normal (FP33 len (g4 + padLaw 64 xs.length) (xs.length + padLaw 64 xs.length)) (TP33 x0 x1 x2 x3 x4 x5 x6 x7 zs g ow (xs ++ zeroLaw (padLaw 64 xs.length)) (g4 + padLaw 64 xs.length)) := by
  have hle := pad64_le xs.length
  have hat := pad64_at xs.length
  refine To.start (T0 := TP33 x0 x1 x2 x3 x4 x5 x6 x7 zs g ow (xs ++ zeroLaw 0) g4) (by rw [show xs ++ zeroLaw 0 = xs from List.append_nil _]) ?_
  refine To.rounds (fun i => FP33 len (g4 + i) (xs.length + i)) (fun i => TP33 x0 x1 x2 x3 x4 x5 x6 x7 zs g ow (xs ++ zeroLaw i) (g4 + i)) (padLaw 64 xs.length) (fun i hi => ?_)
    (To.of (o := PB33 len (xs.length + padLaw 64 xs.length) x0 x1 x2 x3 x4 x5 x6 x7 zs (xs ++ zeroLaw (padLaw 64 xs.length)) g (g4 + padLaw 64 xs.length) ow) eX32_ok hmS (Nat.le_refl 5) OrcOk.nil rfl (PB33_ok ?_) PB33_ex PB33_fm PB33_tab)
  · have hne := pad64_lt hi
    have hlen : (xs ++ zeroLaw i).length = xs.length + i := by rw [List.length_append, zero_len]
    refine To.of (o := PA33 len (xs.length + i) x0 x1 x2 x3 x4 x5 x6 x7 zs (xs ++ zeroLaw i) g (g4 + i) ow) eX32_ok hmS (Nat.le_refl 5) OrcOk.nil rfl (PA33_ok ?_) PA33_ex (by rw [PA33_fm, addO_eq]; rfl) ?_
    · simp only [allP, Con.h, hlen, addO_eq, Nat.zero_add, Nat.le_refl, eq_self, true_and, and_true]
      refine ⟨?_, by omega⟩
      rw [show (64 : Int) = ((64 : Nat) : Int) from rfl, tmod_nat, bne_iff_ne]
      omega
    · rw [PA33_tab, List.take_of_length_le (by omega), zero_snoc]
      rfl
  · simp only [allP, Con.h, eq_self, true_and, and_true]
    rw [show (64 : Int) = ((64 : Nat) : Int) from rfl, tmod_nat, hat]
    rfl
noncomputable def gP33 : List AVal → Tab → Out := fun vs T => match vs, T with
  | [.slice 1 4 g4' 0 m none, .var 1 0, .var 2 0, .int .i64 b, .int .u64 len], [some ⟨.ints .u8 zs, g, ow, 5⟩, some ⟨.ints .i64 [32, 64, 7, 18, 3, 17, 19, 10, 2, 13, 22, 6, 11, 25], 0, true, 50⟩, some ⟨.agg [.int .i64 32, .int .i64 64, .int .i64 7, .int .i64 18, .int .i64 3, .int .i64 17, .int .i64 19, .int .i64 10, .int .i64 2, .int .i64 13, .int .i64 22, .int .i64 6, .int .i64 11, .int .i64 25, .int .u32 x0, .int .u32 x1, .int .u32 x2, .int .u32 x3, .int .u32 x4, .int .u32 x5, .int .u32 x6, .int .u32 x7], 0, true, 64⟩, some ⟨.ints .u8 [128], 0, true, 5⟩, some ⟨.ints .u8 xs, g4, true, 5⟩] =>
    ⟨[.eqN g4' g4, .eqN m xs.length, .rng 64 b 64, .leN (xs.length + 64) 140737488355328], .normal, [(1, .slice 1 4 (g4 + padLaw 64 m) 0 (m + padLaw 64 m) none), (2, .var 1 0), (5, .var 2 0), (6, .int .i64 64), (7, .int .u64 len)],
      [some ⟨.ints .u8 zs, g, ow, 5⟩, some ⟨.ints .i64 [32, 64, 7, 18, 3, 17, 19, 10, 2, 13, 22, 6, 11, 25], 0, true, 50⟩, some ⟨.agg [.int .i64 32, .int .i64 64, .int .i64 7, .int .i64 18, .int .i64 3, .int .i64 17, .int .i64 19, .int .i64 10, .int .i64 2, .int .i64 13, .int .i64 22, .int .i64 6, .int .i64 11, .int .i64 25, .int .u32 x0, .int .u32 x1, .int .u32 x2, .int .u32 x3, .int .u32 x4, .int .u32 x5, .int .u32 x6, .int .u32 x7], 0, true, 64⟩, some ⟨.ints .u8 [128], 0, true, 5⟩, some ⟨.ints .u8 (xs ++ zeroLaw (padLaw 64 m)), g4 + padLaw 64 m, true, 5⟩], []⟩
  | _, _ => failO
theorem gP33_ok : BlkOk eX32 f33 0 (.loop (roundOf 0 f33)) (blkS 5 [1,2,5,6,7] gP33) := by
  refine blkS_ok fun vs T h => ?_
  unfold gP33 at h ⊢
  split at h
  · rename_i g4' m b len zs g ow x0 x1 x2 x3 x4 x5 x6 x7 xs g4
    obtain ⟨h1, h2, h3, h4, _⟩ := h.h
    simp only [Con.h] at h1 h2 h3 h4
    obtain rfl : b = 64 := by omega
    subst h1 h2
    exact loopP33 h4
  · exact absurd h nofailO
def stsLaw32 (xs s : List Int) : Nat → List Int
  | 0 => s
  | i + 1 => [bkLaw32 xs (64 * i) (stsLaw32 xs s i) 0, bkLaw32 xs (64 * i) (stsLaw32 xs s i) 1, bkLaw32 xs (64 * i) (stsLaw32 xs s i) 2, bkLaw32 xs (64 * i) (stsLaw32 xs s i) 3, bkLaw32 xs (64 * i) (stsLaw32 xs s i) 4, bkLaw32 xs (64 * i) (stsLaw32 xs s i) 5, bkLaw32 xs (64 * i) (stsLaw32 xs s i) 6, bkLaw32 xs (64 * i) (stsLaw32 xs s i) 7]
theorem stsLaw32_len {xs s : List Int} (h : s.length = 8) : ∀ i, (stsLaw32 xs s i).length = 8
  | 0 => h
  | i + 1 => rfl
theorem stsLaw32_wds {xs s : List Int} (h : Wds 32 s) : ∀ i, Wds 32 (stsLaw32 xs s i)
  | 0 => h
  | i + 1 => .cons (bkLaw32_wd _ _ _ _) (.cons (bkLaw32_wd _ _ _ _) (.cons (bkLaw32_wd _ _ _ _) (.cons (bkLaw32_wd _ _ _ _) (.cons (bkLaw32_wd _ _ _ _) (.cons (bkLaw32_wd _ _ _ _) (.cons (bkLaw32_wd _ _ _ _) (.cons (bkLaw32_wd _ _ _ _) (.nil 32))))))))
def stAt32Law (xs s : List Int) (i j : Nat) : Int := (stsLaw32 xs s i).getD j 0
def FE33 (g4 off m : Nat) : Fm := [(1, .slice 1 4 g4 off m none), (2, .var 1 0), (5, .var 2 0), (6, .int .i64 64)]
def TE33 (zs : List Int) (g : Nat) (ow : Bool) (xs : List Int) (g4 : Nat) (s : List Int) : Tab := [some ⟨.ints .u8 zs, g, ow, 5⟩, some ⟨.ints .i64 [32, 64, 7, 18, 3, 17, 19, 10, 2, 13, 22, 6, 11, 25], 0, true, 50⟩, some ⟨.agg [.int .i64 32, .int .i64 64, .int .i64 7, .int .i64 18, .int .i64 3, .int .i64 17, .int .i64 19, .int .i64 10, .int .i64 2, .int .i64 13, .int .i64 22, .int .i64 6, .int .i64 11, .int .i64 25, .int .u32 (s.getD 0 0), .int .u32 (s.getD 1 0), .int .u32 (s.getD 2 0), .int .u32 (s.getD 3 0), .int .u32 (s.getD 4 0), .int .u32 (s.getD 5 0), .int .u32 (s.getD 6 0), .int .u32 (s.getD 7 0)], 0, true, 64⟩, some ⟨.ints .u8 [128], 0, true, 5⟩, some ⟨.ints .u8 xs, g4, true, 5⟩]
theorem loopE33 {zs : List Int} {g : Nat} {ow : Bool} {xs s : List Int} {g4 q : Nat} (hl : xs.length = 64 * q) (hb : BsLaw xs) (hs : s.length = 8) (hw : Wds 32 s) :
    To eX32 89 5 (.block 4 (.loop (roundOf 4 f33))) (FE33 g4 0 xs.length) (TE33 zs g ow xs g4 s) .normal [(2, .var 1 0), (5, .var 2 0)] (TE33 zs g ow xs g4 (stsLaw32 xs s q)) := by
  refine To.rounds (fun i => FE33 g4 (64 * i) (xs.length - 64 * i)) (fun i => TE33 zs g ow xs g4 (stsLaw32 xs s i)) q (fun i hi => ?_) ?_
  · have e1 := stsLaw32_len (xs := xs) hs i
    have e2 := stsLaw32_wds (xs := xs) hw i
    show To _ _ _ _ _ _ _ _ (TE33 zs g ow xs g4 [bkLaw32 xs (64 * i) (stsLaw32 xs s i) 0, bkLaw32 xs (64 * i) (stsLaw32 xs s i) 1, bkLaw32 xs (64 * i) (stsLaw32 xs s i) 2, bkLaw32 xs (64 * i) (stsLaw32 xs s i) 3, bkLaw32 xs (64 * i) (stsLaw32 xs s i) 4, bkLaw32 xs (64 * i) (stsLaw32 xs s i) 5, bkLaw32 xs (64 * i) (stsLaw32 xs s i) 6, bkLaw32 xs (64 * i) (stsLaw32 xs s i) 7])
    generalize stsLaw32 xs s i = r at e1 e2 ⊢
    obtain ⟨x0, x1, x2, x3, x4, x5, x6, x7, rfl⟩ := list8 e1
    have e3 : WdsLaw 32 [x0, x1, x2, x3, x4, x5, x6, x7] := e2
    refine To.of (o := PE33 (64 * i) (xs.length - 64 * i) x0 x1 x2 x3 x4 x5 x6 x7 zs xs g g4 ow) eX32_ok hmS (Nat.le_refl 5) OrcOk.nil rfl (PE33_ok ?_) PE33_ex ?_ ?_
    · simp only [allP, Con.h, addO_eq, hb, e3, decide_eq_true_eq, eq_self, true_and, and_true]
      omega
    · rw [PE33_fm, addO_eq]
      show _ = FE33 g4 (64 * (i + 1)) (xs.length - 64 * (i + 1))
      rw [show 64 * (i + 1) = 64 * i + 64 by omega, Nat.sub_add_eq]
      rfl
    · rw [PE33_tab, addO_eq]
      rfl
  · have e1 := stsLaw32_len (xs := xs) hs q
    show To _ _ _ _ _ (TE33 zs g ow xs g4 (stsLaw32 xs s q)) _ _ _
    generalize stsLaw32 xs s q = r at e1 ⊢
    obtain ⟨x0, x1, x2, x3, x4, x5, x6, x7, rfl⟩ := list8 e1
    exact To.of (o := PF33 (64 * q) (xs.length - 64 * q) x0 x1 x2 x3 x4 x5 x6 x7 zs xs g g4 ow) eX32_ok hmS (Nat.le_refl 5) OrcOk.nil rfl (PF33_ok (by simp only [allP, Con.h, decide_eq_false_iff_not, eq_self, true_and, and_true]; omega)) PF33_ex PF33_fm PF33_tab
noncomputable def gE33 : List AVal → Tab → Out := fun vs T => match vs, T with
  | [.slice 1 4 g4' 0 m none, .var 1 0, .var 2 0, .int .i64 b], [some ⟨.ints .u8 zs, g, ow, 5⟩, some ⟨.ints .i64 [32, 64, 7, 18, 3, 17, 19, 10, 2, 13, 22, 6, 11, 25], 0, true, 50⟩, some ⟨.agg [.int .i64 32, .int .i64 64, .int .i64 7, .int .i64 18, .int .i64 3, .int .i64 17, .int .i64 19, .int .i64 10, .int .i64 2, .int .i64 13, .int .i64 22, .int .i64 6, .int .i64 11, .int .i64 25, .int .u32 x0, .int .u32 x1, .int .u32 x2, .int .u32 x3, .int .u32 x4, .int .u32 x5, .int .u32 x6, .int .u32 x7], 0, true, 64⟩, some ⟨.ints .u8 [128], 0, true, 5⟩, some ⟨.ints .u8 xs, g4, true, 5⟩] =>
    ⟨[.eqN g4' g4, .eqN m xs.length, .rng 64 b 64, .p (xs.length % 64 = 0), .p (BsLaw xs), .p (WdsLaw 32 [x0, x1, x2, x3, x4, x5, x6, x7])], .normal, [(2, .var 1 0), (5, .var 2 0)],
      [some ⟨.ints .u8 zs, g, ow, 5⟩, some ⟨.ints .i64 [32, 64, 7, 18, 3, 17, 19, 10, 2, 13, 22, 6, 11, 25], 0, true, 50⟩, some ⟨.agg [.int .i64 32, .int .i64 64, .int .i64 7, .int .i64 18, .int .i64 3, .int .i64 17, .int .i64 19, .int .i64 10, .int .i64 2, .int .i64 13, .int .i64 22, .int .i64 6, .int .i64 11, .int .i64 25, .int .u32 (stAt32Law xs [x0, x1, x2, x3, x4, x5, x6, x7] (xs.length / 64) 0), .int .u32 (stAt32Law xs [x0, x1, x2, x3, x4, x5, x6, x7] (xs.length / 64) 1), .int .u32 (stAt32Law xs [x0, x1, x2, x3, x4, x5, x6, x7] (xs.length / 64) 2), .int .u32 (stAt32Law xs [x0, x1, x2, x3, x4, x5, x6, x7] (xs.length / 64) 3), .int .u32 (stAt32Law xs [x0, x1, x2, x3, x4, x5, x6, x7] (xs.length / 64) 4), .int .u32 (stAt32Law xs [x0, x1, x2, x3, x4, x5, x6, x7] (xs.length / 64) 5), .int .u32 (stAt32Law xs [x0, x1, x2, x3, x4, x5, x6, x7] (xs.length / 64) 6), .int .u32 (stAt32Law xs [x0, x1, x2, x3, x4, x5, x6, x7] (xs.length / 64) 7)], 0, true, 64⟩, some ⟨.ints .u8 [128], 0, true, 5⟩, some ⟨.ints .u8 xs, g4, true, 5⟩], []⟩
  | _, _ => failO
theorem gE33_ok : BlkOk eX32 f33 4 (.loop (roundOf 4 f33)) (blkS 5 [1,2,5,6] gE33) := by
  refine blkS_ok fun vs T h => ?_
  unfold gE33 at h ⊢
  split at h
  · rename_i g4' m b zs g ow x0 x1 x2 x3 x4 x5 x6 x7 xs g4
    obtain ⟨h1, h2, h3, h4, h5, h6, _⟩ := h.h
    simp only [Con.h] at h1 h2 h3 h4 h5 h6
    obtain rfl : b = 64 := by omega
    subst h1 h2
    exact loopE33 (q := xs.length / 64) (by omega) h5 rfl h6
  · exact absurd h nofailO
/-! width 64 -/
def FP37 (len : Int) (g4 m : Nat) : Fm := [(1, .slice 1 4 g4 0 m none), (2, .var 1 0), (5, .var 2 0), (6, .int .i64 128), (7, .int .u64 len)]
def TP37 (x0 x1 x2 x3 x4 x5 x6 x7 : Int) (zs : List Int) (g : Nat) (ow : Bool) (xs : List Int) (g4 : Nat) : Tab := [some ⟨.ints .u8 zs, g, ow, 5⟩, some ⟨.ints .i64 [64, 80, 1, 8, 7, 19, 61, 6, 28, 34, 39, 14, 18, 41], 0, true, 50⟩, some ⟨.agg [.int .i64 64, .int .i64 80, .int .i64 1, .int .i64 8, .int .i64 7, .int .i64 19, .int .i64 61, .int .i64 6, .int .i64 28, .int .i64 34, .int .i64 39, .int .i64 14, .int .i64 18, .int .i64 41, .int .u64 x0, .int .u64 x1, .int .u64 x2, .int .u64 x3, .int .u64 x4, .int .u64 x5, .int .u64 x6, .int .u64 x7], 0, true, 73⟩, some ⟨.ints .u8 [128], 0, true, 5⟩, some ⟨.ints .u8 xs, g4, true, 5⟩]
theorem loopP37 {len : Int} {x0 x1 x2 x3 x4 x5 x6 x7 : Int} {zs : List Int} {g : Nat} {ow : Bool} {xs : List Int} {g4 : Nat} (hl : xs.length + 128 ≤ 140737488355328) :
    To eX64 89 5 (.block 0 (.loop (roundOf 0 f37))) (FP37 len g4 xs.length) (TP37 x0 x1 x2 x3 x4 x5 x6 x7 zs g ow xs g4) .normal (FP37 len (g4 + padLaw 128 xs.length) (xs.length + padLaw 128 xs.length)) (TP37 x0 x1 x2 x3 x4 x5 x6 x7 zs g ow (xs ++ zeroLaw (padLaw 128 xs.length)) (g4 + padLaw 128 xs.length)) := by
  have hle := pad128_le xs.length
  have hat := pad128_at xs.length
  refine To.start (T0 := TP37 x0 x1 x2 x3 x4 x5 x6 x7 zs g ow (xs ++ zeroLaw 0) g4) (by rw [show xs ++ zeroLaw 0 = xs from List.append_nil _]) ?_
  refine To.rounds (fun i => FP37 len (g4 + i) (xs.length + i)) (fun i => TP37 x0 x1 x2 x3 x4 x5 x6 x7 zs g ow (xs ++ zeroLaw i) (g4 + i)) (padLaw 128 xs.length) (fun i hi => ?_)
    (To.of (o := PB37 len (xs.length + padLaw 128 xs.length) x0 x1 x2 x3 x4 x5 x6 x7 zs (xs ++ zeroLaw (padLaw 128 xs.length)) g (g4 + padLaw 128 xs.length) ow) eX64_ok hmS (Nat.le_refl 5) OrcOk.nil rfl (PB37_ok ?_) PB37_ex PB37_fm PB37_tab)
  · have hne := pad128_lt hi
    have hlen : (xs ++ zeroLaw i).length = xs.length + i := by rw [List.length_append, zero_len]
    refine To.of (o := PA37 len (xs.length + i) x0 x1 x2 x3 x4 x5 x6 x7 zs (xs ++ zeroLaw i) g (g4 + i) ow) eX64_ok hmS (Nat.le_refl 5) OrcOk.nil rfl (PA37_ok ?_) PA37_ex (by rw [PA37_fm, addO_eq]; rfl) ?_
    · simp only [allP, Con.h, hlen, addO_eq, Nat.zero_add, Nat.le_refl, eq_self, true_and, and_true]
      refine ⟨?_, by omega⟩
      rw [show (128 : Int) = ((128 : Nat) : Int) from rfl, tmod_nat, bne_iff_ne]
      omega
    · rw [PA37_tab, List.take_of_length_le (by omega), zero_snoc]
      rfl
  · simp only [allP, Con.h, eq_self, true_and, and_true]
    rw [show (128 : Int) = ((128 : Nat) : Int) from rfl, tmod_nat, hat]
    rfl
noncomputable def gP37 : List AVal → Tab → Out := fun vs T => match vs, T with
  | [.slice 1 4 g4' 0 m none, .var 1 0, .var 2 0, .int .i64 b, .int .u64 len], [some ⟨.ints .u8 zs, g, ow, 5⟩, some ⟨.ints .i64 [64, 80, 1, 8, 7, 19, 61, 6, 28, 34, 39, 14, 18, 41], 0, true, 50⟩, some ⟨.agg [.int .i64 64, .int .i64 80, .int .i64 1, .int .i64 8, .int .i64 7, .int .i64 19, .int .i64 61, .int .i64 6, .int .i64 28, .int .i64 34, .int .i64 39, .int .i64 14, .int .i64 18, .int .i64 41, .int .u64 x0, .int .u64 x1, .int .u64 x2, .int .u64 x3, .int .u64 x4, .int .u64 x5, .int .u64 x6, .int .u64 x7], 0, true, 73⟩, some ⟨.ints .u8 [128], 0, true, 5⟩, some ⟨.ints .u8 xs, g4, true, 5⟩] =>
    ⟨[.eqN g4' g4, .eqN m xs.length, .rng 128 b 128, .leN (xs.length + 128) 140737488355328], .normal, [(1, .slice 1 4 (g4 + padLaw 128 m) 0 (m + padLaw 128 m) none), (2, .var 1 0), (5, .var 2 0), (6, .int .i64 128), (7, .int .u64 len)],
      [some ⟨.ints .u8 zs, g, ow, 5⟩, some ⟨.ints .i64 [64, 80, 1, 8, 7, 19, 61, 6, 28, 34, 39, 14, 18, 41], 0, true, 50⟩, some ⟨.agg [.int .i64 64, .int .i64 80, .int .i64 1, .int .i64 8, .int .i64 7, .int .i64 19, .int .i64 61, .int .i64 6, .int .i64 28, .int .i64 34, .int .i64 39, .int .i64 14, .int .i64 18, .int .i64 41, .int .u64 x0, .int .u64 x1, .int .u64 x2, .int .u64 x3, .int .u64 x4, .int .u64 x5, .int .u64 x6, .int .u64 x7], 0, true, 73⟩, some ⟨.ints .u8 [128], 0, true, 5⟩, some ⟨.ints .u8 (xs ++ zeroLaw (padLaw 128 m)), g4 + padLaw 128 m, true, 5⟩], []⟩
  | _, _ => failO
theorem gP37_ok : BlkOk eX64 f37 0 (.loop (roundOf 0 f37)) (blkS 5 [1,2,5,6,7] gP37) := by
  refine blkS_ok fun vs T h => ?_
  unfold gP37 at h ⊢
  split at h
  · rename_i g4' m b len zs g ow x0 x1 x2 x3 x4 x5 x6 x7 xs g4
    obtain ⟨h1, h2, h3, h4, _⟩ := h.h
    simp only [Con.h] at h1 h2 h3 h4
    obtain rfl : b = 128 := by omega
    subst h1 h2
    exact loopP37 h4
  · exact absurd h nofailO
def stsLaw64 (xs s : List Int) : Nat → List Int
  | 0 => s
  | i + 1 => [bkLaw64 xs (128 * i) (stsLaw64 xs s i) 0, bkLaw64 xs (128 * i) (stsLaw64 xs s i) 1, bkLaw64 xs (128 * i) (stsLaw64 xs s i) 2, bkLaw64 xs (128 * i) (stsLaw64 xs s i) 3, bkLaw64 xs (128 * i) (stsLaw64 xs s i) 4, bkLaw64 xs (128 * i) (stsLaw64 xs s i) 5, bkLaw64 xs (128 * i) (stsLaw64 xs s i) 6, bkLaw64 xs (128 * i) (stsLaw64 xs s i) 7]
theorem stsLaw64_len {xs s : List Int} (h : s.length = 8) : ∀ i, (stsLaw64 xs s i).length = 8
  | 0 => h
  | i + 1 => rfl
theorem stsLaw64_wds {xs s : List Int} (h : Wds 64 s) : ∀ i, Wds 64 (stsLaw64 xs s i)
  | 0 => h
  | i + 1 => .cons (bkLaw64_wd _ _ _ _) (.cons (bkLaw64_wd _ _ _ _) (.cons (bkLaw64_wd _ _ _ _) (.cons (bkLaw64_wd _ _ _ _) (.cons (bkLaw64_wd _ _ _ _) (.cons (bkLaw64_wd _ _ _ _) (.cons (bkLaw64_wd _ _ _ _) (.cons (bkLaw64_wd _ _ _ _) (.nil 64))))))))
def stAt64Law (xs s : List Int) (i j : Nat) : Int := (stsLaw64 xs s i).getD j 0
def FE37 (g4 off m : Nat) : Fm := [(1, .slice 1 4 g4 off m none), (2, .var 1 0), (5, .var 2 0), (6, .int .i64 128)]
def TE37 (zs : List Int) (g : Nat) (ow : Bool) (xs : List Int) (g4 : Nat) (s : List Int) : Tab := [some ⟨.ints .u8 zs, g, ow, 5⟩, some ⟨.ints .i64 [64, 80, 1, 8, 7, 19, 61, 6, 28, 34, 39, 14, 18, 41], 0, true, 50⟩, some ⟨.agg [.int .i64 64, .int .i64 80, .int .i64 1, .int .i64 8, .int .i64 7, .int .i64 19, .int .i64 61, .int .i64 6, .int .i64 28, .int .i64 34, .int .i64 39, .int .i64 14, .int .i64 18, .int .i64 41, .int .u64 (s.getD 0 0), .int .u64 (s.getD 1 0), .int .u64 (s.getD 2 0), .int .u64 (s.getD 3 0), .int .u64 (s.getD 4 0), .int .u64 (s.getD 5 0), .int .u64 (s.getD 6 0), .int .u64 (s.getD 7 0)], 0, true, 73⟩, some ⟨.ints .u8 [128], 0, true, 5⟩, some ⟨.ints .u8 xs, g4, true, 5⟩]
theorem loopE37 {zs : List Int} {g : Nat} {ow : Bool} {xs s : List Int} {g4 q : Nat} (hl : xs.length = 128 * q) (hb : BsLaw xs) (hs : s.length = 8) (hw : Wds 64 s) :
    To eX64 89 5 (.block 4 (.loop (roundOf 4 f37))) (FE37 g4 0 xs.length) (TE37 zs g ow xs g4 s) .normal [(2, .var 1 0), (5, .var 2 0)] (TE37 zs g ow xs g4 (stsLaw64 xs s q)) := by
  refine To.rounds (fun i => FE37 g4 (128 * i) (xs.length - 128 * i)) (fun i => TE37 zs g ow xs g4 (stsLaw64 xs s i)) q (fun i hi => ?_) ?_
  · have e1 := stsLaw64_len (xs := xs) hs i
    have e2 := stsLaw64_wds (xs := xs) hw i
    show To _ _ _ _ _ _ _ _ (TE37 zs g ow xs g4 [bkLaw64 xs (128 * i) (stsLaw64 xs s i) 0, bkLaw64 xs (128 * i) (stsLaw64 xs s i) 1, bkLaw64 xs (128 * i) (stsLaw64 xs s i) 2, bkLaw64 xs (128 * i) (stsLaw64 xs s i) 3, bkLaw64 xs (128 * i) (stsLaw64 xs s i) 4, bkLaw64 xs (128 * i) (stsLaw64 xs s i) 5, bkLaw64 xs (128 * i) (stsLaw64 xs s i) 6, bkLaw64 xs (128 * i) (stsLaw64 xs s i) 7])
    generalize stsLaw64 xs s i = r at e1 e2 ⊢
    obtain ⟨x0, x1, x2, x3, x4, x5, x6, x7, rfl⟩ := list8 e1
    have e3 : WdsLaw 64 [x0, x1, x2, x3, x4, x5, x6, x7] := e2
    refine To.of (o := PE37 (128 * i) (xs.length - 128 * i) x0 x1 x2 x3 x4 x5 x6 x7 zs xs g g4 ow) eX64_ok hmS (Nat.le_refl 5) OrcOk.nil rfl (PE37_ok ?_) PE37_ex ?_ ?_
    · simp only [allP, Con.h, addO_eq, hb, e3, decide_eq_true_eq, eq_self, true_and, and_true]
      omega
    · rw [PE37_fm, addO_eq]
      show _ = FE37 g4 (128 * (i + 1)) (xs.length - 128 * (i + 1))
      rw [show 128 * (i + 1) = 128 * i + 128 by omega, Nat.sub_add_eq]
      rfl
    · rw [PE37_tab, addO_eq]
      rfl
  · have e1 := stsLaw64_len (xs := xs) hs q
    show To _ _ _ _ _ (TE37 zs g ow xs g4 (stsLaw64 xs s q)) _ _ _
    generalize stsLaw64 xs s q = r at e1 ⊢
    obtain ⟨x0, x1, x2, x3, x4, x5, x6, x7, rfl⟩ := list8 e1
    exact To.of (o := PF37 (128 * q) (xs.length - 128 * q) x0 x1 x2 x3 x4 x5 x6 x7 zs xs g g4 ow) eX64_ok hmS (Nat.le_refl 5) OrcOk.nil rfl (PF37_ok (by simp only [allP, Con.h, decide_eq_false_iff_not, eq_self, true_and, and_true]; omega)) PF37_ex PF37_fm PF37_tab
noncomputable def gE37 : List AVal → Tab → Out := fun vs T => match vs, T with
  | [.slice 1 4 g4' 0 m none, .var 1 0, .var 2 0, .int .i64 b], [some ⟨.ints .u8 zs, g, ow, 5⟩, some ⟨.ints .i64 [64, 80, 1, 8, 7, 19, 61, 6, 28, 34, 39, 14, 18, 41], 0, true, 50⟩, some ⟨.agg [.int .i64 64, .int .i64 80, .int .i64 1, .int .i64 8, .int .i64 7, .int .i64 19, .int .i64 61, .int .i64 6, .int .i64 28, .int .i64 34, .int .i64 39, .int .i64 14, .int .i64 18, .int .i64 41, .int .u64 x0, .int .u64 x1, .int .u64 x2, .int .u64 x3, .int .u64 x4, .int .u64 x5, .int .u64 x6, .int .u64 x7], 0, true, 73⟩, some ⟨.ints .u8 [128], 0, true, 5⟩, some ⟨.ints .u8 xs, g4, true, 5⟩] =>
    ⟨[.eqN g4' g4, .eqN m xs.length, .rng 128 b 128, .p (xs.length % 128 = 0), .p (BsLaw xs), .p (WdsLaw 64 [x0, x1, x2, x3, x4, x5, x6, x7])], .normal, [(2, .var 1 0), (5, .var 2 0)],
      [some ⟨.ints .u8 zs, g, ow, 5⟩, some ⟨.ints .i64 [64, 80, 1, 8, 7, 19, 61, 6, 28, 34, 39, 14, 18, 41], 0, true, 50⟩, some ⟨.agg [.int .i64 64, .int .i64 80, .int .i64 1, .int .i64 8, .int .i64 7, .int .i64 19, .int .i64 61, .int .i64 6, .int .i64 28, .int .i64 34, .int .i64 39, .int .i64 14, .int .i64 18, .int .i64 41, .int .u64 (stAt64Law xs [x0, x1, x2, x3, x4, x5, x6, x7] (xs.length / 128) 0), .int .u64 (stAt64Law xs [x0, x1, x2, x3, x4, x5, x6, x7] (xs.length / 128) 1), .int .u64 (stAt64Law xs [x0, x1, x2, x3, x4, x5, x6, x7] (xs.length / 128) 2), .int .u64 (stAt64Law xs [x0, x1, x2, x3, x4, x5, x6, x7] (xs.length / 128) 3), .int .u64 (stAt64Law xs [x0, x1, x2, x3, x4, x5, x6, x7] (xs.length / 128) 4), .int .u64 (stAt64Law xs [x0, x1, x2, x3, x4, x5, x6, x7] (xs.length / 128) 5), .int .u64 (stAt64Law xs [x0, x1, x2, x3, x4, x5, x6, x7] (xs.length / 128) 6), .int .u64 (stAt64Law xs [x0, x1, x2, x3, x4, x5, x6, x7] (xs.length / 128) 7)], 0, true, 73⟩, some ⟨.ints .u8 [128], 0, true, 5⟩, some ⟨.ints .u8 xs, g4, true, 5⟩], []⟩
  | _, _ => failO
theorem gE37_ok : BlkOk eX64 f37 4 (.loop (roundOf 4 f37)) (blkS 5 [1,2,5,6] gE37) := by
  refine blkS_ok fun vs T h => ?_
  unfold gE37 at h ⊢
  split at h
  · rename_i g4' m b zs g ow x0 x1 x2 x3 x4 x5 x6 x7 xs g4
    obtain ⟨h1, h2, h3, h4, h5, h6, _⟩ := h.h
    simp only [Con.h] at h1 h2 h3 h4 h5 h6
    obtain rfl : b = 128 := by omega
    subst h1 h2
    exact loopE37 (q := xs.length / 128) (by omega) h5 rfl h6
  · exact absurd h nofailO
end Go.Abs
