/- What functions of the given program come to, by the abstract machine: one text of a proof. -/
import Derived.Test.YtlnflmjgnmljeaaBC1
set_option linter.unusedVariables false
set_option linter.unusedSimpArgs false
set_option maxRecDepth 8000
namespace Go.Abs
open Go.Proofs.Try
/-! ### columns -/
def accLaw (m s : List Int) (i : Nat) : Nat → Int
  | 0 => 0
  | k + 1 => ixor (accLaw m s i k) (timesLaw (m.getD ((k + 4 - i % 4) % 4) 0) (s.getD (i / 4 * 4 + k) 0))
def stLaw (m s : List Int) (i k : Nat) : List Int := l16 fun j => if j < i then accLaw m s j 4 else if j = i then accLaw m s i k else 0
theorem l16_set (f : Nat → Int) (v : Int) : ∀ i, i < 16 → (l16 f).set i v = l16 fun j => if j = i then v else f j := by
  intro i hi
  match i, hi with
  | 0, _ => rfl | 1, _ => rfl | 2, _ => rfl | 3, _ => rfl | 4, _ => rfl | 5, _ => rfl | 6, _ => rfl | 7, _ => rfl
  | 8, _ => rfl | 9, _ => rfl | 10, _ => rfl | 11, _ => rfl | 12, _ => rfl | 13, _ => rfl | 14, _ => rfl | 15, _ => rfl
  | n + 16, h => exact absurd h (by omega)
theorem stLaw_len (m s : List Int) (i k : Nat) : (stLaw m s i k).length = 16 := rfl
theorem stLaw_get {m s : List Int} {i k : Nat} (hi : i < 16) : (stLaw m s i k).getD i 0 = accLaw m s i k := by
  unfold stLaw; rw [l16_get _ _ hi, if_neg (by omega), if_pos rfl]
theorem stLaw_step {m s : List Int} {i k : Nat} (hi : i < 16) : (stLaw m s i k).set i (ixor ((stLaw m s i k).getD i 0) (timesLaw (m.getD ((k + 4 - i % 4) % 4) 0) (s.getD (i / 4 * 4 + k) 0))) = stLaw m s i (k + 1) := by
  rw [stLaw_get hi]
  show (stLaw m s i k).set i (accLaw m s i (k + 1)) = _
  unfold stLaw
  rw [l16_set _ _ _ hi]
  refine l16_congr fun j hj => ?_
  by_cases e : j = i
  · subst e; rw [if_pos rfl, if_neg (by omega), if_pos rfl]
  · rw [if_neg e, if_neg e, if_neg e]
theorem stLaw_next (m s : List Int) (i : Nat) : stLaw m s (i + 1) 0 = stLaw m s i 4 := by
  unfold stLaw
  refine l16_congr fun j hj => ?_
  by_cases e : j < i
  · rw [if_pos e, if_pos (by omega)]
  · by_cases e2 : j = i
    · subst e2; rw [if_pos (by omega), if_neg e, if_pos rfl]
    · rw [if_neg (by omega), if_neg e, if_neg e2]; split <;> rfl
theorem stLaw_zero (m s : List Int) : stLaw m s 0 0 = List.replicate 16 0 := by
  show _ = l16 fun _ => 0
  unfold stLaw
  exact l16_congr fun j hj => by rw [if_neg (by omega)]; split <;> rfl
theorem stLaw_end (m s : List Int) : stLaw m s 15 4 = mixByLaw timesLaw m s := by
  rw [← stLaw_next]
  unfold stLaw mixByLaw
  exact l16_congr fun j hj => by rw [if_pos hj]; rfl
def mOk (m : List Int) : Prop := ∀ j, j < 4 → mulOkLaw (m.getD j 0) = true ∧ 0 ≤ m.getD j 0 ∧ m.getD j 0 < 256
theorem mOk_a : mOk [2, 3, 1, 1] := by
  intro j hj
  match j, hj with
  | 0, _ => exact ⟨by decide, by decide, by decide⟩ | 1, _ => exact ⟨by decide, by decide, by decide⟩ | 2, _ => exact ⟨by decide, by decide, by decide⟩ | 3, _ => exact ⟨by decide, by decide, by decide⟩
theorem mOk_b : mOk [14, 11, 13, 9] := by
  intro j hj
  match j, hj with
  | 0, _ => exact ⟨by decide, by decide, by decide⟩ | 1, _ => exact ⟨by decide, by decide, by decide⟩ | 2, _ => exact ⟨by decide, by decide, by decide⟩ | 3, _ => exact ⟨by decide, by decide, by decide⟩
theorem accLaw_rng {m s : List Int} (hm : mOk m) (i : Nat) : ∀ k, 0 ≤ accLaw m s i k ∧ accLaw m s i k < 256
  | 0 => by simp [accLaw]
  | k + 1 => ixor_lt8 (accLaw_rng hm i k) (timesLaw_lt (hm _ (Nat.mod_lt _ (by decide))).2)
theorem stLaw_bytes {m s : List Int} (hm : mOk m) (i k : Nat) : Bytes (stLaw m s i k) := l16_bytes fun j _ => by
  split
  · exact accLaw_rng hm _ _
  · split
    · exact accLaw_rng hm _ _
    · decide
theorem rem_idx {i k : Nat} (hk : k < 4) : ((k : Int) - (i : Int).tmod 4 + 4).tmod 4 = (((k + 4 - i % 4) % 4 : Nat) : Int) := by
  have e : (i : Int).tmod 4 = ((i % 4 : Nat) : Int) := by rw [Int.tmod_eq_emod_of_nonneg (by omega)]; omega
  rw [e, Int.tmod_eq_emod_of_nonneg (by omega)]
  omega
theorem rem_idx' {r k : Nat} (hk : k < 4) (hr : r < 4) : ((k : Int) - r + 4).tmod 4 = (((k + 4 - r) % 4 : Nat) : Int) := by
  rw [Int.tmod_eq_emod_of_nonneg (by omega)]
  omega
theorem andn_idx : ∀ i : Nat, i < 16 → iandNot .i64 (i : Int) 3 = ((i / 4 * 4 : Nat) : Int) := by
  intro i hi
  match i, hi with
  | 0, _ => rfl | 1, _ => rfl | 2, _ => rfl | 3, _ => rfl | 4, _ => rfl | 5, _ => rfl | 6, _ => rfl | 7, _ => rfl
  | 8, _ => rfl | 9, _ => rfl | 10, _ => rfl | 11, _ => rfl | 12, _ => rfl | 13, _ => rfl | 14, _ => rfl | 15, _ => rfl
  | n + 16, h => exact absurd h (by omega)
noncomputable def eM1 : Env := eA [(78, S78)]
theorem eM1_ok : EnvOk eM1 := envOf_ok tysA_ok (SumsOk.cons (fn := f78) S78_ok (by kernel_rfl) (by kernel_rfl) (by kernel_rfl) trivial)
noncomputable def C69 (i j k : Int) (s m z xs : List Int) : Out := trim 4 4 [2,3,4,5,6,8,11] (run eM1 37 ⟨4, []⟩ 400 (roundOf 2 f69) [(2, .var 0 0), (3, .var 1 0), (4, .var 2 0), (5, .var 3 0), (6, .int .i64 i), (8, .int .i64 j), (11, .int .i64 k)] [some ⟨.ints .u8 s, 0, true, 48⟩, some ⟨.ints .u8 m, 0, true, 74⟩, some ⟨.ints .u8 z, 0, true, 48⟩, some ⟨.ints .u8 xs, 0, true, 48⟩] [some true])
theorem C69_ok {i j k : Int} {s m z xs : List Int} (h : allP [Con.p (decide (k < 4) = true), Con.leI 0 i, Con.leI (i + 1) 16, Con.leI 0 i, Con.leI (i + 1) 16,
    Con.leN (i.toNat + 1) xs.length, Con.leN (i.toNat + 1) xs.length, Con.nn IntKind.i64 i,
    Con.rng (-9223372036854775808) (iandNot IntKind.i64 i 3 + k) 9223372036854775807,
    Con.leI 0 (iandNot IntKind.i64 i 3 + k), Con.leI (iandNot IntKind.i64 i 3 + k + 1) 16,
    Con.leN ((iandNot IntKind.i64 i 3 + k).toNat + 1) s.length,
    Con.rng (-9223372036854775808) (k - i.tmod 4) 9223372036854775807,
    Con.rng (-9223372036854775808) (k - i.tmod 4 + 4) 9223372036854775807, Con.leI 0 ((k - i.tmod 4 + 4).tmod 4),
    Con.leI ((k - i.tmod 4 + 4).tmod 4 + 1) 4, Con.leN (((k - i.tmod 4 + 4).tmod 4).toNat + 1) m.length,
    Con.rng 0 (s.getD (iandNot IntKind.i64 i 3 + k).toNat 0) 255,
    Con.tt (mulOkLaw (m.getD ((k - i.tmod 4 + 4).tmod 4).toNat 0)), Con.nn IntKind.u8 (xs.getD i.toNat 0),
    Con.nn IntKind.u8
      (timesLaw (m.getD ((k - i.tmod 4 + 4).tmod 4).toNat 0) (s.getD (iandNot IntKind.i64 i 3 + k).toNat 0)),
    Con.leI 0 i, Con.leI (i + 1) 16, Con.leN (i.toNat + 1) xs.length,
    Con.rng (-9223372036854775808) (k + 1) 9223372036854775807]) : Ok (C69 i j k s m z xs) := Ok.dem (fl := [false, false, false, false, false, true, false, false, true, false, true, false, true, false, false, false, true,
    false, false, false, true, true, false, true, false, false, true, false, false, true, true, false, false, false,
    false, false, false, false, false, true, true, true, false, true, false, false]) (by kernel_rfl) (by kernel_rfl) (by kernel_rfl) h
theorem C69_ex {i j k : Int} {s m z xs : List Int} : (C69 i j k s m z xs).ex = AExit.normal := by kernel_rfl
theorem C69_fm {i j k : Int} {s m z xs : List Int} : (C69 i j k s m z xs).fm = [(2, AVal.var 0 0), (3, AVal.var 1 0), (4, AVal.var 2 0), (5, AVal.var 3 0), (6, AVal.int IntKind.i64 i),
    (8, AVal.int IntKind.i64 j), (11, AVal.int IntKind.i64 (k + 1))] := by kernel_rfl
theorem C69_tab {i j k : Int} {s m z xs : List Int} : (C69 i j k s m z xs).tab = [some { data := AVal.ints IntKind.u8 s, g := 0, own := true, et := 48 },
    some { data := AVal.ints IntKind.u8 m, g := 0, own := true, et := 74 },
    some { data := AVal.ints IntKind.u8 z, g := 0, own := true, et := 48 },
    some
      {
        data :=
          AVal.ints IntKind.u8
            (xs.set i.toNat
              (ixor (xs.getD i.toNat 0)
                (timesLaw (m.getD ((k - i.tmod 4 + 4).tmod 4).toNat 0)
                  (s.getD (iandNot IntKind.i64 i 3 + k).toNat 0)))),
        g := 0, own := true, et := 48 }] := by kernel_rfl
noncomputable def D69 (i j k : Int) (s m z xs : List Int) : Out := trim 4 4 [2,3,4,5,6,8] (run eM1 37 ⟨4, []⟩ 400 (roundOf 2 f69) [(2, .var 0 0), (3, .var 1 0), (4, .var 2 0), (5, .var 3 0), (6, .int .i64 i), (8, .int .i64 j), (11, .int .i64 k)] [some ⟨.ints .u8 s, 0, true, 48⟩, some ⟨.ints .u8 m, 0, true, 74⟩, some ⟨.ints .u8 z, 0, true, 48⟩, some ⟨.ints .u8 xs, 0, true, 48⟩] [some false])
theorem D69_ok {i j k : Int} {s m z xs : List Int} (h : allP [Con.p (decide (k < 4) = false)]) : Ok (D69 i j k s m z xs) := Ok.dem (fl := [false]) (by kernel_rfl) (by kernel_rfl) (by kernel_rfl) h
theorem D69_ex {i j k : Int} {s m z xs : List Int} : (D69 i j k s m z xs).ex = AExit.exit 2 := by kernel_rfl
theorem D69_fm {i j k : Int} {s m z xs : List Int} : (D69 i j k s m z xs).fm = [(2, AVal.var 0 0), (3, AVal.var 1 0), (4, AVal.var 2 0), (5, AVal.var 3 0), (6, AVal.int IntKind.i64 i),
    (8, AVal.int IntKind.i64 j)] := by kernel_rfl
theorem D69_tab {i j k : Int} {s m z xs : List Int} : (D69 i j k s m z xs).tab = [some { data := AVal.ints IntKind.u8 s, g := 0, own := true, et := 48 },
    some { data := AVal.ints IntKind.u8 m, g := 0, own := true, et := 74 },
    some { data := AVal.ints IntKind.u8 z, g := 0, own := true, et := 48 },
    some { data := AVal.ints IntKind.u8 xs, g := 0, own := true, et := 48 }] := by kernel_rfl
def F69 (i : Nat) (j : Int) (k : Nat) : Fm := [(2, .var 0 0), (3, .var 1 0), (4, .var 2 0), (5, .var 3 0), (6, .int .i64 i), (8, .int .i64 j), (11, .int .i64 k)]
def T69 (s m z : List Int) (i k : Nat) : Tab := [some ⟨.ints .u8 s, 0, true, 48⟩, some ⟨.ints .u8 m, 0, true, 74⟩, some ⟨.ints .u8 z, 0, true, 48⟩, some ⟨.ints .u8 (stLaw m s i k), 0, true, 48⟩]
theorem loop69 {s m z : List Int} (hs : s.length = 16) (hb : Bytes s) (hml : m.length = 4) (hm : mOk m) {i : Nat} (hi : i < 16) {j : Int} :
    To eM1 37 4 (.block 2 (.loop (roundOf 2 f69))) (F69 i j 0) (T69 s m z i 0) .normal [(2, .var 0 0), (3, .var 1 0), (4, .var 2 0), (5, .var 3 0), (6, .int .i64 i), (8, .int .i64 j)] (T69 s m z i 4) := by
  refine To.rounds (F69 i j) (T69 s m z i) 4 (fun k hk => ?_) ?_
  · have hl := stLaw_len m s i k
    have hx := (stLaw_bytes (s := s) hm i k).get i
    have q1 := hm ((k + 4 - i % 4) % 4) (Nat.mod_lt _ (by decide))
    have q2 := timesLaw_lt (b := s.getD (i / 4 * 4 + k) 0) q1.2
    have q3 := hb.get (i / 4 * 4 + k)
    have e2 : (((i / 4 * 4 : Nat) : Int) + k).toNat = i / 4 * 4 + k := by omega
    have e3 : (k + 4 - i % 4) % 4 < 4 := Nat.mod_lt _ (by decide)
    refine To.of (o := C69 i j k s m z (stLaw m s i k)) eM1_ok hmA (Nat.le_refl 4) OrcOk.nil rfl (C69_ok ?_) C69_ex ?_ ?_
    · rw [andn_idx i hi, rem_idx hk, e2, Int.toNat_natCast, Int.toNat_natCast]
      simp only [allP, Con.h, hl, hs, hml, nn8, decide_eq_true_eq, and_true]
      generalize (k + 4 - i % 4) % 4 = jj at *
      have n1 : nonneg .i64 (i : Int) := ⟨by omega, by omega⟩
      have e5 : (i : Int).tmod 4 = ((i % 4 : Nat) : Int) := by rw [Int.tmod_eq_emod_of_nonneg (by omega)]; omega
      rw [e5]
      repeat' with_reducible apply And.intro
      all_goals first | omega | exact q1.1 | exact n1 | skip
    · rw [C69_fm]; rfl
    · rw [C69_tab, andn_idx i hi, rem_idx hk, e2, Int.toNat_natCast, Int.toNat_natCast, stLaw_step hi]; rfl
  · exact To.of (o := D69 i j (4 : Nat) s m z (stLaw m s i 4)) eM1_ok hmA (Nat.le_refl 4) OrcOk.nil rfl (D69_ok (by simp [allP, Con.h])) D69_ex D69_fm D69_tab
def g69 : List AVal → Tab → Out := fun vs T => match vs, T with
  | [.var 0 0, .var 1 0, .var 2 0, .var 3 0, .int .i64 i, .int .i64 j, .int .i64 k], [some ⟨.ints .u8 s, 0, true, 48⟩, some ⟨.ints .u8 m, 0, true, 74⟩, some ⟨.ints .u8 z, 0, true, 48⟩, some ⟨.ints .u8 xs, 0, true, 48⟩] =>
    ⟨[.rng 0 k 0, .rng 0 i 15, .eqN s.length 16, .eqN m.length 4, .p (Bytes s), .p (mOk m), .p (xs = stLaw m s i.toNat 0)], .normal, [(2, .var 0 0), (3, .var 1 0), (4, .var 2 0), (5, .var 3 0), (6, .int .i64 i), (8, .int .i64 j)],
      [some ⟨.ints .u8 s, 0, true, 48⟩, some ⟨.ints .u8 m, 0, true, 74⟩, some ⟨.ints .u8 z, 0, true, 48⟩, some ⟨.ints .u8 (stLaw m s i.toNat 4), 0, true, 48⟩], []⟩
  | _, _ => failO
theorem g69_ok : BlkOk eM1 f69 2 (.loop (roundOf 2 f69)) (blkS 4 [2,3,4,5,6,8,11] g69) := by
  refine blkS_ok fun vs T h => ?_
  unfold g69 at h ⊢
  split at h
  · rename_i i j k s m z xs
    obtain ⟨h1, h2, h3, h4, h5, h6, h7, _⟩ := h.h
    simp only [Con.h] at h1 h2 h3 h4 h5 h6 h7
    obtain rfl : k = 0 := by omega
    obtain ⟨n, rfl⟩ : ∃ n : Nat, i = n := ⟨i.toNat, by omega⟩
    rw [Int.toNat_natCast] at h7
    subst h7
    exact loop69 h3 h5 h4 h6 (by omega)
  · exact absurd h nofailO
noncomputable def orc69 : OrcL := [(2, blkS 4 [2,3,4,5,6,8,11] g69)]
theorem orc69_ok : FnOrc eM1 f69 orc69 := FnOrc.cons g69_ok (by kernel_rfl) FnOrc.nil
noncomputable def R69 (s m : List Int) : Res := runF eM1 f69 orc69 2000 [.ints .u8 s, .ints .u8 m] [] []
theorem R69_ok {s m : List Int} (h : allP [Con.eqN s.length 16, Con.eqN m.length 4, Con.p (Bytes s), Con.p (mOk m),
    Con.p ([0, 0, 0, 0, 0, 0, 0, 0, 0, 0, 0, 0, 0, 0, 0, 0] = stLaw m s 0 0), Con.eqN s.length 16, Con.eqN m.length 4,
    Con.p (Bytes s), Con.p (mOk m), Con.p (stLaw m s 0 4 = stLaw m s 1 0), Con.eqN s.length 16, Con.eqN m.length 4,
    Con.p (Bytes s), Con.p (mOk m), Con.p (stLaw m s 1 4 = stLaw m s 2 0), Con.eqN s.length 16, Con.eqN m.length 4,
    Con.p (Bytes s), Con.p (mOk m), Con.p (stLaw m s 2 4 = stLaw m s 3 0), Con.eqN s.length 16, Con.eqN m.length 4,
    Con.p (Bytes s), Con.p (mOk m), Con.p (stLaw m s 3 4 = stLaw m s 4 0), Con.eqN s.length 16, Con.eqN m.length 4,
    Con.p (Bytes s), Con.p (mOk m), Con.p (stLaw m s 4 4 = stLaw m s 5 0), Con.eqN s.length 16, Con.eqN m.length 4,
    Con.p (Bytes s), Con.p (mOk m), Con.p (stLaw m s 5 4 = stLaw m s 6 0), Con.eqN s.length 16, Con.eqN m.length 4,
    Con.p (Bytes s), Con.p (mOk m), Con.p (stLaw m s 6 4 = stLaw m s 7 0), Con.eqN s.length 16, Con.eqN m.length 4,
    Con.p (Bytes s), Con.p (mOk m), Con.p (stLaw m s 7 4 = stLaw m s 8 0), Con.eqN s.length 16, Con.eqN m.length 4,
    Con.p (Bytes s), Con.p (mOk m), Con.p (stLaw m s 8 4 = stLaw m s 9 0), Con.eqN s.length 16, Con.eqN m.length 4,
    Con.p (Bytes s), Con.p (mOk m), Con.p (stLaw m s 9 4 = stLaw m s 10 0), Con.eqN s.length 16, Con.eqN m.length 4,
    Con.p (Bytes s), Con.p (mOk m), Con.p (stLaw m s 10 4 = stLaw m s 11 0), Con.eqN s.length 16, Con.eqN m.length 4,
    Con.p (Bytes s), Con.p (mOk m), Con.p (stLaw m s 11 4 = stLaw m s 12 0), Con.eqN s.length 16, Con.eqN m.length 4,
    Con.p (Bytes s), Con.p (mOk m), Con.p (stLaw m s 12 4 = stLaw m s 13 0), Con.eqN s.length 16, Con.eqN m.length 4,
    Con.p (Bytes s), Con.p (mOk m), Con.p (stLaw m s 13 4 = stLaw m s 14 0), Con.eqN s.length 16, Con.eqN m.length 4,
    Con.p (Bytes s), Con.p (mOk m), Con.p (stLaw m s 14 4 = stLaw m s 15 0)]) : OkR (R69 s m) := OkR.dem (fl := [true, true, false, false, false, false, false, true, true, true, false, false, false, false, false, true, true, true,
    false, false, false, false, false, true, true, true, false, false, false, false, false, true, true, true, false,
    false, false, false, false, true, true, true, false, false, false, false, false, true, true, true, false, false,
    false, false, false, true, true, true, false, false, false, false, false, true, true, true, false, false, false,
    false, false, true, true, true, false, false, false, false, false, true, true, true, false, false, false, false,
    false, true, true, true, false, false, false, false, false, true, true, true, false, false, false, false, false,
    true, true, true, false, false, false, false, false, true, true, true, false, false, false, false, false, true,
    true, true, false, false, false, false, false, true, true, true, true, true, true, true, true, true]) (by kernel_rfl) (by kernel_rfl) (by kernel_rfl) h
theorem R69_val {s m : List Int} : (R69 s m).val = AVal.ints IntKind.u8 (stLaw m s 15 4) := by kernel_rfl
theorem R69_tab {s m : List Int} : (R69 s m).tab = [some { data := AVal.ints IntKind.u8 s, g := 0, own := true, et := 48 },
    some { data := AVal.ints IntKind.u8 m, g := 0, own := true, et := 74 },
    some { data := AVal.ints IntKind.u8 (stLaw m s 15 4), g := 0, own := true, et := 48 },
    some { data := AVal.ints IntKind.u8 (stLaw m s 15 4), g := 0, own := true, et := 48 }] := by kernel_rfl
/-! of the document -/
noncomputable def eM2 : Env := eA [(67, S67)]
theorem eM2_ok : EnvOk eM2 := envOf_ok tysA_ok (SumsOk.cons (fn := f67) S67_ok (by kernel_rfl) (by kernel_rfl) (by kernel_rfl) trivial)
noncomputable def C50 (c r k : Int) (s m xs : List Int) (g0 g1 : Nat) (cp0 cp1 : Option Nat) (ow0 ow1 : Bool) : Out := trim 3 3 [0,1,5,6,7,8] (run eM2 53 ⟨3, []⟩ 400 (roundOf 4 f50) [(0, .slice 1 0 g0 0 16 cp0), (1, .slice 1 1 g1 0 4 cp1), (5, .slice 1 2 0 0 16 (some 16)), (6, .int .i64 c), (7, .int .i64 r), (8, .int .i64 k)] [some ⟨.ints .u8 s, g0, ow0, 5⟩, some ⟨.ints .u8 m, g1, ow1, 5⟩, some ⟨.ints .u8 xs, 0, true, 5⟩] [some true])
theorem C50_ok {c r k : Int} {s m xs : List Int} {g0 g1 : Nat} {cp0 cp1 : Option Nat} {ow0 ow1 : Bool} (h : allP [Con.p (decide (k < 4) = true), Con.rng (-9223372036854775808) (4 * c) 9223372036854775807,
    Con.rng (-9223372036854775808) (4 * c) 9223372036854775807,
    Con.rng (-9223372036854775808) (4 * c + r) 9223372036854775807,
    Con.rng (-9223372036854775808) (4 * c + r) 9223372036854775807,
    Con.rng (-9223372036854775808) (4 * c) 9223372036854775807,
    Con.rng (-9223372036854775808) (4 * c) 9223372036854775807,
    Con.rng (-9223372036854775808) (4 * c + r) 9223372036854775807,
    Con.rng (-9223372036854775808) (4 * c + r) 9223372036854775807, Con.leI 0 (4 * c + r), Con.leI (4 * c + r + 1) 16,
    Con.leI 0 (4 * c + r), Con.leI (4 * c + r + 1) 16, Con.leN ((4 * c + r).toNat + 1) xs.length,
    Con.leN ((4 * c + r).toNat + 1) xs.length, Con.rng (-9223372036854775808) (k - r) 9223372036854775807,
    Con.rng (-9223372036854775808) (k - r + 4) 9223372036854775807, Con.eqN g1 g1, Con.leI 0 ((k - r + 4).tmod 4),
    Con.leI ((k - r + 4).tmod 4 + 1) 4, Con.eqN g1 g1, Con.leN (((k - r + 4).tmod 4).toNat + 1) m.length,
    Con.rng (-9223372036854775808) (4 * c) 9223372036854775807,
    Con.rng (-9223372036854775808) (4 * c + k) 9223372036854775807, Con.eqN g0 g0, Con.leI 0 (4 * c + k),
    Con.leI (4 * c + k + 1) 16, Con.eqN g0 g0, Con.leN ((4 * c + k).toNat + 1) s.length,
    Con.rng 0 (m.getD ((k - r + 4).tmod 4).toNat 0) 255, Con.rng 0 (s.getD (4 * c + k).toNat 0) 255,
    Con.nn IntKind.u8 (xs.getD (4 * c + r).toNat 0),
    Con.nn IntKind.u8 (timesLaw (m.getD ((k - r + 4).tmod 4).toNat 0) (s.getD (4 * c + k).toNat 0)),
    Con.leI 0 (4 * c + r), Con.leI (4 * c + r + 1) 16, Con.leN ((4 * c + r).toNat + 1) xs.length,
    Con.rng (-9223372036854775808) (k + 1) 9223372036854775807]) : Ok (C50 c r k s m xs g0 g1 cp0 cp1 ow0 ow1) := Ok.dem (fl := [false, false, false, false, false, false, false, false, false, false, false, false, false, false, false, false, false,
    false, false, false, true, false, false, true, false, false, false, true, false, true, false, false, false, false,
    true, false, false, false, false, false, false, false, false, false, false, false, false, false, false, false,
    false, false, true, false, false, true, true, false, true, false, false]) (by kernel_rfl) (by kernel_rfl) (by kernel_rfl) h
theorem C50_ex {c r k : Int} {s m xs : List Int} {g0 g1 : Nat} {cp0 cp1 : Option Nat} {ow0 ow1 : Bool} : (C50 c r k s m xs g0 g1 cp0 cp1 ow0 ow1).ex = AExit.normal := by kernel_rfl
theorem C50_fm {c r k : Int} {s m xs : List Int} {g0 g1 : Nat} {cp0 cp1 : Option Nat} {ow0 ow1 : Bool} : (C50 c r k s m xs g0 g1 cp0 cp1 ow0 ow1).fm = [(0, AVal.slice 1 0 g0 0 16 cp0), (1, AVal.slice 1 1 g1 0 4 cp1), (5, AVal.slice 1 2 0 0 16 (some 16)),
    (6, AVal.int IntKind.i64 c), (7, AVal.int IntKind.i64 r), (8, AVal.int IntKind.i64 (k + 1))] := by kernel_rfl
theorem C50_tab {c r k : Int} {s m xs : List Int} {g0 g1 : Nat} {cp0 cp1 : Option Nat} {ow0 ow1 : Bool} : (C50 c r k s m xs g0 g1 cp0 cp1 ow0 ow1).tab = [some { data := AVal.ints IntKind.u8 s, g := g0, own := ow0, et := 5 },
    some { data := AVal.ints IntKind.u8 m, g := g1, own := ow1, et := 5 },
    some
      {
        data :=
          AVal.ints IntKind.u8
            (xs.set (4 * c + r).toNat
              (ixor (xs.getD (4 * c + r).toNat 0)
                (timesLaw (m.getD ((k - r + 4).tmod 4).toNat 0) (s.getD (4 * c + k).toNat 0)))),
        g := 0, own := true, et := 5 }] := by kernel_rfl
noncomputable def D50 (c r k : Int) (s m xs : List Int) (g0 g1 : Nat) (cp0 cp1 : Option Nat) (ow0 ow1 : Bool) : Out := trim 3 3 [0,1,5,6,7] (run eM2 53 ⟨3, []⟩ 400 (roundOf 4 f50) [(0, .slice 1 0 g0 0 16 cp0), (1, .slice 1 1 g1 0 4 cp1), (5, .slice 1 2 0 0 16 (some 16)), (6, .int .i64 c), (7, .int .i64 r), (8, .int .i64 k)] [some ⟨.ints .u8 s, g0, ow0, 5⟩, some ⟨.ints .u8 m, g1, ow1, 5⟩, some ⟨.ints .u8 xs, 0, true, 5⟩] [some false])
theorem D50_ok {c r k : Int} {s m xs : List Int} {g0 g1 : Nat} {cp0 cp1 : Option Nat} {ow0 ow1 : Bool} (h : allP [Con.p (decide (k < 4) = false)]) : Ok (D50 c r k s m xs g0 g1 cp0 cp1 ow0 ow1) := Ok.dem (fl := [false]) (by kernel_rfl) (by kernel_rfl) (by kernel_rfl) h
theorem D50_ex {c r k : Int} {s m xs : List Int} {g0 g1 : Nat} {cp0 cp1 : Option Nat} {ow0 ow1 : Bool} : (D50 c r k s m xs g0 g1 cp0 cp1 ow0 ow1).ex = AExit.exit 4 := by kernel_rfl
theorem D50_fm {c r k : Int} {s m xs : List Int} {g0 g1 : Nat} {cp0 cp1 : Option Nat} {ow0 ow1 : Bool} : (D50 c r k s m xs g0 g1 cp0 cp1 ow0 ow1).fm = [(0, AVal.slice 1 0 g0 0 16 cp0), (1, AVal.slice 1 1 g1 0 4 cp1), (5, AVal.slice 1 2 0 0 16 (some 16)),
    (6, AVal.int IntKind.i64 c), (7, AVal.int IntKind.i64 r)] := by kernel_rfl
theorem D50_tab {c r k : Int} {s m xs : List Int} {g0 g1 : Nat} {cp0 cp1 : Option Nat} {ow0 ow1 : Bool} : (D50 c r k s m xs g0 g1 cp0 cp1 ow0 ow1).tab = [some { data := AVal.ints IntKind.u8 s, g := g0, own := ow0, et := 5 },
    some { data := AVal.ints IntKind.u8 m, g := g1, own := ow1, et := 5 },
    some { data := AVal.ints IntKind.u8 xs, g := 0, own := true, et := 5 }] := by kernel_rfl
def F50 (c r : Nat) (g0 g1 : Nat) (cp0 cp1 : Option Nat) (k : Nat) : Fm := [(0, .slice 1 0 g0 0 16 cp0), (1, .slice 1 1 g1 0 4 cp1), (5, .slice 1 2 0 0 16 (some 16)), (6, .int .i64 c), (7, .int .i64 r), (8, .int .i64 k)]
def T50 (s m : List Int) (g0 g1 : Nat) (ow0 ow1 : Bool) (i k : Nat) : Tab := [some ⟨.ints .u8 s, g0, ow0, 5⟩, some ⟨.ints .u8 m, g1, ow1, 5⟩, some ⟨.ints .u8 (stLaw m s i k), 0, true, 5⟩]
theorem loop50 {s m : List Int} (hs : s.length = 16) (hb : Bytes s) (hml : m.length = 4) (hm : mOk m) {c r : Nat} (hc : c < 4) (hr : r < 4) {g0 g1 : Nat} {cp0 cp1 : Option Nat} {ow0 ow1 : Bool} :
    To eM2 53 3 (.block 4 (.loop (roundOf 4 f50))) (F50 c r g0 g1 cp0 cp1 0) (T50 s m g0 g1 ow0 ow1 (4 * c + r) 0) .normal [(0, .slice 1 0 g0 0 16 cp0), (1, .slice 1 1 g1 0 4 cp1), (5, .slice 1 2 0 0 16 (some 16)), (6, .int .i64 c), (7, .int .i64 r)] (T50 s m g0 g1 ow0 ow1 (4 * c + r) 4) := by
  refine To.rounds (F50 c r g0 g1 cp0 cp1) (T50 s m g0 g1 ow0 ow1 (4 * c + r)) 4 (fun k hk => ?_) ?_
  · have hl := stLaw_len m s (4 * c + r) k
    have hx := (stLaw_bytes (s := s) hm (4 * c + r) k).get (4 * c + r)
    have q1 := hm ((k + 4 - r) % 4) (Nat.mod_lt _ (by decide))
    have q2 := timesLaw_lt (b := s.getD (4 * c + k) 0) q1.2
    have q3 := hb.get (4 * c + k)
    have e1 : (4 * (c : Int) + r).toNat = 4 * c + r := by omega
    have e2 : (4 * (c : Int) + k).toNat = 4 * c + k := by omega
    have e3 : (k + 4 - r) % 4 < 4 := Nat.mod_lt _ (by decide)
    have e4 := stLaw_step (m := m) (s := s) (i := 4 * c + r) (k := k) (by omega)
    rw [show (4 * c + r) % 4 = r by omega, show (4 * c + r) / 4 * 4 = 4 * c by omega] at e4
    refine To.of (o := C50 c r k s m (stLaw m s (4 * c + r) k) g0 g1 cp0 cp1 ow0 ow1) eM2_ok hmA (Nat.le_refl 3) OrcOk.nil rfl (C50_ok ?_) C50_ex ?_ ?_
    · rw [rem_idx' hk hr, e1, e2, Int.toNat_natCast]
      simp only [allP, Con.h, hl, hs, hml, nn8, decide_eq_true_eq, eq_self, true_and, and_true]
      generalize (k + 4 - r) % 4 = jj at *
      repeat' with_reducible apply And.intro
      all_goals first | omega | exact q1.1 | skip
    · rw [C50_fm]; rfl
    · rw [C50_tab, rem_idx' hk hr, e1, e2, Int.toNat_natCast, e4]; rfl
  · exact To.of (o := D50 c r (4 : Nat) s m (stLaw m s (4 * c + r) 4) g0 g1 cp0 cp1 ow0 ow1) eM2_ok hmA (Nat.le_refl 3) OrcOk.nil rfl (D50_ok (by simp [allP, Con.h])) D50_ex D50_fm D50_tab
def g50 : List AVal → Tab → Out := fun vs T => match vs, T with
  | [.slice 1 0 g0 0 16 cp0, .slice 1 1 g1 0 4 cp1, .slice 1 2 0 0 16 (some 16), .int .i64 c, .int .i64 r, .int .i64 k], [some ⟨.ints .u8 s, g0', ow0, 5⟩, some ⟨.ints .u8 m, g1', ow1, 5⟩, some ⟨.ints .u8 xs, 0, true, 5⟩] =>
    ⟨[.eqN g0 g0', .eqN g1 g1', .rng 0 k 0, .rng 0 c 3, .rng 0 r 3, .eqN s.length 16, .eqN m.length 4, .p (Bytes s), .p (mOk m), .p (xs = stLaw m s (4 * c + r).toNat 0)], .normal, [(0, .slice 1 0 g0 0 16 cp0), (1, .slice 1 1 g1 0 4 cp1), (5, .slice 1 2 0 0 16 (some 16)), (6, .int .i64 c), (7, .int .i64 r)],
      [some ⟨.ints .u8 s, g0', ow0, 5⟩, some ⟨.ints .u8 m, g1', ow1, 5⟩, some ⟨.ints .u8 (stLaw m s (4 * c + r).toNat 4), 0, true, 5⟩], []⟩
  | _, _ => failO
theorem g50_ok : BlkOk eM2 f50 4 (.loop (roundOf 4 f50)) (blkS 3 [0,1,5,6,7,8] g50) := by
  refine blkS_ok fun vs T h => ?_
  unfold g50 at h ⊢
  split at h
  · rename_i g0 cp0 g1 cp1 c r k s g0' ow0 m g1' ow1 xs
    obtain ⟨h1, h2, h3, h4, h5, h6, h7, h8, h9, h10, _⟩ := h.h
    simp only [Con.h] at h1 h2 h3 h4 h5 h6 h7 h8 h9 h10
    subst h1 h2
    obtain rfl : k = 0 := by omega
    obtain ⟨a, rfl⟩ : ∃ n : Nat, c = n := ⟨c.toNat, by omega⟩
    obtain ⟨b, rfl⟩ : ∃ n : Nat, r = n := ⟨r.toNat, by omega⟩
    rw [show (4 * (a : Int) + b).toNat = 4 * a + b by omega] at h10 ⊢
    subst h10
    exact loop50 h6 h8 h7 h9 (by omega) (by omega)
  · exact absurd h nofailO
noncomputable def orc50 : OrcL := [(4, blkS 3 [0,1,5,6,7,8] g50)]
theorem orc50_ok : FnOrc eM2 f50 orc50 := FnOrc.cons g50_ok (by kernel_rfl) FnOrc.nil
noncomputable def R50 (s m : List Int) (g0 g1 : Nat) (cp0 cp1 : Option Nat) (ow0 ow1 : Bool) : Res := runF eM2 f50 orc50 2000 [.slice 1 0 g0 0 16 cp0, .slice 1 1 g1 0 4 cp1] [some ⟨.ints .u8 s, g0, ow0, 5⟩, some ⟨.ints .u8 m, g1, ow1, 5⟩] []
theorem R50_ok {s m : List Int} {g0 g1 : Nat} {cp0 cp1 : Option Nat} {ow0 ow1 : Bool} (h : allP [Con.eqN g0 g0, Con.eqN g1 g1, Con.eqN s.length 16, Con.eqN m.length 4, Con.p (Bytes s), Con.p (mOk m),
    Con.p ([0, 0, 0, 0, 0, 0, 0, 0, 0, 0, 0, 0, 0, 0, 0, 0] = stLaw m s 0 0), Con.eqN g0 g0, Con.eqN g1 g1,
    Con.eqN s.length 16, Con.eqN m.length 4, Con.p (Bytes s), Con.p (mOk m), Con.p (stLaw m s 0 4 = stLaw m s 1 0),
    Con.eqN g0 g0, Con.eqN g1 g1, Con.eqN s.length 16, Con.eqN m.length 4, Con.p (Bytes s), Con.p (mOk m),
    Con.p (stLaw m s 1 4 = stLaw m s 2 0), Con.eqN g0 g0, Con.eqN g1 g1, Con.eqN s.length 16, Con.eqN m.length 4,
    Con.p (Bytes s), Con.p (mOk m), Con.p (stLaw m s 2 4 = stLaw m s 3 0), Con.eqN g0 g0, Con.eqN g1 g1,
    Con.eqN s.length 16, Con.eqN m.length 4, Con.p (Bytes s), Con.p (mOk m), Con.p (stLaw m s 3 4 = stLaw m s 4 0),
    Con.eqN g0 g0, Con.eqN g1 g1, Con.eqN s.length 16, Con.eqN m.length 4, Con.p (Bytes s), Con.p (mOk m),
    Con.p (stLaw m s 4 4 = stLaw m s 5 0), Con.eqN g0 g0, Con.eqN g1 g1, Con.eqN s.length 16, Con.eqN m.length 4,
    Con.p (Bytes s), Con.p (mOk m), Con.p (stLaw m s 5 4 = stLaw m s 6 0), Con.eqN g0 g0, Con.eqN g1 g1,
    Con.eqN s.length 16, Con.eqN m.length 4, Con.p (Bytes s), Con.p (mOk m), Con.p (stLaw m s 6 4 = stLaw m s 7 0),
    Con.eqN g0 g0, Con.eqN g1 g1, Con.eqN s.length 16, Con.eqN m.length 4, Con.p (Bytes s), Con.p (mOk m),
    Con.p (stLaw m s 7 4 = stLaw m s 8 0), Con.eqN g0 g0, Con.eqN g1 g1, Con.eqN s.length 16, Con.eqN m.length 4,
    Con.p (Bytes s), Con.p (mOk m), Con.p (stLaw m s 8 4 = stLaw m s 9 0), Con.eqN g0 g0, Con.eqN g1 g1,
    Con.eqN s.length 16, Con.eqN m.length 4, Con.p (Bytes s), Con.p (mOk m), Con.p (stLaw m s 9 4 = stLaw m s 10 0),
    Con.eqN g0 g0, Con.eqN g1 g1, Con.eqN s.length 16, Con.eqN m.length 4, Con.p (Bytes s), Con.p (mOk m),
    Con.p (stLaw m s 10 4 = stLaw m s 11 0), Con.eqN g0 g0, Con.eqN g1 g1, Con.eqN s.length 16, Con.eqN m.length 4,
    Con.p (Bytes s), Con.p (mOk m), Con.p (stLaw m s 11 4 = stLaw m s 12 0), Con.eqN g0 g0, Con.eqN g1 g1,
    Con.eqN s.length 16, Con.eqN m.length 4, Con.p (Bytes s), Con.p (mOk m), Con.p (stLaw m s 12 4 = stLaw m s 13 0),
    Con.eqN g0 g0, Con.eqN g1 g1, Con.eqN s.length 16, Con.eqN m.length 4, Con.p (Bytes s), Con.p (mOk m),
    Con.p (stLaw m s 13 4 = stLaw m s 14 0), Con.eqN g0 g0, Con.eqN g1 g1, Con.eqN s.length 16, Con.eqN m.length 4,
    Con.p (Bytes s), Con.p (mOk m), Con.p (stLaw m s 14 4 = stLaw m s 15 0)]) : OkR (R50 s m g0 g1 cp0 cp1 ow0 ow1) := OkR.dem (fl := [true, true, true, true, false, false, true, true, true, false, false, false, false, false, true, false, false, true,
    true, true, false, false, false, false, false, true, false, false, true, true, true, false, false, false, false,
    false, true, false, false, true, true, true, false, false, false, false, false, true, true, false, false, true,
    true, true, false, false, false, false, false, true, false, false, true, true, true, false, false, false, false,
    false, true, false, false, true, true, true, false, false, false, false, false, true, false, false, true, true,
    true, false, false, false, false, false, true, true, false, false, true, true, true, false, false, false, false,
    false, true, false, false, true, true, true, false, false, false, false, false, true, false, false, true, true,
    true, false, false, false, false, false, true, false, false, true, true, true, false, false, false, false, false,
    true, true, false, false, true, true, true, false, false, false, false, false, true, false, false, true, true, true,
    false, false, false, false, false, true, false, false, true, true, true, false, false, false, false, false, true,
    false, false, true, true, true, false, false, false, false, false, true, true]) (by kernel_rfl) (by kernel_rfl) (by kernel_rfl) h
theorem R50_val {s m : List Int} {g0 g1 : Nat} {cp0 cp1 : Option Nat} {ow0 ow1 : Bool} : (R50 s m g0 g1 cp0 cp1 ow0 ow1).val = AVal.slice 1 2 0 0 16 (some 16) := by kernel_rfl
theorem R50_tab {s m : List Int} {g0 g1 : Nat} {cp0 cp1 : Option Nat} {ow0 ow1 : Bool} : (R50 s m g0 g1 cp0 cp1 ow0 ow1).tab = [some { data := AVal.ints IntKind.u8 s, g := g0, own := ow0, et := 5 },
    some { data := AVal.ints IntKind.u8 m, g := g1, own := ow1, et := 5 },
    some { data := AVal.ints IntKind.u8 (stLaw m s 15 4), g := 0, own := true, et := 5 }] := by kernel_rfl
end Go.Abs
