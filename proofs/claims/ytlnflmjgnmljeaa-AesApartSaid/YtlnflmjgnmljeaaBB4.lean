/- What functions of the given program come to, by the abstract machine: one text of a proof. -/
import Derived.Test.YtlnflmjgnmljeaaBB3
set_option linter.unusedVariables false
set_option linter.unusedSimpArgs false
set_option maxRecDepth 8000
namespace Go.Abs
open Go.Proofs.Try
/-! ### keys, of the document -/
noncomputable def eJ : Env := eA [(67, S67)]
theorem eJ_ok : EnvOk eJ := envOf_ok tysA_ok (SumsOk.cons (fn := f67) S67_ok (by kernel_rfl) (by kernel_rfl) (by kernel_rfl) trivial)
def w4Law (xs : List Int) (m : Nat) (ts : List Int) : Nat → List Int
  | 0 => xs
  | k + 1 => w4Law xs m ts k ++ [ixor ((w4Law xs m ts k).getD (4 * m - 16 + k) 0) (ts.getD k 0)]
theorem w4Law_len (xs : List Int) (m : Nat) (ts : List Int) : ∀ k, (w4Law xs m ts k).length = xs.length + k
  | 0 => rfl
  | k + 1 => by simp [w4Law, w4Law_len xs m ts k]; omega
theorem w4Law_bytes {xs : List Int} {m : Nat} {ts : List Int} (hx : Bytes xs) (ht : Bytes ts) : ∀ k, Bytes (w4Law xs m ts k)
  | 0 => hx
  | k + 1 => (w4Law_bytes hx ht k).append (.one (ixor_lt8 ((w4Law_bytes hx ht k).get _) (ht.get _)))
theorem ks_get {key : List Int} (hk : key.length = 16) {n p : Nat} (hn : 16 ≤ n) (hp : p < n) : ∀ d, (ksLaw key (n + d)).getD p 0 = (ksLaw key n).getD p 0
  | 0 => rfl
  | d + 1 => by
    rw [← Nat.add_assoc, ksLaw_succ (by omega), List.getD_eq_getElem?_getD, List.getElem?_append_left (by rw [ksLaw_len hk (by omega)]; omega), ← List.getD_eq_getElem?_getD, ks_get hk hn hp d]
def tsLaw (w : List Int) (m : Nat) (c : Int) : List Int := if m % 4 = 0 then [ixor (boxLaw (w.getD (4 * m - 4 + 1) 0)) c, boxLaw (w.getD (4 * m - 4 + 2) 0), boxLaw (w.getD (4 * m - 4 + 3) 0), boxLaw (w.getD (4 * m - 4 + 0) 0)] else [w.getD (4 * m - 4 + 0) 0, w.getD (4 * m - 4 + 1) 0, w.getD (4 * m - 4 + 2) 0, w.getD (4 * m - 4 + 3) 0]
theorem ts_next {key : List Int} (hk : key.length = 16) {m : Nat} (hm : 4 ≤ m) : ∀ k, k ≤ 4 → w4Law (ksLaw key (4 * m)) m (tsLaw (ksLaw key (4 * m)) m (rcLaw ((m - 1) / 4))) k = ksLaw key (4 * m + k)
  | 0, _ => rfl
  | k + 1, h => by
    rw [w4Law, ts_next hk hm k (by omega), ← Nat.add_assoc, ksLaw_succ (by omega), kNextLaw_eq (by omega)]
    have g := fun p hp => ks_get hk (n := 4 * m) (p := p) (by omega) hp k
    rw [show 4 * m + k - 16 = 4 * m - 16 + k by omega]
    refine congrArg (fun y => ksLaw key (4 * m + k) ++ [ixor ((ksLaw key (4 * m + k)).getD (4 * m - 16 + k) 0) y]) ?_
    unfold tsLaw
    by_cases h0 : m % 4 = 0
    · rw [if_pos h0]
      by_cases hk0 : k = 0
      · subst hk0
        rw [if_pos (by omega), g _ (by omega), show 4 * m + 0 - 3 = 4 * m - 4 + 1 by omega, show (4 * m + 0) / 16 - 1 = (m - 1) / 4 by omega]
        rfl
      · rw [if_neg (by omega), if_pos (by omega), g _ (by omega)]
        match k, hk0, h with
        | 1, _, _ => rw [show 16 * ((4 * m + 1) / 16) - 4 + ((4 * m + 1) % 16 + 1) % 4 = 4 * m - 4 + 2 by omega]; rfl
        | 2, _, _ => rw [show 16 * ((4 * m + 2) / 16) - 4 + ((4 * m + 2) % 16 + 1) % 4 = 4 * m - 4 + 3 by omega]; rfl
        | 3, _, _ => rw [show 16 * ((4 * m + 3) / 16) - 4 + ((4 * m + 3) % 16 + 1) % 4 = 4 * m - 4 + 0 by omega]; rfl
    · rw [if_neg h0, if_neg (by omega), if_neg (by omega), g _ (by omega)]
      match k, h with
      | 0, _ => rw [show 4 * m + 0 - 4 = 4 * m - 4 + 0 by omega]; rfl
      | 1, _ => rw [show 4 * m + 1 - 4 = 4 * m - 4 + 1 by omega]; rfl
      | 2, _ => rw [show 4 * m + 2 - 4 = 4 * m - 4 + 2 by omega]; rfl
      | 3, _ => rw [show 4 * m + 3 - 4 = 4 * m - 4 + 3 by omega]; rfl
theorem times_two : ∀ x : Int, 0 ≤ x ∧ x < 256 → timesLaw x 2 = dblLaw x := by
  have : ((List.range 256).all fun x : Nat => timesLaw (x : Int) 2 == dblLaw x) = true := by kernel_rfl
  intro x hx
  obtain ⟨n, rfl⟩ := Int.eq_ofNat_of_zero_le hx.1
  simpa using List.all_eq_true.1 this n (List.mem_range.2 (by omega))

noncomputable def C42a (i k c : Int) (ks bx xs ts : List Int) (g0 g1 g gt n nt : Nat) (ow0 ow1 : Bool) (cp ct : Option Nat) : Out := trim 4 4 [1,5,6,7,8,9] (run eJ 79 ⟨4, []⟩ 400 (roundOf 2 f42) [(1, .slice 1 1 g1 0 256 cp), (5, .slice 1 2 g 0 n none), (6, .int .u8 c), (7, .int .i64 i), (8, .slice 1 3 gt 0 nt ct), (9, .int .i64 k)] [some ⟨.ints .u8 ks, g0, ow0, 5⟩, some ⟨.ints .u8 bx, g1, ow1, 5⟩, some ⟨.ints .u8 xs, g, true, 5⟩, some ⟨.ints .u8 ts, gt, true, 5⟩] [some true])
theorem C42a_ok {i k c : Int} {ks bx xs ts : List Int} {g0 g1 g gt n nt : Nat} {ow0 ow1 : Bool} {cp ct : Option Nat} (h : allP [Con.p (decide (k < 4) = true), Con.rng (-9223372036854775808) (4 * i) 9223372036854775807,
    Con.rng (-9223372036854775808) (4 * i - 16) 9223372036854775807,
    Con.rng (-9223372036854775808) (4 * i - 16 + k) 9223372036854775807, Con.eqN g g, Con.leI 0 (4 * i - 16 + k),
    Con.leI (4 * i - 16 + k + 1) (↑n : Int), Con.eqN g g, Con.leN ((4 * i - 16 + k).toNat + 1) xs.length, Con.eqN gt gt,
    Con.leI 0 k, Con.leI (k + 1) (↑nt : Int), Con.eqN gt gt, Con.leN (k.toNat + 1) ts.length,
    Con.nn IntKind.u8 (xs.getD (4 * i - 16 + k).toNat 0), Con.nn IntKind.u8 (ts.getD k.toNat 0), Con.eqN g g,
    Con.leN (0 + n) xs.length, Con.leN (addO n 1) 140737488355328,
    Con.rng (-9223372036854775808) (k + 1) 9223372036854775807]) : Ok (C42a i k c ks bx xs ts g0 g1 g gt n nt ow0 ow1 cp ct) := Ok.dem (fl := [false, false, false, false, false, false, false, false, false, false, false, false, false, false, false, false, false,
    true, true, true, false, false, false, false, true, true, true, false, false]) (by kernel_rfl) (by kernel_rfl) (by kernel_rfl) h
theorem C42a_ex {i k c : Int} {ks bx xs ts : List Int} {g0 g1 g gt n nt : Nat} {ow0 ow1 : Bool} {cp ct : Option Nat} : (C42a i k c ks bx xs ts g0 g1 g gt n nt ow0 ow1 cp ct).ex = AExit.normal := by kernel_rfl
theorem C42a_fm {i k c : Int} {ks bx xs ts : List Int} {g0 g1 g gt n nt : Nat} {ow0 ow1 : Bool} {cp ct : Option Nat} : (C42a i k c ks bx xs ts g0 g1 g gt n nt ow0 ow1 cp ct).fm = [(1, AVal.slice 1 1 g1 0 256 cp), (5, AVal.slice 1 2 (g + 1) 0 (addO n 1) none), (6, AVal.int IntKind.u8 c),
    (7, AVal.int IntKind.i64 i), (8, AVal.slice 1 3 gt 0 nt ct), (9, AVal.int IntKind.i64 (k + 1))] := by kernel_rfl
theorem C42a_tab {i k c : Int} {ks bx xs ts : List Int} {g0 g1 g gt n nt : Nat} {ow0 ow1 : Bool} {cp ct : Option Nat} : (C42a i k c ks bx xs ts g0 g1 g gt n nt ow0 ow1 cp ct).tab = [some { data := AVal.ints IntKind.u8 ks, g := g0, own := ow0, et := 5 },
    some { data := AVal.ints IntKind.u8 bx, g := g1, own := ow1, et := 5 },
    some
      { data := AVal.ints IntKind.u8 (List.take n xs ++ [ixor (xs.getD (4 * i - 16 + k).toNat 0) (ts.getD k.toNat 0)]),
        g := g + 1, own := true, et := 5 },
    some { data := AVal.ints IntKind.u8 ts, g := gt, own := true, et := 5 }] := by kernel_rfl
noncomputable def D42a (i k c : Int) (ks bx xs ts : List Int) (g0 g1 g gt n nt : Nat) (ow0 ow1 : Bool) (cp ct : Option Nat) : Out := trim 4 4 [1,5,6,7] (run eJ 79 ⟨4, []⟩ 400 (roundOf 2 f42) [(1, .slice 1 1 g1 0 256 cp), (5, .slice 1 2 g 0 n none), (6, .int .u8 c), (7, .int .i64 i), (8, .slice 1 3 gt 0 nt ct), (9, .int .i64 k)] [some ⟨.ints .u8 ks, g0, ow0, 5⟩, some ⟨.ints .u8 bx, g1, ow1, 5⟩, some ⟨.ints .u8 xs, g, true, 5⟩, some ⟨.ints .u8 ts, gt, true, 5⟩] [some false])
theorem D42a_ok {i k c : Int} {ks bx xs ts : List Int} {g0 g1 g gt n nt : Nat} {ow0 ow1 : Bool} {cp ct : Option Nat} (h : allP [Con.p (decide (k < 4) = false)]) : Ok (D42a i k c ks bx xs ts g0 g1 g gt n nt ow0 ow1 cp ct) := Ok.dem (fl := [false]) (by kernel_rfl) (by kernel_rfl) (by kernel_rfl) h
theorem D42a_ex {i k c : Int} {ks bx xs ts : List Int} {g0 g1 g gt n nt : Nat} {ow0 ow1 : Bool} {cp ct : Option Nat} : (D42a i k c ks bx xs ts g0 g1 g gt n nt ow0 ow1 cp ct).ex = AExit.exit 2 := by kernel_rfl
theorem D42a_fm {i k c : Int} {ks bx xs ts : List Int} {g0 g1 g gt n nt : Nat} {ow0 ow1 : Bool} {cp ct : Option Nat} : (D42a i k c ks bx xs ts g0 g1 g gt n nt ow0 ow1 cp ct).fm = [(1, AVal.slice 1 1 g1 0 256 cp), (5, AVal.slice 1 2 g 0 n none), (6, AVal.int IntKind.u8 c),
    (7, AVal.int IntKind.i64 i)] := by kernel_rfl
theorem D42a_tab {i k c : Int} {ks bx xs ts : List Int} {g0 g1 g gt n nt : Nat} {ow0 ow1 : Bool} {cp ct : Option Nat} : (D42a i k c ks bx xs ts g0 g1 g gt n nt ow0 ow1 cp ct).tab = [some { data := AVal.ints IntKind.u8 ks, g := g0, own := ow0, et := 5 },
    some { data := AVal.ints IntKind.u8 bx, g := g1, own := ow1, et := 5 },
    some { data := AVal.ints IntKind.u8 xs, g := g, own := true, et := 5 },
    some { data := AVal.ints IntKind.u8 ts, g := gt, own := true, et := 5 }] := by kernel_rfl
def F42a (m n : Nat) (c : Int) (g1 g gt : Nat) (cp ct : Option Nat) (k : Nat) : Fm := [(1, .slice 1 1 g1 0 256 cp), (5, .slice 1 2 (g + k) 0 (n + k) none), (6, .int .u8 c), (7, .int .i64 m), (8, .slice 1 3 gt 0 4 ct), (9, .int .i64 k)]
def T42a (m : Nat) (ks bx xs ts : List Int) (g0 g1 g gt : Nat) (ow0 ow1 : Bool) (k : Nat) : Tab := [some ⟨.ints .u8 ks, g0, ow0, 5⟩, some ⟨.ints .u8 bx, g1, ow1, 5⟩, some ⟨.ints .u8 (w4Law xs m ts k), g + k, true, 5⟩, some ⟨.ints .u8 ts, gt, true, 5⟩]
theorem loop42a {m : Nat} {c : Int} {ks bx xs ts : List Int} {g0 g1 g gt : Nat} {ow0 ow1 : Bool} {cp ct : Option Nat} (hm : 4 ≤ m) (hm2 : m < 44) (hx : xs.length = 4 * m) (hb : Bytes xs) (ht : ts.length = 4) (htb : Bytes ts) :
    To eJ 79 4 (.block 2 (.loop (roundOf 2 f42))) (F42a m (4 * m) c g1 g gt cp ct 0) (T42a m ks bx xs ts g0 g1 g gt ow0 ow1 0) .normal [(1, .slice 1 1 g1 0 256 cp), (5, .slice 1 2 (g + 4) 0 (4 * m + 4) none), (6, .int .u8 c), (7, .int .i64 m)] (T42a m ks bx xs ts g0 g1 g gt ow0 ow1 4) := by
  refine To.rounds (F42a m (4 * m) c g1 g gt cp ct) (T42a m ks bx xs ts g0 g1 g gt ow0 ow1) 4 (fun k hk => ?_) ?_
  · have hl := w4Law_len xs m ts k
    have hb' := w4Law_bytes (m := m) hb htb k
    have e1 : (4 * (m : Int) - 16 + k).toNat = 4 * m - 16 + k := by omega
    refine To.of (o := C42a m k c ks bx (w4Law xs m ts k) ts g0 g1 (g + k) gt (4 * m + k) 4 ow0 ow1 cp ct) eJ_ok hmA (Nat.le_refl 4) OrcOk.nil rfl (C42a_ok ?_) C42a_ex ?_ ?_
    · simp only [allP, Con.h, hl, hx, ht, addO_eq, decide_eq_true_eq, eq_self, true_and, and_true, e1, Int.toNat_natCast]
      have q1 := hb'.get (4 * m - 16 + k)
      have q2 := htb.get k
      repeat' with_reducible apply And.intro
      all_goals first | omega | exact q1 | exact q2
    · rw [C42a_fm, addO_eq]; rfl
    · rw [C42a_tab, List.take_of_length_le (by omega), e1, Int.toNat_natCast]; rfl
  · exact To.of (o := D42a m (4 : Nat) c ks bx (w4Law xs m ts 4) ts g0 g1 (g + 4) gt (4 * m + 4) 4 ow0 ow1 cp ct) eJ_ok hmA (Nat.le_refl 4) OrcOk.nil rfl (D42a_ok (by simp [allP, Con.h])) D42a_ex D42a_fm D42a_tab
def g42a : List AVal → Tab → Out := fun vs T => match vs, T with
  | [.slice 1 1 g1 0 256 cp, .slice 1 2 g 0 n none, .int .u8 c, .int .i64 i, .slice 1 3 gt 0 nt ct, .int .i64 k], [some ⟨.ints .u8 ks, g0, ow0, 5⟩, some ⟨.ints .u8 bx, g1', ow1, 5⟩, some ⟨.ints .u8 xs, g', true, 5⟩, some ⟨.ints .u8 ts, gt', true, 5⟩] =>
    ⟨[.eqN g1 g1', .eqN g g', .eqN gt gt', .eqN nt 4, .rng 0 k 0, .rng 4 i 43, .eqN xs.length n, .p (n = 4 * i.toNat), .eqN ts.length 4, .p (Bytes xs), .p (Bytes ts)], .normal, [(1, .slice 1 1 g1 0 256 cp), (5, .slice 1 2 (g + 4) 0 (n + 4) none), (6, .int .u8 c), (7, .int .i64 i)],
      [some ⟨.ints .u8 ks, g0, ow0, 5⟩, some ⟨.ints .u8 bx, g1', ow1, 5⟩, some ⟨.ints .u8 (w4Law xs i.toNat ts 4), g + 4, true, 5⟩, some ⟨.ints .u8 ts, gt', true, 5⟩], []⟩
  | _, _ => failO
theorem g42a_ok : BlkOk eJ f42 2 (.loop (roundOf 2 f42)) (blkS 4 [1,5,6,7,8,9] g42a) := by
  refine blkS_ok fun vs T h => ?_
  unfold g42a at h ⊢
  split at h
  · rename_i g1 cp g n c i gt nt ct k ks g0 ow0 bx g1' ow1 xs g' ts gt'
    obtain ⟨h1, h2, h3, h4, h5, h6, h7, h8, h9, h10, h11, _⟩ := h.h
    simp only [Con.h] at h1 h2 h3 h4 h5 h6 h7 h8 h9 h10 h11
    obtain rfl : k = 0 := by omega
    obtain ⟨m, rfl⟩ : ∃ m : Nat, i = m := ⟨i.toNat, by omega⟩
    rw [Int.toNat_natCast] at h8
    subst h1 h2 h3 h4 h8
    exact loop42a (by omega) (by omega) h7 h10 h9 h11
  · exact absurd h nofailO
noncomputable def A42a (i c : Int) (ks bx xs : List Int) (g0 g1 g n : Nat) (ow0 ow1 : Bool) (cp : Option Nat) : Out := trim 3 3 [1,5,6,7] (run eJ 79 ⟨3, [(2, blkS 4 [1,5,6,7,8,9] g42a)]⟩ 400 (roundOf 0 f42) [(1, .slice 1 1 g1 0 256 cp), (5, .slice 1 2 g 0 n none), (6, .int .u8 c), (7, .int .i64 i)] [some ⟨.ints .u8 ks, g0, ow0, 5⟩, some ⟨.ints .u8 bx, g1, ow1, 5⟩, some ⟨.ints .u8 xs, g, true, 5⟩] [some true, some false])
theorem A42a_ok {i c : Int} {ks bx xs : List Int} {g0 g1 g n : Nat} {ow0 ow1 : Bool} {cp : Option Nat} (h : allP [Con.p (decide (i < 44) = true), Con.rng (-9223372036854775808) (4 * i) 9223372036854775807,
    Con.rng (-9223372036854775808) (4 * i - 4) 9223372036854775807,
    Con.rng (-9223372036854775808) (4 * i) 9223372036854775807, Con.leI 0 (4 * i - 4), Con.leI 0 (4 * i), Con.eqN g g,
    Con.leN (4 * i - 4).toNat (4 * i).toNat, Con.orN (4 * i).toNat n (0 + (4 * i).toNat) xs.length,
    Con.leN (subO (4 * i).toNat (4 * i - 4).toNat) 140737488355328, Con.eqN g g,
    Con.leN ((4 * i - 4).toNat + subO (4 * i).toNat (4 * i - 4).toNat) xs.length, Con.p ((i.tmod 4 == 0) = false),
    Con.eqN g1 g1, Con.eqN g g, Con.eqN (subO (4 * i).toNat (4 * i - 4).toNat) 4, Con.rng 4 i 43, Con.eqN xs.length n,
    Con.p (n = 4 * i.toNat),
    Con.eqN ([] ++ List.take (subO (4 * i).toNat (4 * i - 4).toNat) (dropO (4 * i - 4).toNat xs)).length 4,
    Con.p (Bytes xs),
    Con.p (Bytes ([] ++ List.take (subO (4 * i).toNat (4 * i - 4).toNat) (dropO (4 * i - 4).toNat xs))),
    Con.rng (-9223372036854775808) (i + 1) 9223372036854775807]) : Ok (A42a i c ks bx xs g0 g1 g n ow0 ow1 cp) := Ok.dem (fl := [false, true, false, false, false, false, false, false, false, false, true, true, false, false, false, true, true,
    false, false, false, true, false, true, false, false, false, false, false, false, false]) (by kernel_rfl) (by kernel_rfl) (by kernel_rfl) h
theorem A42a_ex {i c : Int} {ks bx xs : List Int} {g0 g1 g n : Nat} {ow0 ow1 : Bool} {cp : Option Nat} : (A42a i c ks bx xs g0 g1 g n ow0 ow1 cp).ex = AExit.normal := by kernel_rfl
theorem A42a_fm {i c : Int} {ks bx xs : List Int} {g0 g1 g n : Nat} {ow0 ow1 : Bool} {cp : Option Nat} : (A42a i c ks bx xs g0 g1 g n ow0 ow1 cp).fm = [(1, AVal.slice 1 1 g1 0 256 cp), (5, AVal.slice 1 2 (g + 4) 0 (n + 4) none), (6, AVal.int IntKind.u8 c),
    (7, AVal.int IntKind.i64 (i + 1))] := by kernel_rfl
theorem A42a_tab {i c : Int} {ks bx xs : List Int} {g0 g1 g n : Nat} {ow0 ow1 : Bool} {cp : Option Nat} : (A42a i c ks bx xs g0 g1 g n ow0 ow1 cp).tab = [some { data := AVal.ints IntKind.u8 ks, g := g0, own := ow0, et := 5 },
    some { data := AVal.ints IntKind.u8 bx, g := g1, own := ow1, et := 5 },
    some
      {
        data :=
          AVal.ints IntKind.u8
            (w4Law xs i.toNat ([] ++ List.take (subO (4 * i).toNat (4 * i - 4).toNat) (dropO (4 * i - 4).toNat xs)) 4),
        g := g + 4, own := true, et := 5 }] := by kernel_rfl
noncomputable def C42b (i k c : Int) (ks bx xs us ts : List Int) (g0 g1 g gt n nt : Nat) (ow0 ow1 : Bool) (cp ct : Option Nat) : Out := trim 5 5 [1,5,6,7,8,9] (run eJ 79 ⟨5, []⟩ 400 (roundOf 2 f42) [(1, .slice 1 1 g1 0 256 cp), (5, .slice 1 2 g 0 n none), (6, .int .u8 c), (7, .int .i64 i), (8, .slice 1 4 gt 0 nt ct), (9, .int .i64 k)] [some ⟨.ints .u8 ks, g0, ow0, 5⟩, some ⟨.ints .u8 bx, g1, ow1, 5⟩, some ⟨.ints .u8 xs, g, true, 5⟩, some ⟨.ints .u8 us, 1, true, 5⟩, some ⟨.ints .u8 ts, gt, true, 5⟩] [some true])
theorem C42b_ok {i k c : Int} {ks bx xs us ts : List Int} {g0 g1 g gt n nt : Nat} {ow0 ow1 : Bool} {cp ct : Option Nat} (h : allP [Con.p (decide (k < 4) = true), Con.rng (-9223372036854775808) (4 * i) 9223372036854775807,
    Con.rng (-9223372036854775808) (4 * i - 16) 9223372036854775807,
    Con.rng (-9223372036854775808) (4 * i - 16 + k) 9223372036854775807, Con.eqN g g, Con.leI 0 (4 * i - 16 + k),
    Con.leI (4 * i - 16 + k + 1) (↑n : Int), Con.eqN g g, Con.leN ((4 * i - 16 + k).toNat + 1) xs.length, Con.eqN gt gt,
    Con.leI 0 k, Con.leI (k + 1) (↑nt : Int), Con.eqN gt gt, Con.leN (k.toNat + 1) ts.length,
    Con.nn IntKind.u8 (xs.getD (4 * i - 16 + k).toNat 0), Con.nn IntKind.u8 (ts.getD k.toNat 0), Con.eqN g g,
    Con.leN (0 + n) xs.length, Con.leN (addO n 1) 140737488355328,
    Con.rng (-9223372036854775808) (k + 1) 9223372036854775807]) : Ok (C42b i k c ks bx xs us ts g0 g1 g gt n nt ow0 ow1 cp ct) := Ok.dem (fl := [false, false, false, false, false, false, false, false, false, false, false, false, false, false, false, false, false,
    true, true, true, false, false, false, false, true, true, true, false, false]) (by kernel_rfl) (by kernel_rfl) (by kernel_rfl) h
theorem C42b_ex {i k c : Int} {ks bx xs us ts : List Int} {g0 g1 g gt n nt : Nat} {ow0 ow1 : Bool} {cp ct : Option Nat} : (C42b i k c ks bx xs us ts g0 g1 g gt n nt ow0 ow1 cp ct).ex = AExit.normal := by kernel_rfl
theorem C42b_fm {i k c : Int} {ks bx xs us ts : List Int} {g0 g1 g gt n nt : Nat} {ow0 ow1 : Bool} {cp ct : Option Nat} : (C42b i k c ks bx xs us ts g0 g1 g gt n nt ow0 ow1 cp ct).fm = [(1, AVal.slice 1 1 g1 0 256 cp), (5, AVal.slice 1 2 (g + 1) 0 (addO n 1) none), (6, AVal.int IntKind.u8 c),
    (7, AVal.int IntKind.i64 i), (8, AVal.slice 1 4 gt 0 nt ct), (9, AVal.int IntKind.i64 (k + 1))] := by kernel_rfl
theorem C42b_tab {i k c : Int} {ks bx xs us ts : List Int} {g0 g1 g gt n nt : Nat} {ow0 ow1 : Bool} {cp ct : Option Nat} : (C42b i k c ks bx xs us ts g0 g1 g gt n nt ow0 ow1 cp ct).tab = [some { data := AVal.ints IntKind.u8 ks, g := g0, own := ow0, et := 5 },
    some { data := AVal.ints IntKind.u8 bx, g := g1, own := ow1, et := 5 },
    some
      { data := AVal.ints IntKind.u8 (List.take n xs ++ [ixor (xs.getD (4 * i - 16 + k).toNat 0) (ts.getD k.toNat 0)]),
        g := g + 1, own := true, et := 5 },
    some { data := AVal.ints IntKind.u8 us, g := 1, own := true, et := 5 },
    some { data := AVal.ints IntKind.u8 ts, g := gt, own := true, et := 5 }] := by kernel_rfl
noncomputable def D42b (i k c : Int) (ks bx xs us ts : List Int) (g0 g1 g gt n nt : Nat) (ow0 ow1 : Bool) (cp ct : Option Nat) : Out := trim 5 5 [1,5,6,7] (run eJ 79 ⟨5, []⟩ 400 (roundOf 2 f42) [(1, .slice 1 1 g1 0 256 cp), (5, .slice 1 2 g 0 n none), (6, .int .u8 c), (7, .int .i64 i), (8, .slice 1 4 gt 0 nt ct), (9, .int .i64 k)] [some ⟨.ints .u8 ks, g0, ow0, 5⟩, some ⟨.ints .u8 bx, g1, ow1, 5⟩, some ⟨.ints .u8 xs, g, true, 5⟩, some ⟨.ints .u8 us, 1, true, 5⟩, some ⟨.ints .u8 ts, gt, true, 5⟩] [some false])
theorem D42b_ok {i k c : Int} {ks bx xs us ts : List Int} {g0 g1 g gt n nt : Nat} {ow0 ow1 : Bool} {cp ct : Option Nat} (h : allP [Con.p (decide (k < 4) = false)]) : Ok (D42b i k c ks bx xs us ts g0 g1 g gt n nt ow0 ow1 cp ct) := Ok.dem (fl := [false]) (by kernel_rfl) (by kernel_rfl) (by kernel_rfl) h
theorem D42b_ex {i k c : Int} {ks bx xs us ts : List Int} {g0 g1 g gt n nt : Nat} {ow0 ow1 : Bool} {cp ct : Option Nat} : (D42b i k c ks bx xs us ts g0 g1 g gt n nt ow0 ow1 cp ct).ex = AExit.exit 2 := by kernel_rfl
theorem D42b_fm {i k c : Int} {ks bx xs us ts : List Int} {g0 g1 g gt n nt : Nat} {ow0 ow1 : Bool} {cp ct : Option Nat} : (D42b i k c ks bx xs us ts g0 g1 g gt n nt ow0 ow1 cp ct).fm = [(1, AVal.slice 1 1 g1 0 256 cp), (5, AVal.slice 1 2 g 0 n none), (6, AVal.int IntKind.u8 c),
    (7, AVal.int IntKind.i64 i)] := by kernel_rfl
theorem D42b_tab {i k c : Int} {ks bx xs us ts : List Int} {g0 g1 g gt n nt : Nat} {ow0 ow1 : Bool} {cp ct : Option Nat} : (D42b i k c ks bx xs us ts g0 g1 g gt n nt ow0 ow1 cp ct).tab = [some { data := AVal.ints IntKind.u8 ks, g := g0, own := ow0, et := 5 },
    some { data := AVal.ints IntKind.u8 bx, g := g1, own := ow1, et := 5 },
    some { data := AVal.ints IntKind.u8 xs, g := g, own := true, et := 5 },
    some { data := AVal.ints IntKind.u8 us, g := 1, own := true, et := 5 },
    some { data := AVal.ints IntKind.u8 ts, g := gt, own := true, et := 5 }] := by kernel_rfl
def F42b (m n : Nat) (c : Int) (g1 g gt : Nat) (cp ct : Option Nat) (k : Nat) : Fm := [(1, .slice 1 1 g1 0 256 cp), (5, .slice 1 2 (g + k) 0 (n + k) none), (6, .int .u8 c), (7, .int .i64 m), (8, .slice 1 4 gt 0 4 ct), (9, .int .i64 k)]
def T42b (m : Nat) (ks bx xs us ts : List Int) (g0 g1 g gt : Nat) (ow0 ow1 : Bool) (k : Nat) : Tab := [some ⟨.ints .u8 ks, g0, ow0, 5⟩, some ⟨.ints .u8 bx, g1, ow1, 5⟩, some ⟨.ints .u8 (w4Law xs m ts k), g + k, true, 5⟩, some ⟨.ints .u8 us, 1, true, 5⟩, some ⟨.ints .u8 ts, gt, true, 5⟩]
theorem loop42b {m : Nat} {c : Int} {ks bx xs us ts : List Int} {g0 g1 g gt : Nat} {ow0 ow1 : Bool} {cp ct : Option Nat} (hm : 4 ≤ m) (hm2 : m < 44) (hx : xs.length = 4 * m) (hb : Bytes xs) (ht : ts.length = 4) (htb : Bytes ts) :
    To eJ 79 5 (.block 2 (.loop (roundOf 2 f42))) (F42b m (4 * m) c g1 g gt cp ct 0) (T42b m ks bx xs us ts g0 g1 g gt ow0 ow1 0) .normal [(1, .slice 1 1 g1 0 256 cp), (5, .slice 1 2 (g + 4) 0 (4 * m + 4) none), (6, .int .u8 c), (7, .int .i64 m)] (T42b m ks bx xs us ts g0 g1 g gt ow0 ow1 4) := by
  refine To.rounds (F42b m (4 * m) c g1 g gt cp ct) (T42b m ks bx xs us ts g0 g1 g gt ow0 ow1) 4 (fun k hk => ?_) ?_
  · have hl := w4Law_len xs m ts k
    have hb' := w4Law_bytes (m := m) hb htb k
    have e1 : (4 * (m : Int) - 16 + k).toNat = 4 * m - 16 + k := by omega
    refine To.of (o := C42b m k c ks bx (w4Law xs m ts k) us ts g0 g1 (g + k) gt (4 * m + k) 4 ow0 ow1 cp ct) eJ_ok hmA (Nat.le_refl 5) OrcOk.nil rfl (C42b_ok ?_) C42b_ex ?_ ?_
    · simp only [allP, Con.h, hl, hx, ht, addO_eq, decide_eq_true_eq, eq_self, true_and, and_true, e1, Int.toNat_natCast]
      have q1 := hb'.get (4 * m - 16 + k)
      have q2 := htb.get k
      repeat' with_reducible apply And.intro
      all_goals first | omega | exact q1 | exact q2
    · rw [C42b_fm, addO_eq]; rfl
    · rw [C42b_tab, List.take_of_length_le (by omega), e1, Int.toNat_natCast]; rfl
  · exact To.of (o := D42b m (4 : Nat) c ks bx (w4Law xs m ts 4) us ts g0 g1 (g + 4) gt (4 * m + 4) 4 ow0 ow1 cp ct) eJ_ok hmA (Nat.le_refl 5) OrcOk.nil rfl (D42b_ok (by simp [allP, Con.h])) D42b_ex D42b_fm D42b_tab
def g42b : List AVal → Tab → Out := fun vs T => match vs, T with
  | [.slice 1 1 g1 0 256 cp, .slice 1 2 g 0 n none, .int .u8 c, .int .i64 i, .slice 1 4 gt 0 nt ct, .int .i64 k], [some ⟨.ints .u8 ks, g0, ow0, 5⟩, some ⟨.ints .u8 bx, g1', ow1, 5⟩, some ⟨.ints .u8 xs, g', true, 5⟩, some ⟨.ints .u8 us, gu, true, 5⟩, some ⟨.ints .u8 ts, gt', true, 5⟩] =>
    ⟨[.eqN gu 1, .eqN g1 g1', .eqN g g', .eqN gt gt', .eqN nt 4, .rng 0 k 0, .rng 4 i 43, .eqN xs.length n, .p (n = 4 * i.toNat), .eqN ts.length 4, .p (Bytes xs), .p (Bytes ts)], .normal, [(1, .slice 1 1 g1 0 256 cp), (5, .slice 1 2 (g + 4) 0 (n + 4) none), (6, .int .u8 c), (7, .int .i64 i)],
      [some ⟨.ints .u8 ks, g0, ow0, 5⟩, some ⟨.ints .u8 bx, g1', ow1, 5⟩, some ⟨.ints .u8 (w4Law xs i.toNat ts 4), g + 4, true, 5⟩, some ⟨.ints .u8 us, gu, true, 5⟩, some ⟨.ints .u8 ts, gt', true, 5⟩], []⟩
  | _, _ => failO
theorem g42b_ok : BlkOk eJ f42 2 (.loop (roundOf 2 f42)) (blkS 5 [1,5,6,7,8,9] g42b) := by
  refine blkS_ok fun vs T h => ?_
  unfold g42b at h ⊢
  split at h
  · rename_i g1 cp g n c i gt nt ct k ks g0 ow0 bx g1' ow1 xs g' us gu ts gt'
    obtain ⟨h0, h1, h2, h3, h4, h5, h6, h7, h8, h9, h10, h11, _⟩ := h.h
    simp only [Con.h] at h0 h1 h2 h3 h4 h5 h6 h7 h8 h9 h10 h11
    obtain rfl : k = 0 := by omega
    obtain ⟨m, rfl⟩ : ∃ m : Nat, i = m := ⟨i.toNat, by omega⟩
    rw [Int.toNat_natCast] at h8
    subst h0 h1 h2 h3 h4 h8
    exact loop42b (by omega) (by omega) h7 h10 h9 h11
  · exact absurd h nofailO
noncomputable def A42b (i c : Int) (ks bx xs : List Int) (g0 g1 g n : Nat) (ow0 ow1 : Bool) (cp : Option Nat) : Out := trim 3 3 [1,5,6,7] (run eJ 79 ⟨3, [(2, blkS 5 [1,5,6,7,8,9] g42b)]⟩ 400 (roundOf 0 f42) [(1, .slice 1 1 g1 0 256 cp), (5, .slice 1 2 g 0 n none), (6, .int .u8 c), (7, .int .i64 i)] [some ⟨.ints .u8 ks, g0, ow0, 5⟩, some ⟨.ints .u8 bx, g1, ow1, 5⟩, some ⟨.ints .u8 xs, g, true, 5⟩] [some true, some true])
theorem A42b_ok {i c : Int} {ks bx xs : List Int} {g0 g1 g n : Nat} {ow0 ow1 : Bool} {cp : Option Nat} (h : allP [Con.p (decide (i < 44) = true), Con.rng (-9223372036854775808) (4 * i) 9223372036854775807,
    Con.rng (-9223372036854775808) (4 * i - 4) 9223372036854775807,
    Con.rng (-9223372036854775808) (4 * i) 9223372036854775807, Con.leI 0 (4 * i - 4), Con.leI 0 (4 * i), Con.eqN g g,
    Con.leN (4 * i - 4).toNat (4 * i).toNat, Con.orN (4 * i).toNat n (0 + (4 * i).toNat) xs.length,
    Con.leN (subO (4 * i).toNat (4 * i - 4).toNat) 140737488355328, Con.eqN g g,
    Con.leN ((4 * i - 4).toNat + subO (4 * i).toNat (4 * i - 4).toNat) xs.length, Con.p ((i.tmod 4 == 0) = true),
    Con.leI 2 (↑(subO (4 * i).toNat (4 * i - 4).toNat) : Int),
    Con.leN 2 ([] ++ List.take (subO (4 * i).toNat (4 * i - 4).toNat) (dropO (4 * i - 4).toNat xs)).length,
    Con.eqN g1 g1,
    Con.leI 0 (([] ++ List.take (subO (4 * i).toNat (4 * i - 4).toNat) (dropO (4 * i - 4).toNat xs)).getD 1 0),
    Con.leI (([] ++ List.take (subO (4 * i).toNat (4 * i - 4).toNat) (dropO (4 * i - 4).toNat xs)).getD 1 0 + 1) 256,
    Con.eqN g1 g1,
    Con.leN ((([] ++ List.take (subO (4 * i).toNat (4 * i - 4).toNat) (dropO (4 * i - 4).toNat xs)).getD 1 0).toNat + 1)
      bx.length,
    Con.nn IntKind.u8
      (bx.getD (([] ++ List.take (subO (4 * i).toNat (4 * i - 4).toNat) (dropO (4 * i - 4).toNat xs)).getD 1 0).toNat
        0),
    Con.nn IntKind.u8 c, Con.leI 3 (↑(subO (4 * i).toNat (4 * i - 4).toNat) : Int),
    Con.leN 3 ([] ++ List.take (subO (4 * i).toNat (4 * i - 4).toNat) (dropO (4 * i - 4).toNat xs)).length,
    Con.eqN g1 g1,
    Con.leI 0 (([] ++ List.take (subO (4 * i).toNat (4 * i - 4).toNat) (dropO (4 * i - 4).toNat xs)).getD 2 0),
    Con.leI (([] ++ List.take (subO (4 * i).toNat (4 * i - 4).toNat) (dropO (4 * i - 4).toNat xs)).getD 2 0 + 1) 256,
    Con.eqN g1 g1,
    Con.leN ((([] ++ List.take (subO (4 * i).toNat (4 * i - 4).toNat) (dropO (4 * i - 4).toNat xs)).getD 2 0).toNat + 1)
      bx.length,
    Con.leI 4 (↑(subO (4 * i).toNat (4 * i - 4).toNat) : Int),
    Con.leN 4 ([] ++ List.take (subO (4 * i).toNat (4 * i - 4).toNat) (dropO (4 * i - 4).toNat xs)).length,
    Con.eqN g1 g1,
    Con.leI 0 (([] ++ List.take (subO (4 * i).toNat (4 * i - 4).toNat) (dropO (4 * i - 4).toNat xs)).getD 3 0),
    Con.leI (([] ++ List.take (subO (4 * i).toNat (4 * i - 4).toNat) (dropO (4 * i - 4).toNat xs)).getD 3 0 + 1) 256,
    Con.eqN g1 g1,
    Con.leN ((([] ++ List.take (subO (4 * i).toNat (4 * i - 4).toNat) (dropO (4 * i - 4).toNat xs)).getD 3 0).toNat + 1)
      bx.length,
    Con.leI 1 (↑(subO (4 * i).toNat (4 * i - 4).toNat) : Int),
    Con.leN 1 ([] ++ List.take (subO (4 * i).toNat (4 * i - 4).toNat) (dropO (4 * i - 4).toNat xs)).length,
    Con.eqN g1 g1,
    Con.leI 0 (([] ++ List.take (subO (4 * i).toNat (4 * i - 4).toNat) (dropO (4 * i - 4).toNat xs)).getD 0 0),
    Con.leI (([] ++ List.take (subO (4 * i).toNat (4 * i - 4).toNat) (dropO (4 * i - 4).toNat xs)).getD 0 0 + 1) 256,
    Con.eqN g1 g1,
    Con.leN ((([] ++ List.take (subO (4 * i).toNat (4 * i - 4).toNat) (dropO (4 * i - 4).toNat xs)).getD 0 0).toNat + 1)
      bx.length,
    Con.rng 0 c 255, Con.eqN g1 g1, Con.eqN g g, Con.rng 4 i 43, Con.eqN xs.length n, Con.p (n = 4 * i.toNat),
    Con.p (Bytes xs),
    Con.p
      (Bytes
        [ixor
            (bx.getD
              (([] ++ List.take (subO (4 * i).toNat (4 * i - 4).toNat) (dropO (4 * i - 4).toNat xs)).getD 1 0).toNat 0)
            c,
          bx.getD (([] ++ List.take (subO (4 * i).toNat (4 * i - 4).toNat) (dropO (4 * i - 4).toNat xs)).getD 2 0).toNat
            0,
          bx.getD (([] ++ List.take (subO (4 * i).toNat (4 * i - 4).toNat) (dropO (4 * i - 4).toNat xs)).getD 3 0).toNat
            0,
          bx.getD (([] ++ List.take (subO (4 * i).toNat (4 * i - 4).toNat) (dropO (4 * i - 4).toNat xs)).getD 0 0).toNat
            0]),
    Con.rng (-9223372036854775808) (i + 1) 9223372036854775807]) : Ok (A42b i c ks bx xs g0 g1 g n ow0 ow1 cp) := Ok.dem (fl := [false, true, false, false, false, false, false, false, false, false, true, true, false, false, false, true, true,
    false, false, true, true, false, true, false, false, false, false, false, false, false, false, true, true, false,
    true, false, false, false, false, false, false, true, true, false, true, false, false, false, false, false, false,
    true, true, false, true, false, false, false, false, false, false, true, true, true, true, true, true, true, true,
    true, false, false, true, true, false, false, true, true, true, false, false, false, true, false, false, false]) (by kernel_rfl) (by kernel_rfl) (by kernel_rfl) h
theorem A42b_ex {i c : Int} {ks bx xs : List Int} {g0 g1 g n : Nat} {ow0 ow1 : Bool} {cp : Option Nat} : (A42b i c ks bx xs g0 g1 g n ow0 ow1 cp).ex = AExit.normal := by kernel_rfl
theorem A42b_fm {i c : Int} {ks bx xs : List Int} {g0 g1 g n : Nat} {ow0 ow1 : Bool} {cp : Option Nat} : (A42b i c ks bx xs g0 g1 g n ow0 ow1 cp).fm = [(1, AVal.slice 1 1 g1 0 256 cp), (5, AVal.slice 1 2 (g + 4) 0 (n + 4) none), (6, AVal.int IntKind.u8 (timesLaw c 2)),
    (7, AVal.int IntKind.i64 (i + 1))] := by kernel_rfl
theorem A42b_tab {i c : Int} {ks bx xs : List Int} {g0 g1 g n : Nat} {ow0 ow1 : Bool} {cp : Option Nat} : (A42b i c ks bx xs g0 g1 g n ow0 ow1 cp).tab = [some { data := AVal.ints IntKind.u8 ks, g := g0, own := ow0, et := 5 },
    some { data := AVal.ints IntKind.u8 bx, g := g1, own := ow1, et := 5 },
    some
      {
        data :=
          AVal.ints IntKind.u8
            (w4Law xs i.toNat
              [ixor
                  (bx.getD
                    (([] ++ List.take (subO (4 * i).toNat (4 * i - 4).toNat) (dropO (4 * i - 4).toNat xs)).getD 1
                        0).toNat
                    0)
                  c,
                bx.getD
                  (([] ++ List.take (subO (4 * i).toNat (4 * i - 4).toNat) (dropO (4 * i - 4).toNat xs)).getD 2 0).toNat
                  0,
                bx.getD
                  (([] ++ List.take (subO (4 * i).toNat (4 * i - 4).toNat) (dropO (4 * i - 4).toNat xs)).getD 3 0).toNat
                  0,
                bx.getD
                  (([] ++ List.take (subO (4 * i).toNat (4 * i - 4).toNat) (dropO (4 * i - 4).toNat xs)).getD 0 0).toNat
                  0]
              4),
        g := g + 4, own := true, et := 5 }] := by kernel_rfl
noncomputable def B42 (i c : Int) (ks bx xs : List Int) (g0 g1 g n : Nat) (ow0 ow1 : Bool) (cp : Option Nat) : Out := trim 3 3 [5] (run eJ 79 ⟨3, []⟩ 400 (roundOf 0 f42) [(1, .slice 1 1 g1 0 256 cp), (5, .slice 1 2 g 0 n none), (6, .int .u8 c), (7, .int .i64 i)] [some ⟨.ints .u8 ks, g0, ow0, 5⟩, some ⟨.ints .u8 bx, g1, ow1, 5⟩, some ⟨.ints .u8 xs, g, true, 5⟩] [some false])
theorem B42_ok {i c : Int} {ks bx xs : List Int} {g0 g1 g n : Nat} {ow0 ow1 : Bool} {cp : Option Nat} (h : allP [Con.p (decide (i < 44) = false)]) : Ok (B42 i c ks bx xs g0 g1 g n ow0 ow1 cp) := Ok.dem (fl := [false]) (by kernel_rfl) (by kernel_rfl) (by kernel_rfl) h
theorem B42_ex {i c : Int} {ks bx xs : List Int} {g0 g1 g n : Nat} {ow0 ow1 : Bool} {cp : Option Nat} : (B42 i c ks bx xs g0 g1 g n ow0 ow1 cp).ex = AExit.exit 0 := by kernel_rfl
theorem B42_fm {i c : Int} {ks bx xs : List Int} {g0 g1 g n : Nat} {ow0 ow1 : Bool} {cp : Option Nat} : (B42 i c ks bx xs g0 g1 g n ow0 ow1 cp).fm = [(5, AVal.slice 1 2 g 0 n none)] := by kernel_rfl
theorem B42_tab {i c : Int} {ks bx xs : List Int} {g0 g1 g n : Nat} {ow0 ow1 : Bool} {cp : Option Nat} : (B42 i c ks bx xs g0 g1 g n ow0 ow1 cp).tab = [some { data := AVal.ints IntKind.u8 ks, g := g0, own := ow0, et := 5 },
    some { data := AVal.ints IntKind.u8 bx, g := g1, own := ow1, et := 5 },
    some { data := AVal.ints IntKind.u8 xs, g := g, own := true, et := 5 }] := by kernel_rfl
end Go.Abs
