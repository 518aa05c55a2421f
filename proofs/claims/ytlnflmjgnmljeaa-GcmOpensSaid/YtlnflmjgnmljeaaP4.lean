/- What functions of the given program come to, by the abstract machine: texts of a proof. -/
import Derived.Test.YtlnflmjgnmljeaaP3
set_option linter.unusedVariables false
set_option linter.unusedSimpArgs false
set_option maxRecDepth 8000
namespace Go.Abs
open Go.Proofs.Try
/-! ### the program's answers are the document's: tag, turned, Seal -/
theorem plus_comm (a b : List Int) : plusLaw a b = plusLaw b a := l16_congr fun i _ => by
  unfold ixor; rw [Nat.xor_comm]
theorem len_eq {m n : Nat} (hm : m ≤ 100000) (hn : n ≤ 100000) : ptLaw (lenLaw m n) = rlLaw m ++ rlLaw n := by
  obtain ⟨x, hx, e⟩ := len_wp m n
  rw [e, pt_wN, ← put_eq hx, ← e]
  have e0 : (lenLaw m n).getD 0 0 = 8 * (m : Int) := by show 8 * (m : Int) % 18446744073709551616 = _; omega
  have e1 : (lenLaw m n).getD 1 0 = 8 * (n : Int) := by show 8 * (n : Int) % 18446744073709551616 = _; omega
  rw [e0, e1]
  show _ = [0, 0, 0, 0, 8 * (m : Int) / 16777216 % 256, 8 * (m : Int) / 65536 % 256, 8 * (m : Int) / 256 % 256, 8 * (m : Int) % 256, 0, 0, 0, 0, 8 * (n : Int) / 16777216 % 256, 8 * (n : Int) / 65536 % 256, 8 * (n : Int) / 256 % 256, 8 * (n : Int) % 256]
  simp only [List.cons.injEq, and_true, true_and, Int.ediv_one]
  omega
theorem tag_eq {K N ms ts : List Int} {m n : Nat} (hm : m ≤ ms.length) (hn : n ≤ ts.length) (bm : Bytes ms) (bt : Bytes ts) (bk : Bytes K) (bn : Bytes N) (lm : m ≤ 100000) (ln : n ≤ 100000) :
    tagLaw K N ms m ts n = rtagLaw K N (subLaw ms 0 m) m (subLaw ts 0 n) n := by
  have l1 := fullp_len hm
  have l2 := fullp_len hn
  have b1 := full_bytes (sub_bytes bm 0 m) (padLaw m)
  have b2 := full_bytes (sub_bytes bt 0 n) (padLaw n)
  have l3 : (rlLaw m ++ rlLaw n).length = 16 := rfl
  have b3 := (rl_bytes m).append (rl_bytes n)
  have bL := pt_bytes (lenLaw m n)
  have pL := pt_len (lenLaw m n)
  have ek : hkLaw K = wN (nB (blockLaw (ksLaw K 176) zLaw16)) := rfl
  generalize hh : nB (blockLaw (ksLaw K 176) zLaw16) = h at ek
  have e3 : fullLaw (subLaw (ptLaw (lenLaw m n)) 0 16) (padLaw 16) = rlLaw m ++ rlLaw n := by
    rw [sub_n pL, show padLaw 16 = 0 by rfl, full_zero, len_eq lm ln]
  have lt : (rtxtLaw (subLaw ms 0 m) m (subLaw ts 0 n) n).length = 16 * ((m + 15) / 16 + ((n + 15) / 16 + 1)) := by
    unfold rtxtLaw
    rw [List.length_append, List.length_append, List.length_append, l1, l2, rl_len, rl_len]; omega
  have bt' : Bytes (rtxtLaw (subLaw ms 0 m) m (subLaw ts 0 n) n) := ((b1.append b2).append (rl_bytes m)).append (rl_bytes n)
  have et : rtxtLaw (subLaw ms 0 m) m (subLaw ts 0 n) n = fullLaw (subLaw ms 0 m) (padLaw m) ++ (fullLaw (subLaw ts 0 n) (padLaw n) ++ (rlLaw m ++ rlLaw n)) := by
    unfold rtxtLaw; simp only [List.append_assoc]
  unfold tagLaw rtagLaw rhashLaw
  rw [lt, show 16 * ((m + 15) / 16 + ((n + 15) / 16 + 1)) / 16 = (m + 15) / 16 + ((n + 15) / 16 + 1) by omega, rh_rhN bt' _ (by omega), et, hh,
    rhN_cat l1 _ (by rw [List.length_append, l2, l3]; omega), rhN_cat l2 _ (by rw [l3]; exact Nat.le_refl 16), ek, zero_w, hs_rhN hm, hs_rhN hn, hs_rhN (n := 16) (by rw [pL]; exact Nat.le_refl 16), e3, gw_eq, xw_wN, pt_wN, bN_xor, bN_nB (ct_bytes bk bn 1) (ct_len K N 1), plus_comm]
/-! turned -/
theorem getD_set {l : List Int} {i : Nat} (hi : i < l.length) (v : Int) (p : Nat) : (l.set i v).getD p 0 = if i = p then v else l.getD p 0 := by
  rw [List.getD_eq_getElem?_getD, List.getElem?_set, List.getD_eq_getElem?_getD]
  by_cases h : i = p
  · subst h; simp [hi]
  · simp [h]
theorem xk2_get (c xs : List Int) (i p : Nat) (hp : p < xs.length) : ∀ k, (xk2Law c xs i k).getD p 0 = if i ≤ p ∧ p < i + k then ixor (xs.getD p 0) (c.getD (p - i) 0) else xs.getD p 0
  | 0 => by rw [if_neg (by omega)]; rfl
  | k + 1 => by
    have hl := bx_len c xs i k
    unfold xk2Law
    by_cases h : i + k < xs.length
    · rw [if_pos h, getD_set (by omega)]
      by_cases e : i + k = p
      · subst e
        rw [if_pos rfl, xk2_get c xs i (i + k) hp k, if_neg (by omega), if_pos (by omega), Nat.add_sub_cancel_left]
      · rw [if_neg e, xk2_get c xs i p hp k]
        by_cases h2 : i ≤ p ∧ p < i + k
        · rw [if_pos h2, if_pos (by omega)]
        · rw [if_neg h2, if_neg (by omega)]
    · rw [if_neg h, xk2_get c xs i p hp k]
      by_cases h2 : i ≤ p ∧ p < i + k
      · rw [if_pos h2, if_pos (by omega)]
      · rw [if_neg h2, if_neg (by omega)]
theorem tn_get (K N xs : List Int) (p : Nat) (hp : p < xs.length) : ∀ j, (tnLaw K N xs j).getD p 0 = if p < 16 * j then ixor (xs.getD p 0) (kbLaw K N p) else xs.getD p 0
  | 0 => by rw [if_neg (by omega)]; rfl
  | j + 1 => by
    have hl := tn_len K N xs j
    show (xk2Law (ctLaw K N (2 + (j : Int))) (tnLaw K N xs j) (16 * j) 16).getD p 0 = _
    rw [xk2_get _ _ _ p (by omega), tn_get K N xs p hp j]
    by_cases h : p < 16 * j
    · rw [if_neg (by omega), if_pos h, if_pos (by omega)]
    · by_cases h2 : p < 16 * j + 16
      · rw [if_pos (by omega), if_neg h, if_pos (by omega)]
        unfold kbLaw
        rw [show p / 16 = j by omega, show p % 16 = p - 16 * j by omega]
      · rw [if_neg (by omega), if_neg h, if_neg (by omega)]
theorem ud_get (K N ts : List Int) : ∀ (n p : Nat), p < n → (udLaw K N ts n).getD p 0 = ixor (ts.getD p 0) (kbLaw K N p)
  | n + 1, p, hp => by
    have hl := ud_len K N ts n
    unfold udLaw
    by_cases h : p < n
    · rw [List.getD_eq_getElem?_getD, List.getElem?_append_left (by omega), ← List.getD_eq_getElem?_getD, ud_get K N ts n p h]
    · obtain rfl : p = n := by omega
      rw [List.getD_eq_getElem?_getD, List.getElem?_append_right (by omega), hl, Nat.sub_self]; rfl
theorem ext_getD {a b : List Int} (hl : a.length = b.length) (h : ∀ p, p < a.length → a.getD p 0 = b.getD p 0) : a = b := by
  apply List.ext_getElem hl
  intro i h1 h2
  have := h i h1
  rwa [List.getD_eq_getElem?_getD, List.getD_eq_getElem?_getD, List.getElem?_eq_getElem h1, List.getElem?_eq_getElem h2] at this
theorem turn_eq (K N : List Int) {ts : List Int} {n : Nat} (hn : n ≤ ts.length) : turnLaw K N (subLaw ts 0 n) = udLaw K N ts n := by
  have l1 : (subLaw ts 0 n).length = n := subLaw_len (by omega)
  refine ext_getD (by rw [turn_len, ud_len, l1]) fun p hp => ?_
  rw [turn_len, l1] at hp
  unfold turnLaw
  rw [tn_get K N _ p (by omega), if_pos (by omega), sub_getD ts hp, ud_get K N ts n p hp]
end Go.Abs

set_option linter.unusedVariables false
set_option linter.unusedSimpArgs false
set_option maxRecDepth 8000
namespace Go.Abs
open Go.Proofs.Try
end Go.Abs

set_option linter.unusedVariables false
set_option linter.unusedSimpArgs false
set_option maxRecDepth 8000
namespace Go.Abs
open Go.Proofs.Try
/-! ### GcmOpens -/
noncomputable def eV6A : Env := eA [(18, S18), (22, S22), (30, S30), (31, S31), (32, S32A), (33, S33A)]
theorem eV6A_ok : EnvOk eV6A := envOf_ok tysA_ok (SumsOk.cons (fn := f18) S18_ok (by kernel_rfl) (by kernel_rfl) (by kernel_rfl) (SumsOk.cons (fn := f22) S22_ok (by kernel_rfl) (by kernel_rfl) (by kernel_rfl) (SumsOk.cons (fn := f30) S30_ok (by kernel_rfl) (by kernel_rfl) (by kernel_rfl) (SumsOk.cons (fn := f31) S31_ok (by kernel_rfl) (by kernel_rfl) (by kernel_rfl) (SumsOk.cons (fn := f32) S32A_ok (by kernel_rfl) (by kernel_rfl) (by kernel_rfl) (SumsOk.cons (fn := f33) S33A_ok (by kernel_rfl) (by kernel_rfl) (by kernel_rfl) trivial))))))
noncomputable def R9A (ks ns ms ts : List Int) (m n : Nat) : Res := resG 4 [0,1,2,3] (runF eV6A f9 [] 400 [.agg [.slice 1 0 0 0 16 none, .slice 1 1 0 0 12 none, .slice 1 2 0 0 m none, .slice 1 3 0 0 n none]] [some ⟨.ints .u8 ks, 0, false, 5⟩, some ⟨.ints .u8 ns, 0, false, 5⟩, some ⟨.ints .u8 ms, 0, false, 5⟩, some ⟨.ints .u8 ts, 0, false, 5⟩] [some true, some true, some true, some true, some true, some true, some true, some true])
theorem R9A_ok {ks ns ms ts : List Int} {m n : Nat} (h : allP [.leN (0 + n) ts.length, .leN n 140737488355300, .leN 16 ks.length, .leN 12 ns.length, .leN (0 + m) ms.length, .leN m 140737488355300, .leN 16 (subLaw ks 0 16 ++ [201, 202]).length, .leN 12 (subLaw ns 0 12 ++ [201, 202]).length, .p (Bytes (subLaw ks 0 16 ++ [201, 202])), .p (Bytes (subLaw ns 0 12 ++ [201, 202])), .leN m (subLaw ms 0 m ++
 [201, 202]).length, .leN m 65536, .p (Bytes (subLaw ms 0 m ++ [201, 202])), .leN n (subLaw ts 0 n ++ [201, 202]).length, .leN n 65552, .p (Bytes (subLaw ts 0 n ++ [201, 202])), .leN 16 n, .p (tagLaw (subLaw (subLaw ks 0 16 ++ [201, 202]) 0 16) (subLaw (subLaw ns 0 12 ++ [201, 202]) 0 12) (subLaw ms 0 m ++ [201, 202]) m (subLaw ts 0 n ++ [201, 202]) (n - 16) = subLaw (subLaw ts 0 n ++ [201, 202]) (n
 - 16) 16), .leN 16 ks.length, .leN 12 ns.length, .p (Bytes ks), .p (Bytes ns), .leN m ms.length, .leN m 65536, .p (Bytes ms), .leN n ts.length, .leN n 65552, .p (Bytes ts), .leN 16 n, .p (rtagLaw (subLaw ks 0 16) (subLaw ns 0 12) (subLaw ms 0 m) m (subLaw ts 0 (n - 16)) (n - 16) = subLaw ts (n - 16) 16), .leN (0 + (n - 16)) (turnLaw (subLaw (subLaw ks 0 16 ++ [201, 202]) 0 16) (subLaw (subLaw ns 0
 12 ++ [201, 202]) 0 12) (subLaw (subLaw ts 0 n ++ [201, 202]) 0 (n - 16))).length, .eqN (n - 16 - 1) (n - 16 - 1), .leN (0 + (n - 16)) (udLaw (subLaw ks 0 16) (subLaw ns 0 12) ts (n - 16)).length, .p ((List.map byteOf (List.take (n - 16) (turnLaw (subLaw (subLaw ks 0 16 ++ [201, 202]) 0 16) (subLaw (subLaw ns 0 12 ++ [201, 202]) 0 12) (subLaw (subLaw ts 0 n ++ [201, 202]) 0 (n - 16)))) == List.map
 byteOf (List.take (n - 16) (udLaw (subLaw ks 0 16) (subLaw ns 0 12) ts (n - 16)))) = true), .p (true = true), .rng (-9223372036854775808) ((↑n : Int) + 2) 9223372036854775807, .leI 0 ((↑n : Int) + 2), .leN 0 (n + 2), .orN (n + 2) n (0 + (n + 2)) (subLaw ts 0 n ++ [201, 202]).length, .leI 0 (↑n : Int), .leN 0 n, .orN n (n + 2) (0 + n) (subLaw ts 0 n ++ [201, 202]).length, .leN (0 + n) (subLaw ts 0 n
 ++ [201, 202]).length, .leN (0 + n) ts.length, .p ((List.map byteOf (List.take n (subLaw ts 0 n ++ [201, 202])) == List.map byteOf (List.take n ts)) = true), .leI 0 (↑n : Int), .leI ((↑n : Int) + 1) (↑(n + 2) : Int), .leN (n + 1) (subLaw ts 0 n ++ [201, 202]).length, .p (((subLaw ts 0 n ++ [201, 202]).getD n 0 == 201) = true), .rng (-9223372036854775808) ((↑n : Int) + 1) 9223372036854775807, .leI 0
 ((↑n : Int) + 1), .leI ((↑n : Int) + 1 + 1) (↑(n + 2) : Int), .leN (n + 1 + 1) (subLaw ts 0 n ++ [201, 202]).length, .p (((subLaw ts 0 n ++ [201, 202]).getD (n + 1) 0 == 202) = true), .p (true = true), .p (true = true)]) : OkR (R9A ks ns ms ts m n) := OkR.dem (fl := bitsF 146 809048755622755451888967564130122567737119) (by kernel_rfl) (by kernel_rfl) (by kernel_rfl) h
theorem R9A_val {ks ns ms ts : List Int} {m n : Nat} : (R9A ks ns ms ts m n).val = .bool true := by kernel_rfl
theorem R9A_tab {ks ns ms ts : List Int} {m n : Nat} : (R9A ks ns ms ts m n).tab = [some ⟨.ints .u8 ks, 0, false, 5⟩, some ⟨.ints .u8 ns, 0, false, 5⟩, some ⟨.ints .u8 ms, 0, false, 5⟩, some ⟨.ints .u8 ts, 0, false, 5⟩] := by kernel_rfl
noncomputable def eV6X : Env := eA [(18, S18), (22, S22), (30, S30), (31, S31), (32, S32X), (33, S33X)]
theorem eV6X_ok : EnvOk eV6X := envOf_ok tysA_ok (SumsOk.cons (fn := f18) S18_ok (by kernel_rfl) (by kernel_rfl) (by kernel_rfl) (SumsOk.cons (fn := f22) S22_ok (by kernel_rfl) (by kernel_rfl) (by kernel_rfl) (SumsOk.cons (fn := f30) S30_ok (by kernel_rfl) (by kernel_rfl) (by kernel_rfl) (SumsOk.cons (fn := f31) S31_ok (by kernel_rfl) (by kernel_rfl) (by kernel_rfl) (SumsOk.cons (fn := f32) S32X_ok (by kernel_rfl) (by kernel_rfl) (by kernel_rfl) (SumsOk.cons (fn := f33) S33X_ok (by kernel_rfl) (by kernel_rfl) (by kernel_rfl) trivial))))))
noncomputable def R9X (ks ns ms ts : List Int) (m n : Nat) : Res := resG 4 [0,1,2,3] (runF eV6X f9 [] 400 [.agg [.slice 1 0 0 0 16 none, .slice 1 1 0 0 12 none, .slice 1 2 0 0 m none, .slice 1 3 0 0 n none]] [some ⟨.ints .u8 ks, 0, false, 5⟩, some ⟨.ints .u8 ns, 0, false, 5⟩, some ⟨.ints .u8 ms, 0, false, 5⟩, some ⟨.ints .u8 ts, 0, false, 5⟩] [some true, some true, some true, some true, some true, some true, some true, some true])
theorem R9X_ok {ks ns ms ts : List Int} {m n : Nat} (h : allP [.leN (0 + n) ts.length, .leN n 140737488355300, .leN 16 ks.length, .leN 12 ns.length, .leN (0 + m) ms.length, .leN m 140737488355300, .leN 16 (subLaw ks 0 16 ++ [201, 202]).length, .leN 12 (subLaw ns 0 12 ++ [201, 202]).length, .p (Bytes (subLaw ks 0 16 ++ [201, 202])), .p (Bytes (subLaw ns 0 12 ++ [201, 202])), .leN m (subLaw ms 0 m ++
 [201, 202]).length, .leN m 65536, .p (Bytes (subLaw ms 0 m ++ [201, 202])), .leN n (subLaw ts 0 n ++ [201, 202]).length, .leN n 65552, .p (Bytes (subLaw ts 0 n ++ [201, 202])), .leN 16 n, .p (tagLaw (subLaw (subLaw ks 0 16 ++ [201, 202]) 0 16) (subLaw (subLaw ns 0 12 ++ [201, 202]) 0 12) (subLaw ms 0 m ++ [201, 202]) m (subLaw ts 0 n ++ [201, 202]) (n - 16) ≠ subLaw (subLaw ts 0 n ++ [201, 202]) (n
 - 16) 16), .leN 16 ks.length, .leN 12 ns.length, .p (Bytes ks), .p (Bytes ns), .leN m ms.length, .leN m 65536, .p (Bytes ms), .leN n ts.length, .leN n 65552, .p (Bytes ts), .leN 16 n, .p (rtagLaw (subLaw ks 0 16) (subLaw ns 0 12) (subLaw ms 0 m) m (subLaw ts 0 (n - 16)) (n - 16) ≠ subLaw ts (n - 16) 16), .p (true = true), .p (true = true), .rng (-9223372036854775808) ((↑n : Int) + 2)
 9223372036854775807, .leI 0 ((↑n : Int) + 2), .leN 0 (n + 2), .orN (n + 2) n (0 + (n + 2)) (subLaw ts 0 n ++ [201, 202]).length, .leI 0 (↑n : Int), .leN 0 n, .orN n (n + 2) (0 + n) (subLaw ts 0 n ++ [201, 202]).length, .leN (0 + n) (subLaw ts 0 n ++ [201, 202]).length, .leN (0 + n) ts.length, .p ((List.map byteOf (List.take n (subLaw ts 0 n ++ [201, 202])) == List.map byteOf (List.take n ts)) =
 true), .leI 0 (↑n : Int), .leI ((↑n : Int) + 1) (↑(n + 2) : Int), .leN (n + 1) (subLaw ts 0 n ++ [201, 202]).length, .p (((subLaw ts 0 n ++ [201, 202]).getD n 0 == 201) = true), .rng (-9223372036854775808) ((↑n : Int) + 1) 9223372036854775807, .leI 0 ((↑n : Int) + 1), .leI ((↑n : Int) + 1 + 1) (↑(n + 2) : Int), .leN (n + 1 + 1) (subLaw ts 0 n ++ [201, 202]).length, .p (((subLaw ts 0 n ++ [201,
 202]).getD (n + 1) 0 == 202) = true), .p (true = true), .p (true = true)]) : OkR (R9X ks ns ms ts m n) := OkR.dem (fl := bitsF 142 50565547226382637929024542553130286145311) (by kernel_rfl) (by kernel_rfl) (by kernel_rfl) h
theorem R9X_val {ks ns ms ts : List Int} {m n : Nat} : (R9X ks ns ms ts m n).val = .bool true := by kernel_rfl
theorem R9X_tab {ks ns ms ts : List Int} {m n : Nat} : (R9X ks ns ms ts m n).tab = [some ⟨.ints .u8 ks, 0, false, 5⟩, some ⟨.ints .u8 ns, 0, false, 5⟩, some ⟨.ints .u8 ms, 0, false, 5⟩, some ⟨.ints .u8 ts, 0, false, 5⟩] := by kernel_rfl
noncomputable def eV6s : Env := eA [(18, S18), (22, S22), (30, S30), (31, S31), (32, S32s), (33, S33s)]
theorem eV6s_ok : EnvOk eV6s := envOf_ok tysA_ok (SumsOk.cons (fn := f18) S18_ok (by kernel_rfl) (by kernel_rfl) (by kernel_rfl) (SumsOk.cons (fn := f22) S22_ok (by kernel_rfl) (by kernel_rfl) (by kernel_rfl) (SumsOk.cons (fn := f30) S30_ok (by kernel_rfl) (by kernel_rfl) (by kernel_rfl) (SumsOk.cons (fn := f31) S31_ok (by kernel_rfl) (by kernel_rfl) (by kernel_rfl) (SumsOk.cons (fn := f32) S32s_ok (by kernel_rfl) (by kernel_rfl) (by kernel_rfl) (SumsOk.cons (fn := f33) S33s_ok (by kernel_rfl) (by kernel_rfl) (by kernel_rfl) trivial))))))
noncomputable def R9s (ks ns ms ts : List Int) (m n : Nat) : Res := resG 4 [0,1,2,3] (runF eV6s f9 [] 400 [.agg [.slice 1 0 0 0 16 none, .slice 1 1 0 0 12 none, .slice 1 2 0 0 m none, .slice 1 3 0 0 n none]] [some ⟨.ints .u8 ks, 0, false, 5⟩, some ⟨.ints .u8 ns, 0, false, 5⟩, some ⟨.ints .u8 ms, 0, false, 5⟩, some ⟨.ints .u8 ts, 0, false, 5⟩] [some true, some true, some true, some true, some true, some true, some true, some true])
theorem R9s_ok {ks ns ms ts : List Int} {m n : Nat} (h : allP [.leN (0 + n) ts.length, .leN n 140737488355300, .leN 16 ks.length, .leN 12 ns.length, .leN (0 + m) ms.length, .leN m 140737488355300, .leN m 65536, .p (n < 16), .leN m 65536, .p (n < 16), .p (true = true), .p (true = true), .rng (-9223372036854775808) ((↑n : Int) + 2) 9223372036854775807, .leI 0 ((↑n : Int) + 2), .leN 0 (n + 2), .orN (n
 + 2) n (0 + (n + 2)) (subLaw ts 0 n ++ [201, 202]).length, .leI 0 (↑n : Int), .leN 0 n, .orN n (n + 2) (0 + n) (subLaw ts 0 n ++ [201, 202]).length, .leN (0 + n) (subLaw ts 0 n ++ [201, 202]).length, .leN (0 + n) ts.length, .p ((List.map byteOf (List.take n (subLaw ts 0 n ++ [201, 202])) == List.map byteOf (List.take n ts)) = true), .leI 0 (↑n : Int), .leI ((↑n : Int) + 1) (↑(n + 2) : Int), .leN (n
 + 1) (subLaw ts 0 n ++ [201, 202]).length, .p (((subLaw ts 0 n ++ [201, 202]).getD n 0 == 201) = true), .rng (-9223372036854775808) ((↑n : Int) + 1) 9223372036854775807, .leI 0 ((↑n : Int) + 1), .leI ((↑n : Int) + 1 + 1) (↑(n + 2) : Int), .leN (n + 1 + 1) (subLaw ts 0 n ++ [201, 202]).length, .p (((subLaw ts 0 n ++ [201, 202]).getD (n + 1) 0 == 202) = true), .p (true = true), .p (true = true)]) :
 OkR (R9s ks ns ms ts m n) := OkR.dem (fl := bitsF 122 48223063684866154421336680903171871) (by kernel_rfl) (by kernel_rfl) (by kernel_rfl) h
theorem R9s_val {ks ns ms ts : List Int} {m n : Nat} : (R9s ks ns ms ts m n).val = .bool true := by kernel_rfl
theorem R9s_tab {ks ns ms ts : List Int} {m n : Nat} : (R9s ks ns ms ts m n).tab = [some ⟨.ints .u8 ks, 0, false, 5⟩, some ⟨.ints .u8 ns, 0, false, 5⟩, some ⟨.ints .u8 ms, 0, false, 5⟩, some ⟨.ints .u8 ts, 0, false, 5⟩] := by kernel_rfl
noncomputable def eV6x : Env := eA [(18, S18), (22, S22), (30, S30), (31, S31), (32, S32x), (33, S33x)]
theorem eV6x_ok : EnvOk eV6x := envOf_ok tysA_ok (SumsOk.cons (fn := f18) S18_ok (by kernel_rfl) (by kernel_rfl) (by kernel_rfl) (SumsOk.cons (fn := f22) S22_ok (by kernel_rfl) (by kernel_rfl) (by kernel_rfl) (SumsOk.cons (fn := f30) S30_ok (by kernel_rfl) (by kernel_rfl) (by kernel_rfl) (SumsOk.cons (fn := f31) S31_ok (by kernel_rfl) (by kernel_rfl) (by kernel_rfl) (SumsOk.cons (fn := f32) S32x_ok (by kernel_rfl) (by kernel_rfl) (by kernel_rfl) (SumsOk.cons (fn := f33) S33x_ok (by kernel_rfl) (by kernel_rfl) (by kernel_rfl) trivial))))))
noncomputable def R9x (ks ns ms ts : List Int) (m n : Nat) (nk nn : Nat) : Res := resG 4 [0,1,2,3] (runF eV6x f9 [] 400 [.agg [.slice 1 0 0 0 nk none, .slice 1 1 0 0 nn none, .slice 1 2 0 0 m none, .slice 1 3 0 0 n none]] [some ⟨.ints .u8 ks, 0, false, 5⟩, some ⟨.ints .u8 ns, 0, false, 5⟩, some ⟨.ints .u8 ms, 0, false, 5⟩, some ⟨.ints .u8 ts, 0, false, 5⟩] [some true, some true, some true, some true, some true, some true, some true, some true])
theorem R9x_ok {ks ns ms ts : List Int} {m n : Nat} {nk nn : Nat} (h : allP [.leN (0 + n) ts.length, .leN n 140737488355300, .leN (0 + nk) ks.length, .leN nk 140737488355300, .leN (0 + nn) ns.length, .leN nn 140737488355300, .leN (0 + m) ms.length, .leN m 140737488355300, .p (nk ≠ 16 ∨ nn ≠ 12), .p (nk ≠ 16 ∨ nn ≠ 12), .p (true = true), .p (true = true), .rng (-9223372036854775808) ((↑n : Int) + 2)
 9223372036854775807, .leI 0 ((↑n : Int) + 2), .leN 0 (n + 2), .orN (n + 2) n (0 + (n + 2)) (subLaw ts 0 n ++ [201, 202]).length, .leI 0 (↑n : Int), .leN 0 n, .orN n (n + 2) (0 + n) (subLaw ts 0 n ++ [201, 202]).length, .leN (0 + n) (subLaw ts 0 n ++ [201, 202]).length, .leN (0 + n) ts.length, .p ((List.map byteOf (List.take n (subLaw ts 0 n ++ [201, 202])) == List.map byteOf (List.take n ts)) =
 true), .leI 0 (↑n : Int), .leI ((↑n : Int) + 1) (↑(n + 2) : Int), .leN (n + 1) (subLaw ts 0 n ++ [201, 202]).length, .p (((subLaw ts 0 n ++ [201, 202]).getD n 0 == 201) = true), .rng (-9223372036854775808) ((↑n : Int) + 1) 9223372036854775807, .leI 0 ((↑n : Int) + 1), .leI ((↑n : Int) + 1 + 1) (↑(n + 2) : Int), .leN (n + 1 + 1) (subLaw ts 0 n ++ [201, 202]).length, .p (((subLaw ts 0 n ++ [201,
 202]).getD (n + 1) 0 == 202) = true), .p (true = true), .p (true = true)]) : OkR (R9x ks ns ms ts m n nk nn) := OkR.dem (fl := bitsF 120 12055765921225983206862425660530463) (by kernel_rfl) (by kernel_rfl) (by kernel_rfl) h
theorem R9x_val {ks ns ms ts : List Int} {m n : Nat} {nk nn : Nat} : (R9x ks ns ms ts m n nk nn).val = .bool true := by kernel_rfl
theorem R9x_tab {ks ns ms ts : List Int} {m n : Nat} {nk nn : Nat} : (R9x ks ns ms ts m n nk nn).tab = [some ⟨.ints .u8 ks, 0, false, 5⟩, some ⟨.ints .u8 ns, 0, false, 5⟩, some ⟨.ints .u8 ms, 0, false, 5⟩, some ⟨.ints .u8 ts, 0, false, 5⟩] := by kernel_rfl
noncomputable def eV6y : Env := eA [(18, S18), (22, S22), (30, S30), (31, S31), (32, S32y), (33, S33y)]
theorem eV6y_ok : EnvOk eV6y := envOf_ok tysA_ok (SumsOk.cons (fn := f18) S18_ok (by kernel_rfl) (by kernel_rfl) (by kernel_rfl) (SumsOk.cons (fn := f22) S22_ok (by kernel_rfl) (by kernel_rfl) (by kernel_rfl) (SumsOk.cons (fn := f30) S30_ok (by kernel_rfl) (by kernel_rfl) (by kernel_rfl) (SumsOk.cons (fn := f31) S31_ok (by kernel_rfl) (by kernel_rfl) (by kernel_rfl) (SumsOk.cons (fn := f32) S32y_ok (by kernel_rfl) (by kernel_rfl) (by kernel_rfl) (SumsOk.cons (fn := f33) S33y_ok (by kernel_rfl) (by kernel_rfl) (by kernel_rfl) trivial))))))
noncomputable def R9y (ks ns ms ts : List Int) (m n : Nat) : Res := resG 4 [0,1,2,3] (runF eV6y f9 [] 400 [.agg [.slice 1 0 0 0 16 none, .slice 1 1 0 0 12 none, .slice 1 2 0 0 m none, .slice 1 3 0 0 n none]] [some ⟨.ints .u8 ks, 0, false, 5⟩, some ⟨.ints .u8 ns, 0, false, 5⟩, some ⟨.ints .u8 ms, 0, false, 5⟩, some ⟨.ints .u8 ts, 0, false, 5⟩] [some true, some true, some true, some true, some true, some true, some true, some true])
theorem R9y_ok {ks ns ms ts : List Int} {m n : Nat} (h : allP [.leN (0 + n) ts.length, .leN n 140737488355300, .leN 16 ks.length, .leN 12 ns.length, .leN (0 + m) ms.length, .leN m 140737488355300, .p (65536 < m ∨ 65552 < n), .p (65536 < m ∨ 65552 < n), .p (true = true), .p (true = true), .rng (-9223372036854775808) ((↑n : Int) + 2) 9223372036854775807, .leI 0 ((↑n : Int) + 2), .leN 0 (n + 2), .orN
 (n + 2) n (0 + (n + 2)) (subLaw ts 0 n ++ [201, 202]).length, .leI 0 (↑n : Int), .leN 0 n, .orN n (n + 2) (0 + n) (subLaw ts 0 n ++ [201, 202]).length, .leN (0 + n) (subLaw ts 0 n ++ [201, 202]).length, .leN (0 + n) ts.length, .p ((List.map byteOf (List.take n (subLaw ts 0 n ++ [201, 202])) == List.map byteOf (List.take n ts)) = true), .leI 0 (↑n : Int), .leI ((↑n : Int) + 1) (↑(n + 2) : Int), .leN
 (n + 1) (subLaw ts 0 n ++ [201, 202]).length, .p (((subLaw ts 0 n ++ [201, 202]).getD n 0 == 201) = true), .rng (-9223372036854775808) ((↑n : Int) + 1) 9223372036854775807, .leI 0 ((↑n : Int) + 1), .leI ((↑n : Int) + 1 + 1) (↑(n + 2) : Int), .leN (n + 1 + 1) (subLaw ts 0 n ++ [201, 202]).length, .p (((subLaw ts 0 n ++ [201, 202]).getD (n + 1) 0 == 202) = true), .p (true = true), .p (true = true)])
 : OkR (R9y ks ns ms ts m n) := OkR.dem (fl := bitsF 120 12055765921225983206862425794764575) (by kernel_rfl) (by kernel_rfl) (by kernel_rfl) h
theorem R9y_val {ks ns ms ts : List Int} {m n : Nat} : (R9y ks ns ms ts m n).val = .bool true := by kernel_rfl
theorem R9y_tab {ks ns ms ts : List Int} {m n : Nat} : (R9y ks ns ms ts m n).tab = [some ⟨.ints .u8 ks, 0, false, 5⟩, some ⟨.ints .u8 ns, 0, false, 5⟩, some ⟨.ints .u8 ms, 0, false, 5⟩, some ⟨.ints .u8 ts, 0, false, 5⟩] := by kernel_rfl
end Go.Abs

set_option linter.unusedVariables false
set_option linter.unusedSimpArgs false
set_option maxRecDepth 8000
namespace Go.Abs
open Go.Proofs.Try
/-! ### GcmOpens -/
theorem lent_part {zs : List Int} {n a b : Nat} (hn : n ≤ zs.length) (h : a + b ≤ n) (x : List Int) : subLaw (subLaw zs 0 n ++ x) a b = subLaw zs a b := by
  have hl : (subLaw zs 0 n).length = n := subLaw_len (by omega)
  unfold subLaw at hl ⊢
  rw [List.drop_append_of_le_length (by omega), List.take_append_of_le_length (by rw [List.length_drop]; omega), List.drop_zero, List.drop_take, List.take_take, Nat.min_eq_left (by omega)]
theorem law9 {ks ns ms ts : List Int} {nk nn m n : Nat} (kn : nk ≤ ks.length) (kz : ∀ z ∈ ks, 0 ≤ z ∧ z < 256) (km : ks.length ≤ 140737488351232) (nn' : nn ≤ ns.length) (nz : ∀ z ∈ ns, 0 ≤ z ∧ z < 256) (nm : ns.length ≤ 140737488351232) (mn : m ≤ ms.length) (mz : ∀ z ∈ ms, 0 ≤ z ∧ z < 256) (mm : ms.length ≤ 140737488351232) (tn : n ≤ ts.length) (tz : ∀ z ∈ ts, 0 ≤ z ∧ z < 256) (tm : ts.length ≤ 140737488351232) :
    Small prog (fun _ => none) 9 [.agg [.slice 1 0 0 0 nk none, .slice 1 1 0 0 nn none, .slice 1 2 0 0 m none, .slice 1 3 0 0 n none]] [some ⟨.ints .u8 ks, 0, false, 5⟩, some ⟨.ints .u8 ns, 0, false, 5⟩, some ⟨.ints .u8 ms, 0, false, 5⟩, some ⟨.ints .u8 ts, 0, false, 5⟩] (.bool true) [some ⟨.ints .u8 ks, 0, false, 5⟩, some ⟨.ints .u8 ns, 0, false, 5⟩, some ⟨.ints .u8 ms, 0, false, 5⟩, some ⟨.ints .u8 ts, 0, false, 5⟩] := by
  have lm : (subLaw ms 0 m).length = m := subLaw_len (by omega)
  have lt : (subLaw ts 0 n).length = n := subLaw_len (by omega)
  have lk : (subLaw ks 0 nk).length = nk := subLaw_len (by omega)
  have ln : (subLaw ns 0 nn).length = nn := subLaw_len (by omega)
  have em := lent_take mn
  have et := lent_take tn
  have em0 := lent_a mn
  have em1 := lent_b mn
  have et0 := lent_a tn
  have et1 := lent_b tn
  have bk := Bytes.of kz
  have bn := Bytes.of nz
  have bm := Bytes.of mz
  have bt := Bytes.of tz
  by_cases h : nk = 16 ∧ nn = 12
  · obtain ⟨rfl, rfl⟩ := h
    have qk := lent_bytes bk 16
    have qn := lent_bytes bn 12
    have qm := lent_bytes bm m
    have qt := lent_bytes bt n
    by_cases hy : 65536 < m ∨ 65552 < n
    · refine small_ofG (keep := [0,1,2,3]) (R := R9y ks ns ms ts m n) eV6y_ok hmA (f := 9) (fn := f9) (by kernel_rfl) (by kernel_rfl) FnOrc.nil rfl (R9y_ok ?_) R9y_val R9y_tab
      simp only [allP, Con.h, em, et, em0, em1, et0, et1, lm, lt, hy, beq_self_eq_true, List.length_append, List.length_cons, List.length_nil, eq_self, true_and, and_true, Nat.zero_add, Nat.reduceAdd]
      omega
    by_cases hs : n < 16
    · refine small_ofG (keep := [0,1,2,3]) (R := R9s ks ns ms ts m n) eV6s_ok hmA (f := 9) (fn := f9) (by kernel_rfl) (by kernel_rfl) FnOrc.nil rfl (R9s_ok ?_) R9s_val R9s_tab
      simp only [allP, Con.h, em, et, em0, em1, et0, et1, lm, lt, hs, beq_self_eq_true, List.length_append, List.length_cons, List.length_nil, eq_self, true_and, and_true, Nat.zero_add, Nat.reduceAdd]
      omega
    have e : tagLaw (subLaw ks 0 16) (subLaw ns 0 12) (subLaw ms 0 m ++ [201, 202]) m (subLaw ts 0 n ++ [201, 202]) (n - 16) = rtagLaw (subLaw ks 0 16) (subLaw ns 0 12) (subLaw ms 0 m) m (subLaw ts 0 (n - 16)) (n - 16) := by
      rw [tag_eq (by rw [List.length_append, lm]; omega) (by rw [List.length_append, lt]; omega) qm qt (sub_bytes bk 0 16) (sub_bytes bn 0 12) (by omega) (by omega), lent_sub mn, lent_part tn (by omega)]
    have e2 : subLaw (subLaw ts 0 n ++ [201, 202]) (n - 16) 16 = subLaw ts (n - 16) 16 := lent_part tn (by omega) _
    by_cases ht : rtagLaw (subLaw ks 0 16) (subLaw ns 0 12) (subLaw ms 0 m) m (subLaw ts 0 (n - 16)) (n - 16) = subLaw ts (n - 16) 16
    · have e3 : turnLaw (subLaw ks 0 16) (subLaw ns 0 12) (subLaw ts 0 (n - 16)) = udLaw (subLaw ks 0 16) (subLaw ns 0 12) ts (n - 16) := turn_eq _ _ (by omega)
      have lu := ud_len (subLaw ks 0 16) (subLaw ns 0 12) ts (n - 16)
      refine small_ofG (keep := [0,1,2,3]) (R := R9A ks ns ms ts m n) eV6A_ok hmA (f := 9) (fn := f9) (by kernel_rfl) (by kernel_rfl) FnOrc.nil rfl (R9A_ok ?_) R9A_val R9A_tab
      rw [lent_sub kn, lent_sub nn', lent_part tn (by omega), e, e2, ht, e3]
      generalize udLaw (subLaw ks 0 16) (subLaw ns 0 12) ts (n - 16) = P at lu ⊢
      simp only [allP, Con.h, em, et, em0, em1, et0, et1, lm, lt, lk, ln, lu, bk, bn, bm, bt, qk, qn, qm, qt, beq_self_eq_true, List.length_append, List.length_cons, List.length_nil, eq_self, true_and, and_true, Nat.zero_add, Nat.reduceAdd]
      omega
    · refine small_ofG (keep := [0,1,2,3]) (R := R9X ks ns ms ts m n) eV6X_ok hmA (f := 9) (fn := f9) (by kernel_rfl) (by kernel_rfl) FnOrc.nil rfl (R9X_ok ?_) R9X_val R9X_tab
      rw [lent_sub kn, lent_sub nn', e, e2]
      simp only [allP, Con.h, em, et, em0, em1, et0, et1, lm, lt, ne_eq, ht, not_false_eq_true, lk, ln, bk, bn, bm, bt, qk, qn, qm, qt, beq_self_eq_true, List.length_append, List.length_cons, List.length_nil, eq_self, true_and, and_true, Nat.zero_add, Nat.reduceAdd]
      omega
  · have hne : nk ≠ 16 ∨ nn ≠ 12 := by omega
    refine small_ofG (keep := [0,1,2,3]) (R := R9x ks ns ms ts m n nk nn) eV6x_ok hmA (f := 9) (fn := f9) (by kernel_rfl) (by kernel_rfl) FnOrc.nil rfl (R9x_ok ?_) R9x_val R9x_tab
    simp only [allP, Con.h, em, et, em0, em1, et0, et1, lm, lt, hne, beq_self_eq_true, List.length_append, List.length_cons, List.length_nil, eq_self, true_and, and_true, Nat.zero_add, Nat.reduceAdd]
    omega
end Go.Abs
