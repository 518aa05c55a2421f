/- What functions of the given program come to, by the abstract machine: one text of a proof. -/
import Derived.Test.YtlnflmjgnmljeaaBC12
set_option linter.unusedVariables false
set_option linter.unusedSimpArgs false
set_option maxRecDepth 8000
namespace Go.Abs
open Go.Proofs.Try
theorem sub_self {l : List Int} (h : l.length = 16) : subLaw l 0 16 = l := by unfold subLaw; rw [List.drop_zero, List.take_of_length_le (by omega)]
theorem block_len (ks s : List Int) : (blockLaw ks s).length = 16 := rfl
theorem unblock_len (ks s : List Int) : (unblockLaw ks s).length = 16 := rfl
theorem block_bytes {ks s : List Int} (hk : Bytes ks) (hs : Bytes s) : Bytes (blockLaw ks s) := enc_bytes hk hs 10
theorem unblock_bytes {ks s : List Int} (hk : Bytes ks) (hs : Bytes s) : Bytes (unblockLaw ks s) := plus_bytes (dec_bytes hs 10) (sub_bytes hk _ _)
theorem law6 {zs bs : List Int} {n m : Nat} (hn : n ≤ zs.length) (hz : ∀ z ∈ zs, 0 ≤ z ∧ z < 256) (hk : zs.length ≤ 140737488351232) (hm : m ≤ bs.length) (hb : ∀ z ∈ bs, 0 ≤ z ∧ z < 256) (hk' : bs.length ≤ 140737488351232) :
    Small prog (fun _ => none) 6 [.slice 1 0 0 0 n (some zs.length), .slice 1 1 0 0 m (some bs.length)] [some ⟨.ints .u8 zs, 0, false, 5⟩, some ⟨.ints .u8 bs, 0, false, 5⟩] (.bool true) [some ⟨.ints .u8 zs, 0, false, 5⟩, some ⟨.ints .u8 bs, 0, false, 5⟩] := by
  have a1 := sixLaw_len hn
  have a2 := sixLaw_bytes hn (Bytes.of hz)
  have b1 := sixLaw_len hm
  have b2 := sixLaw_bytes hm (Bytes.of hb)
  refine small_ofG (keep := [0,1]) (R := R6 zs bs n m) eT_ok hmA (f := 6) (fn := f6) (by kernel_rfl) (by kernel_rfl) FnOrc.nil rfl (R6_ok ?_) R6_val R6_tab
  generalize sixLaw zs n = k at a1 a2 ⊢
  generalize sixLaw bs m = s at b1 b2 ⊢
  rw [sub_self a1, sub_self b1, sub_self (block_len _ _), sub_self (unblock_len _ _), unblock_block (ksLaw_bytes a2 176) b1 b2, block_unblock (ksLaw_bytes a2 176) b1 b2]
  have c1 := block_bytes (ksLaw_bytes a2 176) b2
  have c2 := unblock_bytes (ksLaw_bytes a2 176) b2
  simp only [allP, Con.h, a1, a2, b1, b2, c1, c2, beq_self_eq_true, eq_self, true_and, and_true]
  omega
theorem byteOf_inj {a b : Int} (ha : 0 ≤ a ∧ a < 256) (hb : 0 ≤ b ∧ b < 256) (h : byteOf a = byteOf b) : a = b := by
  have := congrArg UInt8.toNat h
  simp only [byteOf, UInt8.toNat_ofNat'] at this
  omega
theorem bytes_inj : ∀ {l l' : List Int}, Bytes l → Bytes l' → List.map byteOf l = List.map byteOf l' → l = l'
  | [], [], _, _, _ => rfl
  | [], b :: l', _, _, h => by simp at h
  | a :: l, [], _, _, h => by simp at h
  | a :: l, b :: l', h1, h2, h => by
    simp only [List.map_cons, List.cons.injEq] at h
    have e : a = b := byteOf_inj (h1.get 0) (h2.get 0) h.1
    rw [e, bytes_inj (l := l) (l' := l') (fun i hi => h1.get (i + 1)) (fun i hi => h2.get (i + 1)) h.2]
theorem bytes_ne {l l' : List Int} (h1 : Bytes l) (h2 : Bytes l') (h : l ≠ l') : (List.map byteOf l == List.map byteOf l') = false := by
  rw [beq_eq_false_iff_ne]
  exact fun e => h (bytes_inj h1 h2 e)
theorem law7 {zs bs cs : List Int} {n m k : Nat} (hn : n ≤ zs.length) (hz : ∀ z ∈ zs, 0 ≤ z ∧ z < 256) (h0 : zs.length ≤ 140737488351232) (hm : m ≤ bs.length) (hb : ∀ z ∈ bs, 0 ≤ z ∧ z < 256) (h0' : bs.length ≤ 140737488351232) (hk : k ≤ cs.length) (hc : ∀ z ∈ cs, 0 ≤ z ∧ z < 256) (h0'' : cs.length ≤ 140737488351232) :
    Small prog (fun _ => none) 7 [.slice 1 0 0 0 n (some zs.length), .slice 1 1 0 0 m (some bs.length), .slice 1 2 0 0 k (some cs.length)] [some ⟨.ints .u8 zs, 0, false, 5⟩, some ⟨.ints .u8 bs, 0, false, 5⟩, some ⟨.ints .u8 cs, 0, false, 5⟩] (.bool true) [some ⟨.ints .u8 zs, 0, false, 5⟩, some ⟨.ints .u8 bs, 0, false, 5⟩, some ⟨.ints .u8 cs, 0, false, 5⟩] := by
  have a1 := sixLaw_len hn
  have a2 := sixLaw_bytes hn (Bytes.of hz)
  have b1 := sixLaw_len hm
  have b2 := sixLaw_bytes hm (Bytes.of hb)
  have c1 := sixLaw_len hk
  have c2 := sixLaw_bytes hk (Bytes.of hc)
  by_cases h : sixLaw bs m = sixLaw cs k
  · refine small_ofG (keep := [0,1,2]) (R := R7a zs bs cs n m k) eT_ok hmA (f := 7) (fn := f7) (by kernel_rfl) (by kernel_rfl) FnOrc.nil rfl (R7a_ok ?_) R7a_val R7a_tab
    rw [← h]
    generalize sixLaw zs n = q at a1 a2 ⊢
    generalize sixLaw bs m = s at b1 b2 ⊢
    rw [sub_self a1, sub_self b1]
    simp only [allP, Con.h, a1, a2, b1, b2, beq_self_eq_true, eq_self, true_and, and_true]
    omega
  · refine small_ofG (keep := [0,1,2]) (R := R7b zs bs cs n m k) eT_ok hmA (f := 7) (fn := f7) (by kernel_rfl) (by kernel_rfl) FnOrc.nil rfl (R7b_ok ?_) R7b_val R7b_tab
    generalize sixLaw zs n = q at a1 a2 h ⊢
    generalize sixLaw bs m = s at b1 b2 h ⊢
    generalize sixLaw cs k = t at c1 c2 h ⊢
    rw [sub_self a1, sub_self b1, sub_self c1, take_self b1, take_self c1, take_self (block_len _ _), take_self (block_len _ _), take_self (unblock_len _ _), take_self (unblock_len _ _)]
    have hk := ksLaw_bytes a2 176
    have e1 := bytes_ne b2 c2 h
    have e2 := bytes_ne (block_bytes hk b2) (block_bytes hk c2) (fun e => h (by rw [← unblock_block hk b1 b2, e, unblock_block hk c1 c2]))
    have e3 := bytes_ne (unblock_bytes hk b2) (unblock_bytes hk c2) (fun e => h (by rw [← block_unblock hk b1 b2, e, block_unblock hk c1 c2]))
    simp only [allP, Con.h, a1, a2, b1, b2, c1, c2, e1, e2, e3, beq_self_eq_true, eq_self, true_and, and_true]
    omega
end Go.Abs
