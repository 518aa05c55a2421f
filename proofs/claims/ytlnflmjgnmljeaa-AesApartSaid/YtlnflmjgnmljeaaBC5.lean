/- What functions of the given program come to, by the abstract machine: one text of a proof. -/
import Derived.Test.YtlnflmjgnmljeaaBC4
set_option linter.unusedVariables false
set_option linter.unusedSimpArgs false
set_option maxRecDepth 8000
namespace Go.Abs
open Go.Proofs.Try
/-! ### what a block comes to -/
def encRLaw (ks s : List Int) (r : Nat) : List Int := plusLaw (if r = 10 then turnedLaw 1 (boxedLaw s) else mixLaw (turnedLaw 1 (boxedLaw s))) (subLaw ks (16 * r) 16)
def encLaw (ks s : List Int) : Nat → List Int
  | 0 => plusLaw s (subLaw ks 0 16)
  | r + 1 => encRLaw ks (encLaw ks s r) (r + 1)
def decRLaw (ks s : List Int) (r : Nat) : List Int := unboxedLaw (turnedLaw 3 (if r = 10 then plusLaw s (subLaw ks (16 * r) 16) else unmixLaw (plusLaw s (subLaw ks (16 * r) 16))))
def decLaw (ks s : List Int) : Nat → List Int
  | 0 => s
  | j + 1 => decRLaw ks (decLaw ks s j) (10 - j)
def blockLaw (ks s : List Int) : List Int := encLaw ks s 10
def unblockLaw (ks s : List Int) : List Int := plusLaw (decLaw ks s 10) (subLaw ks 0 16)
theorem plus_bytes {s k : List Int} (hs : Bytes s) (hk : Bytes k) : Bytes (plusLaw s k) := l16_bytes fun i _ => ixor_lt8 (hs.get i) (hk.get i)
theorem boxed_bytes {s : List Int} (hs : Bytes s) : Bytes (boxedLaw s) := l16_bytes fun i _ => boxLaw_rng (hs.get i)
theorem TAB_bytes : Bytes TABLaw := by
  have : ((List.range 512).all fun i => decide (0 ≤ TABLaw.getD i 0) && decide (TABLaw.getD i 0 < 256)) = true := by kernel_rfl
  intro i hi
  rw [TABLaw_len] at hi
  simpa using List.all_eq_true.1 this i (List.mem_range.2 hi)
theorem unboxed_bytes (s : List Int) : Bytes (unboxedLaw s) := l16_bytes fun i _ => TAB_bytes.get _
theorem mix_bytes (s : List Int) : Bytes (mixLaw s) := by
  show Bytes (mixByLaw timesLaw [2, 3, 1, 1] s); rw [← stLaw_end]; exact stLaw_bytes mOk_a 15 4
theorem unmix_bytes (s : List Int) : Bytes (unmixLaw s) := by
  show Bytes (mixByLaw timesLaw [14, 11, 13, 9] s); rw [← stLaw_end]; exact stLaw_bytes mOk_b 15 4
theorem sub_bytes {ks : List Int} (h : Bytes ks) (a n : Nat) : Bytes (subLaw ks a n) := (h.drop a).take n
theorem encR_bytes {ks s : List Int} (hk : Bytes ks) (hs : Bytes s) (r : Nat) : Bytes (encRLaw ks s r) := by
  unfold encRLaw
  refine plus_bytes ?_ (sub_bytes hk _ _)
  split
  · exact turned_bytes (boxed_bytes hs)
  · exact mix_bytes _
theorem encR_len (ks s : List Int) (r : Nat) : (encRLaw ks s r).length = 16 := rfl
theorem enc_bytes {ks s : List Int} (hk : Bytes ks) (hs : Bytes s) : ∀ r, Bytes (encLaw ks s r)
  | 0 => plus_bytes hs (sub_bytes hk _ _)
  | r + 1 => encR_bytes hk (enc_bytes hk hs r) _
theorem enc_len (ks s : List Int) : ∀ r, (encLaw ks s r).length = 16
  | 0 => rfl
  | r + 1 => rfl
theorem decR_bytes (ks s : List Int) (r : Nat) : Bytes (decRLaw ks s r) := unboxed_bytes _
theorem dec_bytes {ks s : List Int} (hs : Bytes s) : ∀ j, Bytes (decLaw ks s j)
  | 0 => hs
  | j + 1 => decR_bytes _ _ _
theorem dec_len {ks s : List Int} (hs : s.length = 16) : ∀ j, (decLaw ks s j).length = 16
  | 0 => hs
  | j + 1 => rfl
theorem sub_eq (ks : List Int) (a n : Nat) : List.take n (dropO a ks) = subLaw ks a n := by rw [dropO_eq]; rfl
theorem take_self {s : List Int} (h : s.length = 16) : List.take 16 s = s := List.take_of_length_le (by omega)
noncomputable def eP : Env := eA [(40, S40), (41, S41), (43, S43), (44, S44), (45, S45), (46, S46)]
theorem eP_ok : EnvOk eP := envOf_ok tysA_ok (SumsOk.cons (fn := f40) S40_ok (by kernel_rfl) (by kernel_rfl) (by kernel_rfl) (SumsOk.cons (fn := f41) S41_ok (by kernel_rfl) (by kernel_rfl) (by kernel_rfl) (SumsOk.cons (fn := f43) S43_ok (by kernel_rfl) (by kernel_rfl) (by kernel_rfl) (SumsOk.cons (fn := f44) S44_ok (by kernel_rfl) (by kernel_rfl) (by kernel_rfl) (SumsOk.cons (fn := f45) S45_ok (by kernel_rfl) (by kernel_rfl) (by kernel_rfl) (SumsOk.cons (fn := f46) S46_ok (by kernel_rfl) (by kernel_rfl) (by kernel_rfl) trivial))))))
noncomputable def eQ : Env := eA [(40, S40), (41, S41), (43, S43), (51, S51), (52, S52), (53, S53)]
theorem eQ_ok : EnvOk eQ := envOf_ok tysA_ok (SumsOk.cons (fn := f40) S40_ok (by kernel_rfl) (by kernel_rfl) (by kernel_rfl) (SumsOk.cons (fn := f41) S41_ok (by kernel_rfl) (by kernel_rfl) (by kernel_rfl) (SumsOk.cons (fn := f43) S43_ok (by kernel_rfl) (by kernel_rfl) (by kernel_rfl) (SumsOk.cons (fn := f51) S51_ok (by kernel_rfl) (by kernel_rfl) (by kernel_rfl) (SumsOk.cons (fn := f52) S52_ok (by kernel_rfl) (by kernel_rfl) (by kernel_rfl) (SumsOk.cons (fn := f53) S53_ok (by kernel_rfl) (by kernel_rfl) (by kernel_rfl) trivial))))))
noncomputable def A23 (r : Int) (s ks : List Int) (zs bs : List Int) (g0 g1 e1 : Nat) (ow0 ow1 : Bool) : Out := trim 5 5 [6,7,8,9] (run eP 57 ⟨5, []⟩ 400 (roundOf 0 f23) [(6, .var 2 0), (7, .var 3 0), (8, .var 4 0), (9, .int .i64 r)] [some ⟨.ints .u8 zs, g0, ow0, 5⟩, some ⟨.ints .u8 bs, g1, ow1, e1⟩, some ⟨.ints .u8 TABLaw, 0, true, 72⟩, some ⟨.ints .u8 ks, 0, true, 49⟩, some ⟨.ints .u8 s, 0, true, 48⟩] [some true, some false])
theorem A23_ok {r : Int} {s ks : List Int} {zs bs : List Int} {g0 g1 e1 : Nat} {ow0 ow1 : Bool} (h : allP [Con.p (decide (r < 11) = true), Con.p ((r == 10) = false), Con.eqN s.length 16, Con.eqN s.length 16, Con.p (Bytes s),
    Con.p (TABLaw = TABLaw), Con.eqN s.length 16, Con.p (Bytes (turnedLaw 1 (boxedLaw s))), Con.leI 0 r,
    Con.leI (r + 1) 11, Con.leN (r.toNat * 16 + 16) ks.length,
    Con.eqN (List.take 16 (dropO (r.toNat * 16) ks)).length 16, Con.p (Bytes (mixLaw (turnedLaw 1 (boxedLaw s)))),
    Con.p (Bytes (List.take 16 (dropO (r.toNat * 16) ks))), Con.rng (-9223372036854775808) (r + 1) 9223372036854775807]) : Ok (A23 r s ks zs bs g0 g1 e1 ow0 ow1) := Ok.dem (fl := [false, true, true, true, true, true, true, true, false, true, true, true, true, true, true, true, false, true, true,
    false, false, false, true, true, false, true, true, true, true, true, true, true, true, true, true, true, true,
    true, true, true, true, true, true, true, true, true, true, true, true, true, true, true, false, true, true, true,
    true, true, false, true, true, false, false, true, true, false, true, false, false, false, false, true, true, true,
    true, false, false]) (by kernel_rfl) (by kernel_rfl) (by kernel_rfl) h
theorem A23_ex {r : Int} {s ks : List Int} {zs bs : List Int} {g0 g1 e1 : Nat} {ow0 ow1 : Bool} : (A23 r s ks zs bs g0 g1 e1 ow0 ow1).ex = AExit.normal := by kernel_rfl
theorem A23_fm {r : Int} {s ks : List Int} {zs bs : List Int} {g0 g1 e1 : Nat} {ow0 ow1 : Bool} : (A23 r s ks zs bs g0 g1 e1 ow0 ow1).fm = [(6, AVal.var 2 0), (7, AVal.var 3 0), (8, AVal.var 4 0), (9, AVal.int IntKind.i64 (r + 1))] := by kernel_rfl
theorem A23_tab {r : Int} {s ks : List Int} {zs bs : List Int} {g0 g1 e1 : Nat} {ow0 ow1 : Bool} : (A23 r s ks zs bs g0 g1 e1 ow0 ow1).tab = [some { data := AVal.ints IntKind.u8 zs, g := g0, own := ow0, et := 5 },
    some { data := AVal.ints IntKind.u8 bs, g := g1, own := ow1, et := e1 },
    some { data := AVal.ints IntKind.u8 TABLaw, g := 0, own := true, et := 72 },
    some { data := AVal.ints IntKind.u8 ks, g := 0, own := true, et := 49 },
    some
      {
        data :=
          AVal.ints IntKind.u8 (plusLaw (mixLaw (turnedLaw 1 (boxedLaw s))) (List.take 16 (dropO (r.toNat * 16) ks))),
        g := 0, own := true, et := 48 }] := by kernel_rfl
noncomputable def C23 (r : Int) (s ks : List Int) (zs bs : List Int) (g0 g1 e1 : Nat) (ow0 ow1 : Bool) : Out := trim 5 5 [6,7,8,9] (run eP 57 ⟨5, []⟩ 400 (roundOf 0 f23) [(6, .var 2 0), (7, .var 3 0), (8, .var 4 0), (9, .int .i64 r)] [some ⟨.ints .u8 zs, g0, ow0, 5⟩, some ⟨.ints .u8 bs, g1, ow1, e1⟩, some ⟨.ints .u8 TABLaw, 0, true, 72⟩, some ⟨.ints .u8 ks, 0, true, 49⟩, some ⟨.ints .u8 s, 0, true, 48⟩] [some true, some true])
theorem C23_ok {r : Int} {s ks : List Int} {zs bs : List Int} {g0 g1 e1 : Nat} {ow0 ow1 : Bool} (h : allP [Con.p (decide (r < 11) = true), Con.p ((r == 10) = true), Con.eqN s.length 16, Con.eqN s.length 16, Con.p (Bytes s),
    Con.p (TABLaw = TABLaw), Con.eqN s.length 16, Con.leI 0 r, Con.leI (r + 1) 11,
    Con.leN (r.toNat * 16 + 16) ks.length, Con.eqN (List.take 16 (dropO (r.toNat * 16) ks)).length 16,
    Con.p (Bytes (turnedLaw 1 (boxedLaw s))), Con.p (Bytes (List.take 16 (dropO (r.toNat * 16) ks))),
    Con.rng (-9223372036854775808) (r + 1) 9223372036854775807]) : Ok (C23 r s ks zs bs g0 g1 e1 ow0 ow1) := Ok.dem (fl := [false, true, true, true, true, true, true, true, false, true, true, true, true, true, true, true, true, true, true,
    true, false, true, true, false, false, false, true, true, false, true, true, true, true, true, true, true, true,
    true, true, true, true, true, true, true, true, true, false, true, true, false, false, true, true, false, true,
    false, false, false, false, true, true, true, true, false, false]) (by kernel_rfl) (by kernel_rfl) (by kernel_rfl) h
theorem C23_ex {r : Int} {s ks : List Int} {zs bs : List Int} {g0 g1 e1 : Nat} {ow0 ow1 : Bool} : (C23 r s ks zs bs g0 g1 e1 ow0 ow1).ex = AExit.normal := by kernel_rfl
theorem C23_fm {r : Int} {s ks : List Int} {zs bs : List Int} {g0 g1 e1 : Nat} {ow0 ow1 : Bool} : (C23 r s ks zs bs g0 g1 e1 ow0 ow1).fm = [(6, AVal.var 2 0), (7, AVal.var 3 0), (8, AVal.var 4 0), (9, AVal.int IntKind.i64 (r + 1))] := by kernel_rfl
theorem C23_tab {r : Int} {s ks : List Int} {zs bs : List Int} {g0 g1 e1 : Nat} {ow0 ow1 : Bool} : (C23 r s ks zs bs g0 g1 e1 ow0 ow1).tab = [some { data := AVal.ints IntKind.u8 zs, g := g0, own := ow0, et := 5 },
    some { data := AVal.ints IntKind.u8 bs, g := g1, own := ow1, et := e1 },
    some { data := AVal.ints IntKind.u8 TABLaw, g := 0, own := true, et := 72 },
    some { data := AVal.ints IntKind.u8 ks, g := 0, own := true, et := 49 },
    some
      { data := AVal.ints IntKind.u8 (plusLaw (turnedLaw 1 (boxedLaw s)) (List.take 16 (dropO (r.toNat * 16) ks))),
        g := 0, own := true, et := 48 }] := by kernel_rfl
noncomputable def D23 (r : Int) (s ks : List Int) (zs bs : List Int) (g0 g1 e1 : Nat) (ow0 ow1 : Bool) : Out := trim 5 5 [8] (run eP 57 ⟨5, []⟩ 400 (roundOf 0 f23) [(6, .var 2 0), (7, .var 3 0), (8, .var 4 0), (9, .int .i64 r)] [some ⟨.ints .u8 zs, g0, ow0, 5⟩, some ⟨.ints .u8 bs, g1, ow1, e1⟩, some ⟨.ints .u8 TABLaw, 0, true, 72⟩, some ⟨.ints .u8 ks, 0, true, 49⟩, some ⟨.ints .u8 s, 0, true, 48⟩] [some false])
theorem D23_ok {r : Int} {s ks : List Int} {zs bs : List Int} {g0 g1 e1 : Nat} {ow0 ow1 : Bool} (h : allP [Con.p (decide (r < 11) = false)]) : Ok (D23 r s ks zs bs g0 g1 e1 ow0 ow1) := Ok.dem (fl := [false]) (by kernel_rfl) (by kernel_rfl) (by kernel_rfl) h
theorem D23_ex {r : Int} {s ks : List Int} {zs bs : List Int} {g0 g1 e1 : Nat} {ow0 ow1 : Bool} : (D23 r s ks zs bs g0 g1 e1 ow0 ow1).ex = AExit.exit 0 := by kernel_rfl
theorem D23_fm {r : Int} {s ks : List Int} {zs bs : List Int} {g0 g1 e1 : Nat} {ow0 ow1 : Bool} : (D23 r s ks zs bs g0 g1 e1 ow0 ow1).fm = [(8, AVal.var 4 0)] := by kernel_rfl
theorem D23_tab {r : Int} {s ks : List Int} {zs bs : List Int} {g0 g1 e1 : Nat} {ow0 ow1 : Bool} : (D23 r s ks zs bs g0 g1 e1 ow0 ow1).tab = [some { data := AVal.ints IntKind.u8 zs, g := g0, own := ow0, et := 5 },
    some { data := AVal.ints IntKind.u8 bs, g := g1, own := ow1, et := e1 },
    some { data := AVal.ints IntKind.u8 TABLaw, g := 0, own := true, et := 72 },
    some { data := AVal.ints IntKind.u8 ks, g := 0, own := true, et := 49 },
    some { data := AVal.ints IntKind.u8 s, g := 0, own := true, et := 48 }] := by kernel_rfl
noncomputable def A25 (r : Int) (s ks : List Int) (zs bs : List Int) (g0 g1 e1 : Nat) (ow0 ow1 : Bool) : Out := trim 5 5 [6,7,8,9] (run eQ 58 ⟨5, []⟩ 400 (roundOf 0 f25) [(6, .var 2 0), (7, .var 3 0), (8, .var 4 0), (9, .int .i64 r)] [some ⟨.ints .u8 zs, g0, ow0, 5⟩, some ⟨.ints .u8 bs, g1, ow1, e1⟩, some ⟨.ints .u8 TABLaw, 0, true, 72⟩, some ⟨.ints .u8 ks, 0, true, 49⟩, some ⟨.ints .u8 s, 0, true, 48⟩] [some true, some false])
theorem A25_ok {r : Int} {s ks : List Int} {zs bs : List Int} {g0 g1 e1 : Nat} {ow0 ow1 : Bool} (h : allP [Con.p (decide (0 < r) = true), Con.eqN s.length 16, Con.leI 0 r, Con.leI (r + 1) 11,
    Con.leN (r.toNat * 16 + 16) ks.length, Con.eqN s.length 16,
    Con.eqN (List.take 16 (dropO (r.toNat * 16) ks)).length 16, Con.p (Bytes s),
    Con.p (Bytes (List.take 16 (dropO (r.toNat * 16) ks))), Con.eqN s.length 16, Con.p ((r == 10) = false),
    Con.p (Bytes (plusLaw s (List.take 16 (dropO (r.toNat * 16) ks)))),
    Con.p (Bytes (turnedLaw 3 (unmixLaw (plusLaw s (List.take 16 (dropO (r.toNat * 16) ks)))))),
    Con.p (TABLaw = TABLaw), Con.rng (-9223372036854775808) (r - 1) 9223372036854775807]) : Ok (A25 r s ks zs bs g0 g1 e1 ow0 ow1) := Ok.dem (fl := [false, false, true, false, false, false, true, true, false, false, false, false, false, false, true, true, false,
    true, false, true, true, true, true, true, true, true, false, true, true, true, true, true, true, true, true, true,
    true, true, false, true, true, true, true, true, true, true, true, true, true, true, true, true, true, true, true,
    true, true, true, true, true, true, true, true, true, true, true, true, true, true, false, false, true, true, true,
    true, true, false]) (by kernel_rfl) (by kernel_rfl) (by kernel_rfl) h
theorem A25_ex {r : Int} {s ks : List Int} {zs bs : List Int} {g0 g1 e1 : Nat} {ow0 ow1 : Bool} : (A25 r s ks zs bs g0 g1 e1 ow0 ow1).ex = AExit.normal := by kernel_rfl
theorem A25_fm {r : Int} {s ks : List Int} {zs bs : List Int} {g0 g1 e1 : Nat} {ow0 ow1 : Bool} : (A25 r s ks zs bs g0 g1 e1 ow0 ow1).fm = [(6, AVal.var 2 0), (7, AVal.var 3 0), (8, AVal.var 4 0), (9, AVal.int IntKind.i64 (r - 1))] := by kernel_rfl
theorem A25_tab {r : Int} {s ks : List Int} {zs bs : List Int} {g0 g1 e1 : Nat} {ow0 ow1 : Bool} : (A25 r s ks zs bs g0 g1 e1 ow0 ow1).tab = [some { data := AVal.ints IntKind.u8 zs, g := g0, own := ow0, et := 5 },
    some { data := AVal.ints IntKind.u8 bs, g := g1, own := ow1, et := e1 },
    some { data := AVal.ints IntKind.u8 TABLaw, g := 0, own := true, et := 72 },
    some { data := AVal.ints IntKind.u8 ks, g := 0, own := true, et := 49 },
    some
      {
        data :=
          AVal.ints IntKind.u8
            (unboxedLaw (turnedLaw 3 (unmixLaw (plusLaw s (List.take 16 (dropO (r.toNat * 16) ks)))))),
        g := 0, own := true, et := 48 }] := by kernel_rfl
noncomputable def C25 (r : Int) (s ks : List Int) (zs bs : List Int) (g0 g1 e1 : Nat) (ow0 ow1 : Bool) : Out := trim 5 5 [6,7,8,9] (run eQ 58 ⟨5, []⟩ 400 (roundOf 0 f25) [(6, .var 2 0), (7, .var 3 0), (8, .var 4 0), (9, .int .i64 r)] [some ⟨.ints .u8 zs, g0, ow0, 5⟩, some ⟨.ints .u8 bs, g1, ow1, e1⟩, some ⟨.ints .u8 TABLaw, 0, true, 72⟩, some ⟨.ints .u8 ks, 0, true, 49⟩, some ⟨.ints .u8 s, 0, true, 48⟩] [some true, some true])
theorem C25_ok {r : Int} {s ks : List Int} {zs bs : List Int} {g0 g1 e1 : Nat} {ow0 ow1 : Bool} (h : allP [Con.p (decide (0 < r) = true), Con.eqN s.length 16, Con.leI 0 r, Con.leI (r + 1) 11,
    Con.leN (r.toNat * 16 + 16) ks.length, Con.eqN s.length 16,
    Con.eqN (List.take 16 (dropO (r.toNat * 16) ks)).length 16, Con.p (Bytes s),
    Con.p (Bytes (List.take 16 (dropO (r.toNat * 16) ks))), Con.eqN s.length 16, Con.p ((r == 10) = true),
    Con.p (Bytes (turnedLaw 3 (plusLaw s (List.take 16 (dropO (r.toNat * 16) ks))))), Con.p (TABLaw = TABLaw),
    Con.rng (-9223372036854775808) (r - 1) 9223372036854775807]) : Ok (C25 r s ks zs bs g0 g1 e1 ow0 ow1) := Ok.dem (fl := [false, false, true, false, false, false, true, true, false, false, false, false, false, false, true, true, false,
    true, false, true, true, true, true, true, true, true, false, true, true, true, true, true, true, true, true, true,
    true, true, true, true, true, true, true, true, true, true, true, true, true, true, true, true, true, true, true,
    true, false, false, true, true, true, true, true, false]) (by kernel_rfl) (by kernel_rfl) (by kernel_rfl) h
theorem C25_ex {r : Int} {s ks : List Int} {zs bs : List Int} {g0 g1 e1 : Nat} {ow0 ow1 : Bool} : (C25 r s ks zs bs g0 g1 e1 ow0 ow1).ex = AExit.normal := by kernel_rfl
theorem C25_fm {r : Int} {s ks : List Int} {zs bs : List Int} {g0 g1 e1 : Nat} {ow0 ow1 : Bool} : (C25 r s ks zs bs g0 g1 e1 ow0 ow1).fm = [(6, AVal.var 2 0), (7, AVal.var 3 0), (8, AVal.var 4 0), (9, AVal.int IntKind.i64 (r - 1))] := by kernel_rfl
theorem C25_tab {r : Int} {s ks : List Int} {zs bs : List Int} {g0 g1 e1 : Nat} {ow0 ow1 : Bool} : (C25 r s ks zs bs g0 g1 e1 ow0 ow1).tab = [some { data := AVal.ints IntKind.u8 zs, g := g0, own := ow0, et := 5 },
    some { data := AVal.ints IntKind.u8 bs, g := g1, own := ow1, et := e1 },
    some { data := AVal.ints IntKind.u8 TABLaw, g := 0, own := true, et := 72 },
    some { data := AVal.ints IntKind.u8 ks, g := 0, own := true, et := 49 },
    some
      { data := AVal.ints IntKind.u8 (unboxedLaw (turnedLaw 3 (plusLaw s (List.take 16 (dropO (r.toNat * 16) ks))))),
        g := 0, own := true, et := 48 }] := by kernel_rfl
noncomputable def D25 (r : Int) (s ks : List Int) (zs bs : List Int) (g0 g1 e1 : Nat) (ow0 ow1 : Bool) : Out := trim 5 5 [7,8] (run eQ 58 ⟨5, []⟩ 400 (roundOf 0 f25) [(6, .var 2 0), (7, .var 3 0), (8, .var 4 0), (9, .int .i64 r)] [some ⟨.ints .u8 zs, g0, ow0, 5⟩, some ⟨.ints .u8 bs, g1, ow1, e1⟩, some ⟨.ints .u8 TABLaw, 0, true, 72⟩, some ⟨.ints .u8 ks, 0, true, 49⟩, some ⟨.ints .u8 s, 0, true, 48⟩] [some false])
theorem D25_ok {r : Int} {s ks : List Int} {zs bs : List Int} {g0 g1 e1 : Nat} {ow0 ow1 : Bool} (h : allP [Con.p (decide (0 < r) = false)]) : Ok (D25 r s ks zs bs g0 g1 e1 ow0 ow1) := Ok.dem (fl := [false]) (by kernel_rfl) (by kernel_rfl) (by kernel_rfl) h
theorem D25_ex {r : Int} {s ks : List Int} {zs bs : List Int} {g0 g1 e1 : Nat} {ow0 ow1 : Bool} : (D25 r s ks zs bs g0 g1 e1 ow0 ow1).ex = AExit.exit 0 := by kernel_rfl
theorem D25_fm {r : Int} {s ks : List Int} {zs bs : List Int} {g0 g1 e1 : Nat} {ow0 ow1 : Bool} : (D25 r s ks zs bs g0 g1 e1 ow0 ow1).fm = [(7, AVal.var 3 0), (8, AVal.var 4 0)] := by kernel_rfl
theorem D25_tab {r : Int} {s ks : List Int} {zs bs : List Int} {g0 g1 e1 : Nat} {ow0 ow1 : Bool} : (D25 r s ks zs bs g0 g1 e1 ow0 ow1).tab = [some { data := AVal.ints IntKind.u8 zs, g := g0, own := ow0, et := 5 },
    some { data := AVal.ints IntKind.u8 bs, g := g1, own := ow1, et := e1 },
    some { data := AVal.ints IntKind.u8 TABLaw, g := 0, own := true, et := 72 },
    some { data := AVal.ints IntKind.u8 ks, g := 0, own := true, et := 49 },
    some { data := AVal.ints IntKind.u8 s, g := 0, own := true, et := 48 }] := by kernel_rfl
def T23 (ks zs bs : List Int) (g0 g1 e1 : Nat) (ow0 ow1 : Bool) (s : List Int) : Tab := [some ⟨.ints .u8 zs, g0, ow0, 5⟩, some ⟨.ints .u8 bs, g1, ow1, e1⟩, some ⟨.ints .u8 TABLaw, 0, true, 72⟩, some ⟨.ints .u8 ks, 0, true, 49⟩, some ⟨.ints .u8 s, 0, true, 48⟩]
def F23 (r : Int) : Fm := [(6, .var 2 0), (7, .var 3 0), (8, .var 4 0), (9, .int .i64 r)]
theorem loop23 {ks s : List Int} (hk : ks.length = 176) (hkb : Bytes ks) (hs : Bytes s) {zs bs : List Int} {g0 g1 e1 : Nat} {ow0 ow1 : Bool} :
    To eP 57 5 (.block 0 (.loop (roundOf 0 f23))) (F23 1) (T23 ks zs bs g0 g1 e1 ow0 ow1 (encLaw ks s 0)) .normal [(8, .var 4 0)] (T23 ks zs bs g0 g1 e1 ow0 ow1 (encLaw ks s 10)) := by
  refine To.rounds (fun i : Nat => F23 (i + 1 : Nat)) (fun i => T23 ks zs bs g0 g1 e1 ow0 ow1 (encLaw ks s i)) 10 (fun i hi => ?_)
    (To.of (o := D23 (11 : Nat) (encLaw ks s 10) ks zs bs g0 g1 e1 ow0 ow1) eP_ok hmA (Nat.le_refl 5) OrcOk.nil rfl (D23_ok (by simp [allP, Con.h])) D23_ex D23_fm D23_tab)
  have hl := enc_len ks s i
  have hb := enc_bytes hkb hs i
  have hb1 := turned_bytes (n := 1) (boxed_bytes hb)
  have hm := mix_bytes (turnedLaw 1 (boxedLaw (encLaw ks s i)))
  have hsl : (subLaw ks (16 * (i + 1)) 16).length = 16 := subLaw_len (by omega)
  have hsb := sub_bytes hkb (16 * (i + 1)) 16
  have q1 : List.take 16 (dropO (((i + 1 : Nat) : Int).toNat * 16) ks) = subLaw ks (16 * (i + 1)) 16 := by rw [sub_eq, Int.toNat_natCast, Nat.mul_comm]
  by_cases h : i = 9
  · subst h
    refine To.of (o := C23 (10 : Nat) (encLaw ks s 9) ks zs bs g0 g1 e1 ow0 ow1) eP_ok hmA (Nat.le_refl 5) OrcOk.nil rfl (C23_ok ?_) C23_ex C23_fm (by rw [C23_tab, q1]; rfl)
    rw [q1]
    simp only [allP, Con.h, hl, hb, hb1, hsl, hsb, hk, TABLaw_len, decide_eq_true_eq, eq_self, and_true, true_and]
    first | omega | exact ⟨by decide, by decide, by decide, by decide⟩ | simp
  · have hne : ((((i + 1 : Nat) : Int) == 10) = false) := by simp only [beq_eq_false_iff_ne, ne_eq]; omega
    refine To.of (o := A23 (i + 1 : Nat) (encLaw ks s i) ks zs bs g0 g1 e1 ow0 ow1) eP_ok hmA (Nat.le_refl 5) OrcOk.nil rfl (A23_ok ?_) A23_ex A23_fm ?_
    · rw [q1]
      simp only [allP, Con.h, hl, hb, hb1, hm, hsl, hsb, hk, hne, TABLaw_len, decide_eq_true_eq, eq_self, and_true, true_and, Int.toNat_natCast]
      omega
    · rw [A23_tab, q1]
      show _ = T23 ks zs bs g0 g1 e1 ow0 ow1 (encRLaw ks (encLaw ks s i) (i + 1))
      unfold encRLaw
      rw [if_neg (by omega)]
      rfl
def g23 : List AVal → Tab → Out := fun vs T => match vs, T with
  | [.var 2 0, .var 3 0, .var 4 0, .int .i64 r], [some ⟨.ints .u8 zs, g0, ow0, 5⟩, some ⟨.ints .u8 bs, g1, ow1, e1⟩, some ⟨.ints .u8 tb, 0, true, 72⟩, some ⟨.ints .u8 ks, 0, true, 49⟩, some ⟨.ints .u8 s, 0, true, 48⟩] =>
    ⟨[.rng 1 r 1, .p (tb = TABLaw), .eqN ks.length 176, .p (Bytes ks), .p (Bytes (subLaw bs 0 16)), .p (s = encLaw ks (subLaw bs 0 16) 0)], .normal, [(8, .var 4 0)],
      [some ⟨.ints .u8 zs, g0, ow0, 5⟩, some ⟨.ints .u8 bs, g1, ow1, e1⟩, some ⟨.ints .u8 tb, 0, true, 72⟩, some ⟨.ints .u8 ks, 0, true, 49⟩, some ⟨.ints .u8 (blockLaw ks (subLaw bs 0 16)), 0, true, 48⟩], []⟩
  | _, _ => failO
theorem g23_ok : BlkOk eP f23 0 (.loop (roundOf 0 f23)) (blkS 5 [6,7,8,9] g23) := by
  refine blkS_ok fun vs T h => ?_
  unfold g23 at h ⊢
  split at h
  · rename_i r zs g0 ow0 bs g1 ow1 e1 tb ks s
    obtain ⟨h1, h2, h3, h4, h5, h6, _⟩ := h.h
    simp only [Con.h] at h1 h2 h3 h4 h5 h6
    obtain rfl : r = 1 := by omega
    subst h2 h6
    exact loop23 h3 h4 h5
  · exact absurd h nofailO
/-! back -/
theorem loop25 {ks s : List Int} (hk : ks.length = 176) (hkb : Bytes ks) (hsl : s.length = 16) (hs : Bytes s) {zs bs : List Int} {g0 g1 e1 : Nat} {ow0 ow1 : Bool} :
    To eQ 58 5 (.block 0 (.loop (roundOf 0 f25))) (F23 10) (T23 ks zs bs g0 g1 e1 ow0 ow1 s) .normal [(7, .var 3 0), (8, .var 4 0)] (T23 ks zs bs g0 g1 e1 ow0 ow1 (decLaw ks s 10)) := by
  refine To.rounds (fun i : Nat => F23 (10 - i : Int)) (fun i => T23 ks zs bs g0 g1 e1 ow0 ow1 (decLaw ks s i)) 10 (fun i hi => ?_)
    (To.of (o := D25 (10 - (10 : Nat) : Int) (decLaw ks s 10) ks zs bs g0 g1 e1 ow0 ow1) eQ_ok hmA (Nat.le_refl 5) OrcOk.nil rfl (D25_ok (by simp [allP, Con.h])) D25_ex D25_fm D25_tab)
  have hl := dec_len hsl (ks := ks) i
  have hb := dec_bytes hs (ks := ks) i
  have hsl : (subLaw ks (16 * (10 - i)) 16).length = 16 := subLaw_len (by omega)
  have hsb := sub_bytes hkb (16 * (10 - i)) 16
  have hp := plus_bytes hb hsb
  have hu := unmix_bytes (plusLaw (decLaw ks s i) (subLaw ks (16 * (10 - i)) 16))
  have ht := turned_bytes (n := 3) hp
  have ht' := turned_bytes (n := 3) hu
  have q1 : List.take 16 (dropO ((10 - i : Int).toNat * 16) ks) = subLaw ks (16 * (10 - i)) 16 := by rw [sub_eq, show (10 - i : Int).toNat = 10 - i by omega, Nat.mul_comm]
  have q0 : (10 - i : Int) - 1 = 10 - ((i + 1 : Nat) : Int) := by omega
  by_cases h : i = 0
  · subst h
    refine To.of (o := C25 (10 - (0 : Nat) : Int) (decLaw ks s 0) ks zs bs g0 g1 e1 ow0 ow1) eQ_ok hmA (Nat.le_refl 5) OrcOk.nil rfl (C25_ok ?_) C25_ex (by rw [C25_fm, q0]; rfl) (by rw [C25_tab, q1]; rfl)
    rw [q1]
    simp only [allP, Con.h, hl, hb, hp, ht, hsl, hsb, hk, TABLaw_len, decide_eq_true_eq, eq_self, and_true, true_and]
    first | omega | exact ⟨by decide, by decide, by decide, by decide⟩ | simp
  · have hne : (((10 - (i : Int)) == 10) = false) := by simp only [beq_eq_false_iff_ne, ne_eq]; omega
    refine To.of (o := A25 (10 - i : Int) (decLaw ks s i) ks zs bs g0 g1 e1 ow0 ow1) eQ_ok hmA (Nat.le_refl 5) OrcOk.nil rfl (A25_ok ?_) A25_ex (by rw [A25_fm, q0]; rfl) ?_
    · rw [q1]
      simp only [allP, Con.h, hl, hb, hp, hu, ht, ht', hsl, hsb, hk, hne, TABLaw_len, decide_eq_true_eq, eq_self, and_true, true_and]
      omega
    · rw [A25_tab, q1]
      show _ = T23 ks zs bs g0 g1 e1 ow0 ow1 (decRLaw ks (decLaw ks s i) (10 - i))
      unfold decRLaw
      rw [if_neg (by omega)]
      rfl
def g25 : List AVal → Tab → Out := fun vs T => match vs, T with
  | [.var 2 0, .var 3 0, .var 4 0, .int .i64 r], [some ⟨.ints .u8 zs, g0, ow0, 5⟩, some ⟨.ints .u8 bs, g1, ow1, e1⟩, some ⟨.ints .u8 tb, 0, true, 72⟩, some ⟨.ints .u8 ks, 0, true, 49⟩, some ⟨.ints .u8 s, 0, true, 48⟩] =>
    ⟨[.rng 10 r 10, .p (tb = TABLaw), .eqN ks.length 176, .p (Bytes ks), .eqN s.length 16, .p (Bytes s)], .normal, [(7, .var 3 0), (8, .var 4 0)],
      [some ⟨.ints .u8 zs, g0, ow0, 5⟩, some ⟨.ints .u8 bs, g1, ow1, e1⟩, some ⟨.ints .u8 tb, 0, true, 72⟩, some ⟨.ints .u8 ks, 0, true, 49⟩, some ⟨.ints .u8 (decLaw ks s 10), 0, true, 48⟩], []⟩
  | _, _ => failO
theorem g25_ok : BlkOk eQ f25 0 (.loop (roundOf 0 f25)) (blkS 5 [6,7,8,9] g25) := by
  refine blkS_ok fun vs T h => ?_
  unfold g25 at h ⊢
  split at h
  · rename_i r zs g0 ow0 bs g1 ow1 e1 tb ks s
    obtain ⟨h1, h2, h3, h4, h5, h6, _⟩ := h.h
    simp only [Con.h] at h1 h2 h3 h4 h5 h6
    obtain rfl : r = 10 := by omega
    subst h2
    exact loop25 h3 h4 h5 h6
  · exact absurd h nofailO
end Go.Abs
