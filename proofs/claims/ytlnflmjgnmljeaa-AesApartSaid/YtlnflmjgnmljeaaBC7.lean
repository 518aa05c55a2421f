/- What functions of the given program come to, by the abstract machine: one text of a proof. -/
import Derived.Test.YtlnflmjgnmljeaaBC6
set_option linter.unusedVariables false
set_option linter.unusedSimpArgs false
set_option maxRecDepth 8000
namespace Go.Abs
open Go.Proofs.Try
/-! ### blocks, of the document -/
noncomputable def eR : Env := eA [(39, S39), (42, S42), (47, S47), (48, S48), (49, S49), (50, S50)]
theorem eR_ok : EnvOk eR := envOf_ok tysA_ok (SumsOk.cons (fn := f39) S39_ok (by kernel_rfl) (by kernel_rfl) (by kernel_rfl) (SumsOk.cons (fn := f42) S42_ok (by kernel_rfl) (by kernel_rfl) (by kernel_rfl) (SumsOk.cons (fn := f47) S47_ok (by kernel_rfl) (by kernel_rfl) (by kernel_rfl) (SumsOk.cons (fn := f48) S48_ok (by kernel_rfl) (by kernel_rfl) (by kernel_rfl) (SumsOk.cons (fn := f49) S49_ok (by kernel_rfl) (by kernel_rfl) (by kernel_rfl) (SumsOk.cons (fn := f50) S50_ok (by kernel_rfl) (by kernel_rfl) (by kernel_rfl) trivial))))))
noncomputable def A24 (r : Int) (s ks : List Int) (zs bs : List Int) (g0 g1 : Nat) (ow0 ow1 : Bool) : Out := trimG 2 [0,1,2,3,9] [6,7,8,9] (run eR 43 ⟨5, []⟩ 400 (roundOf 0 f24) [(6, .slice 1 2 256 0 256 none), (7, .slice 1 3 161 0 176 none), (8, .slice 1 4 15 0 16 none), (9, .int .i64 r)] [some ⟨.ints .u8 zs, g0, ow0, 5⟩, some ⟨.ints .u8 bs, g1, ow1, 5⟩, some ⟨.ints .u8 BOXLaw, 256, true, 5⟩, some ⟨.ints .u8 ks, 161, true, 5⟩, some ⟨.ints .u8 s, 15, true, 5⟩] [some true, some true])
theorem A24_ok {r : Int} {s ks : List Int} {zs bs : List Int} {g0 g1 : Nat} {ow0 ow1 : Bool} (h : allP [Con.p (decide (r ≤ 10) = true), Con.leN 16 s.length, Con.p (Bytes s), Con.p (byLaw 1),
    Con.p (decide (r < 10) = true), Con.p (Bytes (turnedLaw 1 (thruLaw BOXLaw s))), Con.p (colsLaw [2, 3, 1, 1]),
    Con.rng 0 r 10, Con.leN 176 ks.length,
    Con.p (Bytes (mixByLaw timesLaw [2, 3, 1, 1] (turnedLaw 1 (thruLaw BOXLaw s)))), Con.p (Bytes ks),
    Con.rng (-9223372036854775808) (r + 1) 9223372036854775807]) : Ok (A24 r s ks zs bs g0 g1 ow0 ow1) := Ok.dem (fl := [false, true, true, true, true, false, true, false, true, true, true, false, false, true, true, true, true, true, true,
    true, true, true, true, true, true, true, true, false, false, true, true, true, true, true, true, false, true,
    false, false, false, false]) (by kernel_rfl) (by kernel_rfl) (by kernel_rfl) h
theorem A24_ex {r : Int} {s ks : List Int} {zs bs : List Int} {g0 g1 : Nat} {ow0 ow1 : Bool} : (A24 r s ks zs bs g0 g1 ow0 ow1).ex = AExit.normal := by kernel_rfl
theorem A24_fm {r : Int} {s ks : List Int} {zs bs : List Int} {g0 g1 : Nat} {ow0 ow1 : Bool} : (A24 r s ks zs bs g0 g1 ow0 ow1).fm = [(6, AVal.slice 1 2 256 0 256 none), (7, AVal.slice 1 3 161 0 176 none), (8, AVal.slice 1 4 15 0 16 none),
    (9, AVal.int IntKind.i64 (r + 1))] := by kernel_rfl
theorem A24_tab {r : Int} {s ks : List Int} {zs bs : List Int} {g0 g1 : Nat} {ow0 ow1 : Bool} : (A24 r s ks zs bs g0 g1 ow0 ow1).tab = [some { data := AVal.ints IntKind.u8 zs, g := g0, own := ow0, et := 5 },
    some { data := AVal.ints IntKind.u8 bs, g := g1, own := ow1, et := 5 },
    some { data := AVal.ints IntKind.u8 BOXLaw, g := 256, own := true, et := 5 },
    some { data := AVal.ints IntKind.u8 ks, g := 161, own := true, et := 5 },
    some
      {
        data :=
          AVal.ints IntKind.u8
            (plusLaw (List.take 16 (mixByLaw timesLaw [2, 3, 1, 1] (turnedLaw 1 (thruLaw BOXLaw s))))
              (subLaw ks (16 * r.toNat) 16)),
        g := 15, own := true, et := 5 }] := by kernel_rfl
noncomputable def C24 (r : Int) (s ks : List Int) (zs bs : List Int) (g0 g1 : Nat) (ow0 ow1 : Bool) : Out := trimG 2 [0,1,2,3,7] [6,7,8,9] (run eR 43 ⟨5, []⟩ 400 (roundOf 0 f24) [(6, .slice 1 2 256 0 256 none), (7, .slice 1 3 161 0 176 none), (8, .slice 1 4 15 0 16 none), (9, .int .i64 r)] [some ⟨.ints .u8 zs, g0, ow0, 5⟩, some ⟨.ints .u8 bs, g1, ow1, 5⟩, some ⟨.ints .u8 BOXLaw, 256, true, 5⟩, some ⟨.ints .u8 ks, 161, true, 5⟩, some ⟨.ints .u8 s, 15, true, 5⟩] [some true, some false])
theorem C24_ok {r : Int} {s ks : List Int} {zs bs : List Int} {g0 g1 : Nat} {ow0 ow1 : Bool} (h : allP [Con.p (decide (r ≤ 10) = true), Con.leN 16 s.length, Con.p (Bytes s), Con.p (byLaw 1),
    Con.p (decide (r < 10) = false), Con.rng 0 r 10, Con.leN 176 ks.length,
    Con.p (Bytes (turnedLaw 1 (thruLaw BOXLaw s))), Con.p (Bytes ks),
    Con.rng (-9223372036854775808) (r + 1) 9223372036854775807]) : Ok (C24 r s ks zs bs g0 g1 ow0 ow1) := Ok.dem (fl := [false, true, true, true, true, false, true, false, true, true, true, false, false, true, true, true, true, true, true,
    false, true, false, false, false, false]) (by kernel_rfl) (by kernel_rfl) (by kernel_rfl) h
theorem C24_ex {r : Int} {s ks : List Int} {zs bs : List Int} {g0 g1 : Nat} {ow0 ow1 : Bool} : (C24 r s ks zs bs g0 g1 ow0 ow1).ex = AExit.normal := by kernel_rfl
theorem C24_fm {r : Int} {s ks : List Int} {zs bs : List Int} {g0 g1 : Nat} {ow0 ow1 : Bool} : (C24 r s ks zs bs g0 g1 ow0 ow1).fm = [(6, AVal.slice 1 2 256 0 256 none), (7, AVal.slice 1 3 161 0 176 none), (8, AVal.slice 1 4 15 0 16 none),
    (9, AVal.int IntKind.i64 (r + 1))] := by kernel_rfl
theorem C24_tab {r : Int} {s ks : List Int} {zs bs : List Int} {g0 g1 : Nat} {ow0 ow1 : Bool} : (C24 r s ks zs bs g0 g1 ow0 ow1).tab = [some { data := AVal.ints IntKind.u8 zs, g := g0, own := ow0, et := 5 },
    some { data := AVal.ints IntKind.u8 bs, g := g1, own := ow1, et := 5 },
    some { data := AVal.ints IntKind.u8 BOXLaw, g := 256, own := true, et := 5 },
    some { data := AVal.ints IntKind.u8 ks, g := 161, own := true, et := 5 },
    some
      {
        data :=
          AVal.ints IntKind.u8 (plusLaw (List.take 16 (turnedLaw 1 (thruLaw BOXLaw s))) (subLaw ks (16 * r.toNat) 16)),
        g := 15, own := true, et := 5 }] := by kernel_rfl
noncomputable def D24 (r : Int) (s ks : List Int) (zs bs : List Int) (g0 g1 : Nat) (ow0 ow1 : Bool) : Out := trimG 2 [0,1,2,3,4] [8] (run eR 43 ⟨5, []⟩ 400 (roundOf 0 f24) [(6, .slice 1 2 256 0 256 none), (7, .slice 1 3 161 0 176 none), (8, .slice 1 4 15 0 16 none), (9, .int .i64 r)] [some ⟨.ints .u8 zs, g0, ow0, 5⟩, some ⟨.ints .u8 bs, g1, ow1, 5⟩, some ⟨.ints .u8 BOXLaw, 256, true, 5⟩, some ⟨.ints .u8 ks, 161, true, 5⟩, some ⟨.ints .u8 s, 15, true, 5⟩] [some false])
theorem D24_ok {r : Int} {s ks : List Int} {zs bs : List Int} {g0 g1 : Nat} {ow0 ow1 : Bool} (h : allP [Con.p (decide (r ≤ 10) = false)]) : Ok (D24 r s ks zs bs g0 g1 ow0 ow1) := Ok.dem (fl := [false]) (by kernel_rfl) (by kernel_rfl) (by kernel_rfl) h
theorem D24_ex {r : Int} {s ks : List Int} {zs bs : List Int} {g0 g1 : Nat} {ow0 ow1 : Bool} : (D24 r s ks zs bs g0 g1 ow0 ow1).ex = AExit.exit 0 := by kernel_rfl
theorem D24_fm {r : Int} {s ks : List Int} {zs bs : List Int} {g0 g1 : Nat} {ow0 ow1 : Bool} : (D24 r s ks zs bs g0 g1 ow0 ow1).fm = [(8, AVal.slice 1 4 15 0 16 none)] := by kernel_rfl
theorem D24_tab {r : Int} {s ks : List Int} {zs bs : List Int} {g0 g1 : Nat} {ow0 ow1 : Bool} : (D24 r s ks zs bs g0 g1 ow0 ow1).tab = [some { data := AVal.ints IntKind.u8 zs, g := g0, own := ow0, et := 5 },
    some { data := AVal.ints IntKind.u8 bs, g := g1, own := ow1, et := 5 },
    some { data := AVal.ints IntKind.u8 BOXLaw, g := 256, own := true, et := 5 },
    some { data := AVal.ints IntKind.u8 ks, g := 161, own := true, et := 5 },
    some { data := AVal.ints IntKind.u8 s, g := 15, own := true, et := 5 }] := by kernel_rfl
noncomputable def E26 (r : Int) (ts ks : List Int) (cp1 : Option Nat) (zs bs : List Int) (g0 g1 : Nat) (ow0 ow1 : Bool) : Out := trim 5 5 [1,6,7,8,9] (run eR 60 ⟨5, []⟩ 400 (roundOf 0 f26) [(1, .slice 1 1 g1 0 16 cp1), (6, .slice 1 2 256 0 256 none), (7, .slice 1 3 161 0 176 none), (8, .slice 1 4 0 0 256 (some 256)), (9, .int .i64 r)] [some ⟨.ints .u8 zs, g0, ow0, 5⟩, some ⟨.ints .u8 bs, g1, ow1, 5⟩, some ⟨.ints .u8 BOXLaw, 256, true, 5⟩, some ⟨.ints .u8 ks, 161, true, 5⟩, some ⟨.ints .u8 ts, 0, true, 5⟩] [some true])
theorem E26_ok {r : Int} {ts ks : List Int} {cp1 : Option Nat} {zs bs : List Int} {g0 g1 : Nat} {ow0 ow1 : Bool} (h : allP [Con.p (decide (r < 256) = true), Con.leI 0 r, Con.leI (r + 1) 256, Con.leN (r.toNat + 1) 256,
    Con.leI 0 (BOXLaw.getD r.toNat 0), Con.leI (BOXLaw.getD r.toNat 0 + 1) 256,
    Con.leN ((BOXLaw.getD r.toNat 0).toNat + 1) ts.length, Con.rng (-9223372036854775808) (r + 1) 9223372036854775807]) : Ok (E26 r ts ks cp1 zs bs g0 g1 ow0 ow1) := Ok.dem (fl := [false, true, false, false, true, false, true, false, false, true, true, false, true, false]) (by kernel_rfl) (by kernel_rfl) (by kernel_rfl) h
theorem E26_ex {r : Int} {ts ks : List Int} {cp1 : Option Nat} {zs bs : List Int} {g0 g1 : Nat} {ow0 ow1 : Bool} : (E26 r ts ks cp1 zs bs g0 g1 ow0 ow1).ex = AExit.normal := by kernel_rfl
theorem E26_fm {r : Int} {ts ks : List Int} {cp1 : Option Nat} {zs bs : List Int} {g0 g1 : Nat} {ow0 ow1 : Bool} : (E26 r ts ks cp1 zs bs g0 g1 ow0 ow1).fm = [(1, AVal.slice 1 1 g1 0 16 cp1), (6, AVal.slice 1 2 256 0 256 none), (7, AVal.slice 1 3 161 0 176 none),
    (8, AVal.slice 1 4 0 0 256 (some 256)), (9, AVal.int IntKind.i64 (r + 1))] := by kernel_rfl
theorem E26_tab {r : Int} {ts ks : List Int} {cp1 : Option Nat} {zs bs : List Int} {g0 g1 : Nat} {ow0 ow1 : Bool} : (E26 r ts ks cp1 zs bs g0 g1 ow0 ow1).tab = [some { data := AVal.ints IntKind.u8 zs, g := g0, own := ow0, et := 5 },
    some { data := AVal.ints IntKind.u8 bs, g := g1, own := ow1, et := 5 },
    some { data := AVal.ints IntKind.u8 BOXLaw, g := 256, own := true, et := 5 },
    some { data := AVal.ints IntKind.u8 ks, g := 161, own := true, et := 5 },
    some
      { data := AVal.ints IntKind.u8 (ts.set (BOXLaw.getD r.toNat 0).toNat (r % 256)), g := 0, own := true, et := 5 }] := by kernel_rfl
noncomputable def F26 (r : Int) (ts ks : List Int) (cp1 : Option Nat) (zs bs : List Int) (g0 g1 : Nat) (ow0 ow1 : Bool) : Out := trim 5 5 [1,7,8] (run eR 60 ⟨5, []⟩ 400 (roundOf 0 f26) [(1, .slice 1 1 g1 0 16 cp1), (6, .slice 1 2 256 0 256 none), (7, .slice 1 3 161 0 176 none), (8, .slice 1 4 0 0 256 (some 256)), (9, .int .i64 r)] [some ⟨.ints .u8 zs, g0, ow0, 5⟩, some ⟨.ints .u8 bs, g1, ow1, 5⟩, some ⟨.ints .u8 BOXLaw, 256, true, 5⟩, some ⟨.ints .u8 ks, 161, true, 5⟩, some ⟨.ints .u8 ts, 0, true, 5⟩] [some false])
theorem F26_ok {r : Int} {ts ks : List Int} {cp1 : Option Nat} {zs bs : List Int} {g0 g1 : Nat} {ow0 ow1 : Bool} (h : allP [Con.p (decide (r < 256) = false)]) : Ok (F26 r ts ks cp1 zs bs g0 g1 ow0 ow1) := Ok.dem (fl := [false]) (by kernel_rfl) (by kernel_rfl) (by kernel_rfl) h
theorem F26_ex {r : Int} {ts ks : List Int} {cp1 : Option Nat} {zs bs : List Int} {g0 g1 : Nat} {ow0 ow1 : Bool} : (F26 r ts ks cp1 zs bs g0 g1 ow0 ow1).ex = AExit.exit 0 := by kernel_rfl
theorem F26_fm {r : Int} {ts ks : List Int} {cp1 : Option Nat} {zs bs : List Int} {g0 g1 : Nat} {ow0 ow1 : Bool} : (F26 r ts ks cp1 zs bs g0 g1 ow0 ow1).fm = [(1, AVal.slice 1 1 g1 0 16 cp1), (7, AVal.slice 1 3 161 0 176 none), (8, AVal.slice 1 4 0 0 256 (some 256))] := by kernel_rfl
theorem F26_tab {r : Int} {ts ks : List Int} {cp1 : Option Nat} {zs bs : List Int} {g0 g1 : Nat} {ow0 ow1 : Bool} : (F26 r ts ks cp1 zs bs g0 g1 ow0 ow1).tab = [some { data := AVal.ints IntKind.u8 zs, g := g0, own := ow0, et := 5 },
    some { data := AVal.ints IntKind.u8 bs, g := g1, own := ow1, et := 5 },
    some { data := AVal.ints IntKind.u8 BOXLaw, g := 256, own := true, et := 5 },
    some { data := AVal.ints IntKind.u8 ks, g := 161, own := true, et := 5 },
    some { data := AVal.ints IntKind.u8 ts, g := 0, own := true, et := 5 }] := by kernel_rfl
noncomputable def A26 (r : Int) (g : Nat) (s ks ts : List Int) (zs bs : List Int) (g0 g1 : Nat) (ow0 ow1 : Bool) : Out := trimG 2 [0,1,2,3,4,10] [7,8,10,11] (run eR 60 ⟨6, []⟩ 400 (roundOf 2 f26) [(7, .slice 1 3 161 0 176 none), (8, .slice 1 4 0 0 256 (some 256)), (10, .slice 1 5 g 0 16 none), (11, .int .i64 r)] [some ⟨.ints .u8 zs, g0, ow0, 5⟩, some ⟨.ints .u8 bs, g1, ow1, 5⟩, some ⟨.ints .u8 BOXLaw, 256, true, 5⟩, some ⟨.ints .u8 ks, 161, true, 5⟩, some ⟨.ints .u8 ts, 0, true, 5⟩, some ⟨.ints .u8 s, g, true, 5⟩] [some true, some true])
theorem A26_ok {r : Int} {g : Nat} {s ks ts : List Int} {zs bs : List Int} {g0 g1 : Nat} {ow0 ow1 : Bool} (h : allP [Con.p (decide (1 ≤ r) = true), Con.eqN g g, Con.eqN g g, Con.leN 16 s.length, Con.rng 0 r 10, Con.leN 176 ks.length,
    Con.p (Bytes s), Con.p (Bytes ks), Con.p (decide (r < 10) = true),
    Con.p (Bytes (plusLaw (List.take 16 s) (subLaw ks (16 * r.toNat) 16))), Con.p (colsLaw [14, 11, 13, 9]),
    Con.p (byLaw 3), Con.leN 256 ts.length,
    Con.p
      (Bytes
        (turnedLaw 3 (mixByLaw timesLaw [14, 11, 13, 9] (plusLaw (List.take 16 s) (subLaw ks (16 * r.toNat) 16))))),
    Con.rng (-9223372036854775808) (r - 1) 9223372036854775807]) : Ok (A26 r g s ks ts zs bs g0 g1 ow0 ow1) := Ok.dem (fl := [false, false, true, false, true, true, false, false, true, false, false, false, false, true, true, true, true, true,
    true, true, true, true, true, true, true, true, true, false, false, true, true, true, false, true, true, true, true,
    true, false, false, false]) (by kernel_rfl) (by kernel_rfl) (by kernel_rfl) h
theorem A26_ex {r : Int} {g : Nat} {s ks ts : List Int} {zs bs : List Int} {g0 g1 : Nat} {ow0 ow1 : Bool} : (A26 r g s ks ts zs bs g0 g1 ow0 ow1).ex = AExit.normal := by kernel_rfl
theorem A26_fm {r : Int} {g : Nat} {s ks ts : List Int} {zs bs : List Int} {g0 g1 : Nat} {ow0 ow1 : Bool} : (A26 r g s ks ts zs bs g0 g1 ow0 ow1).fm = [(7, AVal.slice 1 3 161 0 176 none), (8, AVal.slice 1 4 0 0 256 (some 256)), (10, AVal.slice 1 5 15 0 16 none),
    (11, AVal.int IntKind.i64 (r - 1))] := by kernel_rfl
theorem A26_tab {r : Int} {g : Nat} {s ks ts : List Int} {zs bs : List Int} {g0 g1 : Nat} {ow0 ow1 : Bool} : (A26 r g s ks ts zs bs g0 g1 ow0 ow1).tab = [some { data := AVal.ints IntKind.u8 zs, g := g0, own := ow0, et := 5 },
    some { data := AVal.ints IntKind.u8 bs, g := g1, own := ow1, et := 5 },
    some { data := AVal.ints IntKind.u8 BOXLaw, g := 256, own := true, et := 5 },
    some { data := AVal.ints IntKind.u8 ks, g := 161, own := true, et := 5 },
    some { data := AVal.ints IntKind.u8 ts, g := 0, own := true, et := 5 },
    some
      {
        data :=
          AVal.ints IntKind.u8
            (thruLaw ts
              (turnedLaw 3
                (mixByLaw timesLaw [14, 11, 13, 9] (plusLaw (List.take 16 s) (subLaw ks (16 * r.toNat) 16))))),
        g := 15, own := true, et := 5 }] := by kernel_rfl
noncomputable def C26 (r : Int) (g : Nat) (s ks ts : List Int) (zs bs : List Int) (g0 g1 : Nat) (ow0 ow1 : Bool) : Out := trimG 2 [0,1,2,3,4,8] [7,8,10,11] (run eR 60 ⟨6, []⟩ 400 (roundOf 2 f26) [(7, .slice 1 3 161 0 176 none), (8, .slice 1 4 0 0 256 (some 256)), (10, .slice 1 5 g 0 16 none), (11, .int .i64 r)] [some ⟨.ints .u8 zs, g0, ow0, 5⟩, some ⟨.ints .u8 bs, g1, ow1, 5⟩, some ⟨.ints .u8 BOXLaw, 256, true, 5⟩, some ⟨.ints .u8 ks, 161, true, 5⟩, some ⟨.ints .u8 ts, 0, true, 5⟩, some ⟨.ints .u8 s, g, true, 5⟩] [some true, some false])
theorem C26_ok {r : Int} {g : Nat} {s ks ts : List Int} {zs bs : List Int} {g0 g1 : Nat} {ow0 ow1 : Bool} (h : allP [Con.p (decide (1 ≤ r) = true), Con.eqN g g, Con.eqN g g, Con.leN 16 s.length, Con.rng 0 r 10, Con.leN 176 ks.length,
    Con.p (Bytes s), Con.p (Bytes ks), Con.p (decide (r < 10) = false), Con.p (byLaw 3), Con.leN 256 ts.length,
    Con.p (Bytes (turnedLaw 3 (plusLaw (List.take 16 s) (subLaw ks (16 * r.toNat) 16)))),
    Con.rng (-9223372036854775808) (r - 1) 9223372036854775807]) : Ok (C26 r g s ks ts zs bs g0 g1 ow0 ow1) := Ok.dem (fl := [false, false, true, false, true, true, false, false, true, false, false, false, false, true, true, true, false, true,
    true, true, true, true, false, false, false]) (by kernel_rfl) (by kernel_rfl) (by kernel_rfl) h
theorem C26_ex {r : Int} {g : Nat} {s ks ts : List Int} {zs bs : List Int} {g0 g1 : Nat} {ow0 ow1 : Bool} : (C26 r g s ks ts zs bs g0 g1 ow0 ow1).ex = AExit.normal := by kernel_rfl
theorem C26_fm {r : Int} {g : Nat} {s ks ts : List Int} {zs bs : List Int} {g0 g1 : Nat} {ow0 ow1 : Bool} : (C26 r g s ks ts zs bs g0 g1 ow0 ow1).fm = [(7, AVal.slice 1 3 161 0 176 none), (8, AVal.slice 1 4 0 0 256 (some 256)), (10, AVal.slice 1 5 15 0 16 none),
    (11, AVal.int IntKind.i64 (r - 1))] := by kernel_rfl
theorem C26_tab {r : Int} {g : Nat} {s ks ts : List Int} {zs bs : List Int} {g0 g1 : Nat} {ow0 ow1 : Bool} : (C26 r g s ks ts zs bs g0 g1 ow0 ow1).tab = [some { data := AVal.ints IntKind.u8 zs, g := g0, own := ow0, et := 5 },
    some { data := AVal.ints IntKind.u8 bs, g := g1, own := ow1, et := 5 },
    some { data := AVal.ints IntKind.u8 BOXLaw, g := 256, own := true, et := 5 },
    some { data := AVal.ints IntKind.u8 ks, g := 161, own := true, et := 5 },
    some { data := AVal.ints IntKind.u8 ts, g := 0, own := true, et := 5 },
    some
      {
        data :=
          AVal.ints IntKind.u8 (thruLaw ts (turnedLaw 3 (plusLaw (List.take 16 s) (subLaw ks (16 * r.toNat) 16)))),
        g := 15, own := true, et := 5 }] := by kernel_rfl
noncomputable def D26 (r : Int) (g : Nat) (s ks ts : List Int) (zs bs : List Int) (g0 g1 : Nat) (ow0 ow1 : Bool) : Out := trimG 2 [0,1,2,3,4,5] [7,10] (run eR 60 ⟨6, []⟩ 400 (roundOf 2 f26) [(7, .slice 1 3 161 0 176 none), (8, .slice 1 4 0 0 256 (some 256)), (10, .slice 1 5 g 0 16 none), (11, .int .i64 r)] [some ⟨.ints .u8 zs, g0, ow0, 5⟩, some ⟨.ints .u8 bs, g1, ow1, 5⟩, some ⟨.ints .u8 BOXLaw, 256, true, 5⟩, some ⟨.ints .u8 ks, 161, true, 5⟩, some ⟨.ints .u8 ts, 0, true, 5⟩, some ⟨.ints .u8 s, g, true, 5⟩] [some false])
theorem D26_ok {r : Int} {g : Nat} {s ks ts : List Int} {zs bs : List Int} {g0 g1 : Nat} {ow0 ow1 : Bool} (h : allP [Con.p (decide (1 ≤ r) = false)]) : Ok (D26 r g s ks ts zs bs g0 g1 ow0 ow1) := Ok.dem (fl := [false]) (by kernel_rfl) (by kernel_rfl) (by kernel_rfl) h
theorem D26_ex {r : Int} {g : Nat} {s ks ts : List Int} {zs bs : List Int} {g0 g1 : Nat} {ow0 ow1 : Bool} : (D26 r g s ks ts zs bs g0 g1 ow0 ow1).ex = AExit.exit 2 := by kernel_rfl
theorem D26_fm {r : Int} {g : Nat} {s ks ts : List Int} {zs bs : List Int} {g0 g1 : Nat} {ow0 ow1 : Bool} : (D26 r g s ks ts zs bs g0 g1 ow0 ow1).fm = [(7, AVal.slice 1 3 161 0 176 none), (10, AVal.slice 1 5 g 0 16 none)] := by kernel_rfl
theorem D26_tab {r : Int} {g : Nat} {s ks ts : List Int} {zs bs : List Int} {g0 g1 : Nat} {ow0 ow1 : Bool} : (D26 r g s ks ts zs bs g0 g1 ow0 ow1).tab = [some { data := AVal.ints IntKind.u8 zs, g := g0, own := ow0, et := 5 },
    some { data := AVal.ints IntKind.u8 bs, g := g1, own := ow1, et := 5 },
    some { data := AVal.ints IntKind.u8 BOXLaw, g := 256, own := true, et := 5 },
    some { data := AVal.ints IntKind.u8 ks, g := 161, own := true, et := 5 },
    some { data := AVal.ints IntKind.u8 ts, g := 0, own := true, et := 5 },
    some { data := AVal.ints IntKind.u8 s, g := g, own := true, et := 5 }] := by kernel_rfl
theorem thru_box (s : List Int) : thruLaw BOXLaw s = boxedLaw s := rfl
theorem thru_back (s : List Int) : thruLaw (TABLaw.drop 256) s = unboxedLaw s := l16_congr fun i _ => by rw [getD_drop]; rfl
def T24 (ks zs bs : List Int) (g0 g1 : Nat) (ow0 ow1 : Bool) (s : List Int) : Tab := [some ⟨.ints .u8 zs, g0, ow0, 5⟩, some ⟨.ints .u8 bs, g1, ow1, 5⟩, some ⟨.ints .u8 BOXLaw, 256, true, 5⟩, some ⟨.ints .u8 ks, 161, true, 5⟩, some ⟨.ints .u8 s, 15, true, 5⟩]
def F24 (r : Int) : Fm := [(6, .slice 1 2 256 0 256 none), (7, .slice 1 3 161 0 176 none), (8, .slice 1 4 15 0 16 none), (9, .int .i64 r)]
theorem loop24 {ks s : List Int} (hk : ks.length = 176) (hkb : Bytes ks) (hs : Bytes s) {zs bs : List Int} {g0 g1 : Nat} {ow0 ow1 : Bool} :
    To eR 43 2 (.block 0 (.loop (roundOf 0 f24))) (F24 1) (T24 ks zs bs g0 g1 ow0 ow1 (encLaw ks s 0)) .normal [(8, .slice 1 4 15 0 16 none)] (T24 ks zs bs g0 g1 ow0 ow1 (encLaw ks s 10)) := by
  refine To.rounds (fun i : Nat => F24 (i + 1 : Nat)) (fun i => T24 ks zs bs g0 g1 ow0 ow1 (encLaw ks s i)) 10 (fun i hi => ?_)
    (To.ofG (keep := [0,1,2,3,4]) (o := D24 (11 : Nat) (encLaw ks s 10) ks zs bs g0 g1 ow0 ow1) eR_ok hmA (by decide) OrcOk.nil rfl (D24_ok (by simp [allP, Con.h])) D24_ex D24_fm D24_tab)
  have hl := enc_len ks s i
  have hb := enc_bytes hkb hs i
  have hb1 := turned_bytes (n := 1) (boxed_bytes hb)
  have hm : Bytes (mixByLaw timesLaw [2, 3, 1, 1] (turnedLaw 1 (boxedLaw (encLaw ks s i)))) := mix_bytes (turnedLaw 1 (boxedLaw (encLaw ks s i)))
  by_cases h : i = 9
  · subst h
    refine To.ofG (keep := [0,1,2,3,7]) (o := C24 (10 : Nat) (encLaw ks s 9) ks zs bs g0 g1 ow0 ow1) eR_ok hmA (by decide) OrcOk.nil rfl (C24_ok ?_) C24_ex C24_fm (by rw [C24_tab, take_self rfl]; rfl)
    simp only [allP, Con.h, thru_box, hl, hb, hb1, hk, hkb, by_a, decide_eq_true_eq, decide_eq_false_iff_not, eq_self, and_true, true_and]
    first | omega | simp
  · refine To.ofG (keep := [0,1,2,3,9]) (o := A24 (i + 1 : Nat) (encLaw ks s i) ks zs bs g0 g1 ow0 ow1) eR_ok hmA (by decide) OrcOk.nil rfl (A24_ok ?_) A24_ex A24_fm ?_
    · simp only [allP, Con.h, thru_box, hl, hb, hb1, hm, hk, hkb, by_a, cols_a, decide_eq_true_eq, eq_self, and_true, true_and]
      omega
    · rw [A24_tab, take_self rfl, Int.toNat_natCast]
      show _ = T24 ks zs bs g0 g1 ow0 ow1 (encRLaw ks (encLaw ks s i) (i + 1))
      unfold encRLaw
      rw [if_neg (by omega)]
      rfl
def g24 : List AVal → Tab → Out := fun vs T => match vs, T with
  | [.slice 1 2 256 0 256 none, .slice 1 3 161 0 176 none, .slice 1 4 15 0 16 none, .int .i64 r], [some ⟨.ints .u8 zs, g0, ow0, 5⟩, some ⟨.ints .u8 bs, g1, ow1, 5⟩, some ⟨.ints .u8 bx, 256, true, 5⟩, some ⟨.ints .u8 ks, 161, true, 5⟩, some ⟨.ints .u8 s, 15, true, 5⟩] =>
    ⟨[.rng 1 r 1, .p (bx = BOXLaw), .eqN ks.length 176, .p (Bytes ks), .p (Bytes (subLaw bs 0 16)), .p (s = encLaw ks (subLaw bs 0 16) 0)], .normal, [(8, .slice 1 4 15 0 16 none)],
      [some ⟨.ints .u8 zs, g0, ow0, 5⟩, some ⟨.ints .u8 bs, g1, ow1, 5⟩, some ⟨.ints .u8 bx, 256, true, 5⟩, some ⟨.ints .u8 ks, 161, true, 5⟩, some ⟨.ints .u8 (blockLaw ks (subLaw bs 0 16)), 15, true, 5⟩], []⟩
  | _, _ => failO
theorem g24_ok : BlkOk eR f24 0 (.loop (roundOf 0 f24)) (blkS2 2 5 [6,7,8,9] g24) := by
  refine blkS2_ok fun vs T h => ?_
  unfold g24 at h ⊢
  split at h
  · rename_i r zs g0 ow0 bs g1 ow1 bx ks s
    obtain ⟨h1, h2, h3, h4, h5, h6, _⟩ := h.h
    simp only [Con.h] at h1 h2 h3 h4 h5 h6
    obtain rfl : r = 1 := by omega
    subst h2 h6
    exact loop24 h3 h4 h5
  · exact absurd h nofailO
noncomputable def orc24 : OrcL := [(0, blkS2 2 5 [6,7,8,9] g24)]
theorem orc24_ok : FnOrc eR f24 orc24 := FnOrc.cons g24_ok (by kernel_rfl) FnOrc.nil
/-! back: the table -/
def backsLaw : Nat → List Int
  | 0 => List.replicate 256 0
  | i + 1 => (backsLaw i).set (BOXLaw.getD i 0).toNat i
theorem backsLaw_len : ∀ i, (backsLaw i).length = 256
  | 0 => by simp [backsLaw]
  | i + 1 => by simp [backsLaw, backsLaw_len i]
theorem backsLaw_eq : backsLaw 256 = TABLaw.drop 256 := by kernel_rfl
def T26t (ks zs bs : List Int) (g0 g1 : Nat) (ow0 ow1 : Bool) (ts : List Int) : Tab := [some ⟨.ints .u8 zs, g0, ow0, 5⟩, some ⟨.ints .u8 bs, g1, ow1, 5⟩, some ⟨.ints .u8 BOXLaw, 256, true, 5⟩, some ⟨.ints .u8 ks, 161, true, 5⟩, some ⟨.ints .u8 ts, 0, true, 5⟩]
def F26t (g1 : Nat) (cp1 : Option Nat) (r : Int) : Fm := [(1, .slice 1 1 g1 0 16 cp1), (6, .slice 1 2 256 0 256 none), (7, .slice 1 3 161 0 176 none), (8, .slice 1 4 0 0 256 (some 256)), (9, .int .i64 r)]
theorem loop26t {ks : List Int} {zs bs : List Int} {g0 g1 : Nat} {ow0 ow1 : Bool} {cp1 : Option Nat} :
    To eR 60 5 (.block 0 (.loop (roundOf 0 f26))) (F26t g1 cp1 0) (T26t ks zs bs g0 g1 ow0 ow1 (backsLaw 0)) .normal [(1, .slice 1 1 g1 0 16 cp1), (7, .slice 1 3 161 0 176 none), (8, .slice 1 4 0 0 256 (some 256))] (T26t ks zs bs g0 g1 ow0 ow1 (backsLaw 256)) :=
  To.rounds (fun i : Nat => F26t g1 cp1 i) (fun i => T26t ks zs bs g0 g1 ow0 ow1 (backsLaw i)) 256 (fun i hi => by
    have hb : 0 ≤ BOXLaw.getD i 0 ∧ BOXLaw.getD i 0 < 256 := boxLaw_rng (x := (i : Int)) (by omega)
    have hl := backsLaw_len i
    refine To.of (o := E26 i (backsLaw i) ks cp1 zs bs g0 g1 ow0 ow1) eR_ok hmA (Nat.le_refl 5) OrcOk.nil rfl (E26_ok ?_) E26_ex E26_fm ?_
    · simp only [allP, Con.h, hl, Int.toNat_natCast, decide_eq_true_eq, and_true]
      omega
    · rw [E26_tab, Int.toNat_natCast, show (i : Int) % 256 = i by omega]; rfl)
    (To.of (o := F26 (256 : Nat) (backsLaw 256) ks cp1 zs bs g0 g1 ow0 ow1) eR_ok hmA (Nat.le_refl 5) OrcOk.nil rfl (F26_ok (by simp [allP, Con.h])) F26_ex F26_fm F26_tab)
def g26t : List AVal → Tab → Out := fun vs T => match vs, T with
  | [.slice 1 1 g1 0 16 cp1, .slice 1 2 256 0 256 none, .slice 1 3 161 0 176 none, .slice 1 4 0 0 256 (some 256), .int .i64 r], [some ⟨.ints .u8 zs, g0, ow0, 5⟩, some ⟨.ints .u8 bs, g1', ow1, 5⟩, some ⟨.ints .u8 bx, 256, true, 5⟩, some ⟨.ints .u8 ks, 161, true, 5⟩, some ⟨.ints .u8 ts, 0, true, 5⟩] =>
    ⟨[.eqN g1 g1', .rng 0 r 0, .p (bx = BOXLaw), .p (ts = backsLaw 0)], .normal, [(1, .slice 1 1 g1 0 16 cp1), (7, .slice 1 3 161 0 176 none), (8, .slice 1 4 0 0 256 (some 256))],
      [some ⟨.ints .u8 zs, g0, ow0, 5⟩, some ⟨.ints .u8 bs, g1', ow1, 5⟩, some ⟨.ints .u8 bx, 256, true, 5⟩, some ⟨.ints .u8 ks, 161, true, 5⟩, some ⟨.ints .u8 (backsLaw 256), 0, true, 5⟩], []⟩
  | _, _ => failO
theorem g26t_ok : BlkOk eR f26 0 (.loop (roundOf 0 f26)) (blkS 5 [1,6,7,8,9] g26t) := by
  refine blkS_ok fun vs T h => ?_
  unfold g26t at h ⊢
  split at h
  · rename_i g1 cp1 r zs g0 ow0 bs g1' ow1 bx ks ts
    obtain ⟨h1, h2, h3, h4, _⟩ := h.h
    simp only [Con.h] at h1 h2 h3 h4
    obtain rfl : r = 0 := by omega
    subst h1 h3 h4
    exact loop26t
  · exact absurd h nofailO
/-! back: the rounds -/
def T26 (ks ts zs bs : List Int) (g0 g1 : Nat) (ow0 ow1 : Bool) (g : Nat) (s : List Int) : Tab := [some ⟨.ints .u8 zs, g0, ow0, 5⟩, some ⟨.ints .u8 bs, g1, ow1, 5⟩, some ⟨.ints .u8 BOXLaw, 256, true, 5⟩, some ⟨.ints .u8 ks, 161, true, 5⟩, some ⟨.ints .u8 ts, 0, true, 5⟩, some ⟨.ints .u8 s, g, true, 5⟩]
def F26r (g : Nat) (r : Int) : Fm := [(7, .slice 1 3 161 0 176 none), (8, .slice 1 4 0 0 256 (some 256)), (10, .slice 1 5 g 0 16 none), (11, .int .i64 r)]
def gxLaw (i : Nat) : Nat := if i = 0 then 1 else 15
theorem loop26 {ks s : List Int} (hk : ks.length = 176) (hkb : Bytes ks) (hsl : s.length = 16) (hs : Bytes s) {zs bs : List Int} {g0 g1 : Nat} {ow0 ow1 : Bool} :
    To eR 60 2 (.block 2 (.loop (roundOf 2 f26))) (F26r 1 10) (T26 ks (TABLaw.drop 256) zs bs g0 g1 ow0 ow1 1 s) .normal [(7, .slice 1 3 161 0 176 none), (10, .slice 1 5 15 0 16 none)] (T26 ks (TABLaw.drop 256) zs bs g0 g1 ow0 ow1 15 (decLaw ks s 10)) := by
  refine To.rounds (fun i : Nat => F26r (gxLaw i) (10 - i : Int)) (fun i => T26 ks (TABLaw.drop 256) zs bs g0 g1 ow0 ow1 (gxLaw i) (decLaw ks s i)) 10 (fun i hi => ?_)
    (To.ofG (keep := [0,1,2,3,4,5]) (o := D26 (10 - (10 : Nat) : Int) 15 (decLaw ks s 10) ks (TABLaw.drop 256) zs bs g0 g1 ow0 ow1) eR_ok hmA (by decide) OrcOk.nil rfl (D26_ok (by simp [allP, Con.h])) D26_ex D26_fm D26_tab)
  have hl := dec_len hsl (ks := ks) i
  have hb := dec_bytes hs (ks := ks) i
  have hsb := sub_bytes hkb (16 * (10 - i)) 16
  have hp := plus_bytes hb hsb
  have hu : Bytes (mixByLaw timesLaw [14, 11, 13, 9] (plusLaw (decLaw ks s i) (subLaw ks (16 * (10 - i)) 16))) := unmix_bytes (plusLaw (decLaw ks s i) (subLaw ks (16 * (10 - i)) 16))
  have ht := turned_bytes (n := 3) hp
  have ht' := turned_bytes (n := 3) hu
  have htl : (TABLaw.drop 256).length = 256 := by rw [List.length_drop, TABLaw_len]
  have q1 : 16 * (10 - i : Int).toNat = 16 * (10 - i) := by omega
  have q0 : (10 - i : Int) - 1 = 10 - ((i + 1 : Nat) : Int) := by omega
  have qt : List.take 16 (decLaw ks s i) = decLaw ks s i := take_self hl
  by_cases h : i = 0
  · subst h
    refine To.ofG (keep := [0,1,2,3,4,8]) (o := C26 (10 - (0 : Nat) : Int) 1 (decLaw ks s 0) ks (TABLaw.drop 256) zs bs g0 g1 ow0 ow1) eR_ok hmA (by decide) OrcOk.nil rfl (C26_ok ?_) C26_ex (by rw [C26_fm, q0]; rfl) (by rw [C26_tab, q1, qt, thru_back]; rfl)
    rw [q1, qt]
    simp only [allP, Con.h, hl, hb, hp, ht, hsb, hk, hkb, htl, by_b, decide_eq_true_eq, decide_eq_false_iff_not, eq_self, and_true, true_and]
    first | omega | simp
  · have hg : gxLaw i = 15 := if_neg h
    refine To.ofG (keep := [0,1,2,3,4,10]) (o := A26 (10 - i : Int) (gxLaw i) (decLaw ks s i) ks (TABLaw.drop 256) zs bs g0 g1 ow0 ow1) eR_ok hmA (by decide) OrcOk.nil rfl (A26_ok ?_) A26_ex (by rw [A26_fm, q0]; rfl) ?_
    · rw [q1, qt]
      simp only [allP, Con.h, hl, hb, hp, hu, ht, ht', hsb, hk, hkb, htl, by_b, cols_b, decide_eq_true_eq, eq_self, and_true, true_and]
      omega
    · rw [A26_tab, q1, qt, thru_back]
      show _ = T26 ks (TABLaw.drop 256) zs bs g0 g1 ow0 ow1 15 (decRLaw ks (decLaw ks s i) (10 - i))
      unfold decRLaw
      rw [if_neg (by omega)]
      rfl
def g26 : List AVal → Tab → Out := fun vs T => match vs, T with
  | [.slice 1 3 161 0 176 none, .slice 1 4 0 0 256 (some 256), .slice 1 5 1 0 16 none, .int .i64 r], [some ⟨.ints .u8 zs, g0, ow0, 5⟩, some ⟨.ints .u8 bs, g1, ow1, 5⟩, some ⟨.ints .u8 bx, 256, true, 5⟩, some ⟨.ints .u8 ks, 161, true, 5⟩, some ⟨.ints .u8 ts, 0, true, 5⟩, some ⟨.ints .u8 s, 1, true, 5⟩] =>
    ⟨[.rng 10 r 10, .p (bx = BOXLaw), .p (ts = backsLaw 256), .eqN ks.length 176, .p (Bytes ks), .eqN s.length 16, .p (Bytes s)], .normal, [(7, .slice 1 3 161 0 176 none), (10, .slice 1 5 15 0 16 none)],
      [some ⟨.ints .u8 zs, g0, ow0, 5⟩, some ⟨.ints .u8 bs, g1, ow1, 5⟩, some ⟨.ints .u8 bx, 256, true, 5⟩, some ⟨.ints .u8 ks, 161, true, 5⟩, some ⟨.ints .u8 ts, 0, true, 5⟩, some ⟨.ints .u8 (decLaw ks s 10), 15, true, 5⟩], []⟩
  | _, _ => failO
theorem g26_ok : BlkOk eR f26 2 (.loop (roundOf 2 f26)) (blkS2 2 6 [7,8,10,11] g26) := by
  refine blkS2_ok fun vs T h => ?_
  unfold g26 at h ⊢
  split at h
  · rename_i r zs g0 ow0 bs g1 ow1 bx ks ts s
    obtain ⟨h1, h2, h3, h4, h5, h6, h7, _⟩ := h.h
    simp only [Con.h] at h1 h2 h3 h4 h5 h6 h7
    obtain rfl : r = 10 := by omega
    subst h2
    rw [backsLaw_eq] at h3
    subst h3
    exact loop26 h4 h5 h6 h7
  · exact absurd h nofailO
noncomputable def orc26 : OrcL := [(0, blkS 5 [1,6,7,8,9] g26t), (2, blkS2 2 6 [7,8,10,11] g26)]
theorem orc26_ok : FnOrc eR f26 orc26 := FnOrc.cons g26t_ok (by kernel_rfl) (FnOrc.cons g26_ok (by kernel_rfl) FnOrc.nil)
noncomputable def R24 (zs bs : List Int) (g0 g1 : Nat) (cp0 cp1 : Option Nat) (ow0 ow1 : Bool) : Res := resG 2 [0,1,4] (runF eR f24 orc24 400 [.slice 1 0 g0 0 16 cp0, .slice 1 1 g1 0 16 cp1] [some ⟨.ints .u8 zs, g0, ow0, 5⟩, some ⟨.ints .u8 bs, g1, ow1, 5⟩] [])
theorem R24_ok {zs bs : List Int} {g0 g1 : Nat} {cp0 cp1 : Option Nat} {ow0 ow1 : Bool} (h : allP [Con.eqN g0 g0, Con.eqN g1 g1, Con.eqN g0 g0, Con.eqN g0 g0, Con.leN 16 zs.length, Con.p (BOXLaw = BOXLaw),
    Con.p (Bytes (subLaw zs 0 16)), Con.eqN g1 g1, Con.eqN g1 g1, Con.leN 16 bs.length,
    Con.leN 176 (ksLaw (subLaw zs 0 16) 176).length, Con.p (Bytes bs), Con.p (Bytes (ksLaw (subLaw zs 0 16) 176)),
    Con.p (BOXLaw = BOXLaw), Con.eqN (ksLaw (subLaw zs 0 16) 176).length 176,
    Con.p (Bytes (ksLaw (subLaw zs 0 16) 176)), Con.p (Bytes (subLaw bs 0 16)),
    Con.p
      (plusLaw (List.take 16 bs) (subLaw (ksLaw (subLaw zs 0 16) 176) 0 16) =
        encLaw (ksLaw (subLaw zs 0 16) 176) (subLaw bs 0 16) 0)]) : OkR (R24 zs bs g0 g1 cp0 cp1 ow0 ow1) := OkR.dem (fl := [false, false, false, true, false, true, false, false, false, false, true, false, true, true, false, true, true, false,
    false, false, true, false, false, false, false, false]) (by kernel_rfl) (by kernel_rfl) (by kernel_rfl) h
theorem R24_val {zs bs : List Int} {g0 g1 : Nat} {cp0 cp1 : Option Nat} {ow0 ow1 : Bool} : (R24 zs bs g0 g1 cp0 cp1 ow0 ow1).val = AVal.tuple [AVal.slice 1 2 15 0 16 none, AVal.int IntKind.i64 0] := by kernel_rfl
theorem R24_tab {zs bs : List Int} {g0 g1 : Nat} {cp0 cp1 : Option Nat} {ow0 ow1 : Bool} : (R24 zs bs g0 g1 cp0 cp1 ow0 ow1).tab = [some { data := AVal.ints IntKind.u8 zs, g := g0, own := ow0, et := 5 },
    some { data := AVal.ints IntKind.u8 bs, g := g1, own := ow1, et := 5 },
    some
      { data := AVal.ints IntKind.u8 (blockLaw (ksLaw (subLaw zs 0 16) 176) (subLaw bs 0 16)), g := 15, own := true,
        et := 5 }] := by kernel_rfl
noncomputable def R26 (zs bs : List Int) (g0 g1 : Nat) (cp0 cp1 : Option Nat) (ow0 ow1 : Bool) : Res := resG 2 [0,1,6] (runF eR f26 orc26 400 [.slice 1 0 g0 0 16 cp0, .slice 1 1 g1 0 16 cp1] [some ⟨.ints .u8 zs, g0, ow0, 5⟩, some ⟨.ints .u8 bs, g1, ow1, 5⟩] [])
theorem R26_ok {zs bs : List Int} {g0 g1 : Nat} {cp0 cp1 : Option Nat} {ow0 ow1 : Bool} (h : allP [Con.eqN g0 g0, Con.eqN g1 g1, Con.eqN g0 g0, Con.eqN g0 g0, Con.leN 16 zs.length, Con.p (BOXLaw = BOXLaw),
    Con.p (Bytes (subLaw zs 0 16)), Con.eqN g1 g1, Con.p (BOXLaw = BOXLaw),
    Con.p
      ([0, 0, 0, 0, 0, 0, 0, 0, 0, 0, 0, 0, 0, 0, 0, 0, 0, 0, 0, 0, 0, 0, 0, 0, 0, 0, 0, 0, 0, 0, 0, 0, 0, 0, 0, 0, 0,
          0, 0, 0, 0, 0, 0, 0, 0, 0, 0, 0, 0, 0, 0, 0, 0, 0, 0, 0, 0, 0, 0, 0, 0, 0, 0, 0, 0, 0, 0, 0, 0, 0, 0, 0, 0, 0,
          0, 0, 0, 0, 0, 0, 0, 0, 0, 0, 0, 0, 0, 0, 0, 0, 0, 0, 0, 0, 0, 0, 0, 0, 0, 0, 0, 0, 0, 0, 0, 0, 0, 0, 0, 0, 0,
          0, 0, 0, 0, 0, 0, 0, 0, 0, 0, 0, 0, 0, 0, 0, 0, 0, 0, 0, 0, 0, 0, 0, 0, 0, 0, 0, 0, 0, 0, 0, 0, 0, 0, 0, 0, 0,
          0, 0, 0, 0, 0, 0, 0, 0, 0, 0, 0, 0, 0, 0, 0, 0, 0, 0, 0, 0, 0, 0, 0, 0, 0, 0, 0, 0, 0, 0, 0, 0, 0, 0, 0, 0, 0,
          0, 0, 0, 0, 0, 0, 0, 0, 0, 0, 0, 0, 0, 0, 0, 0, 0, 0, 0, 0, 0, 0, 0, 0, 0, 0, 0, 0, 0, 0, 0, 0, 0, 0, 0, 0, 0,
          0, 0, 0, 0, 0, 0, 0, 0, 0, 0, 0, 0, 0, 0, 0, 0, 0, 0, 0, 0, 0, 0, 0, 0, 0, 0, 0, 0, 0, 0, 0, 0, 0, 0] =
        backsLaw 0),
    Con.eqN g1 g1, Con.leN 16 bs.length, Con.p (BOXLaw = BOXLaw), Con.p (backsLaw 256 = backsLaw 256),
    Con.eqN (ksLaw (subLaw zs 0 16) 176).length 176, Con.p (Bytes (ksLaw (subLaw zs 0 16) 176)),
    Con.eqN ([] ++ List.take 16 bs).length 16, Con.p (Bytes ([] ++ List.take 16 bs)),
    Con.leN 176 (ksLaw (subLaw zs 0 16) 176).length,
    Con.p (Bytes (decLaw (ksLaw (subLaw zs 0 16) 176) ([] ++ List.take 16 bs) 10)),
    Con.p (Bytes (ksLaw (subLaw zs 0 16) 176))]) : OkR (R26 zs bs g0 g1 cp0 cp1 ow0 ow1) := OkR.dem (fl := [false, false, false, true, false, true, false, false, false, true, true, true, true, false, true, false, false, true,
    true, true, true, false, false, true, true, false, false, false, false, false, false, true, true, true, true, true,
    true, true, true, false, false, false]) (by kernel_rfl) (by kernel_rfl) (by kernel_rfl) h
theorem R26_val {zs bs : List Int} {g0 g1 : Nat} {cp0 cp1 : Option Nat} {ow0 ow1 : Bool} : (R26 zs bs g0 g1 cp0 cp1 ow0 ow1).val = AVal.tuple [AVal.slice 1 2 15 0 16 none, AVal.int IntKind.i64 0] := by kernel_rfl
theorem R26_tab {zs bs : List Int} {g0 g1 : Nat} {cp0 cp1 : Option Nat} {ow0 ow1 : Bool} : (R26 zs bs g0 g1 cp0 cp1 ow0 ow1).tab = [some { data := AVal.ints IntKind.u8 zs, g := g0, own := ow0, et := 5 },
    some { data := AVal.ints IntKind.u8 bs, g := g1, own := ow1, et := 5 },
    some
      {
        data :=
          AVal.ints IntKind.u8
            (plusLaw (List.take 16 (decLaw (ksLaw (subLaw zs 0 16) 176) ([] ++ List.take 16 bs) 10))
              (subLaw (ksLaw (subLaw zs 0 16) 176) 0 16)),
        g := 15, own := true, et := 5 }] := by kernel_rfl
end Go.Abs
