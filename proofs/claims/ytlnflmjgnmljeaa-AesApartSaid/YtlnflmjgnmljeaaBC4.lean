/- What functions of the given program come to, by the abstract machine: one text of a proof. -/
import Derived.Test.YtlnflmjgnmljeaaBC3
import Derived.Test.YtlnflmjgnmljeaaAbs2
set_option linter.unusedVariables false
set_option linter.unusedSimpArgs false
set_option maxRecDepth 8000
namespace Go.Abs
open Go.Proofs.Try
/-! ### squares, of the document -/
noncomputable def R47 (zs ws : List Int) (g0 g1 n0 n1 : Nat) (cp0 cp1 : Option Nat) (ow0 ow1 : Bool) (r : Int) : Res := resG 2 [0,1,3] (runF (eA []) f47 [] 2000 [.slice 1 0 g0 0 n0 cp0, .slice 1 1 g1 0 n1 cp1, .int .i64 r] [some ⟨.ints .u8 zs, g0, ow0, 5⟩, some ⟨.ints .u8 ws, g1, ow1, 5⟩] [])
theorem R47_ok {zs ws : List Int} {g0 g1 n0 n1 : Nat} {cp0 cp1 : Option Nat} {ow0 ow1 : Bool} {r : Int} (h : allP [Con.eqN g0 g0, Con.leI 1 (↑n0 : Int), Con.eqN g0 g0, Con.leN 1 zs.length,
    Con.rng (-9223372036854775808) (16 * r) 9223372036854775807,
    Con.rng (-9223372036854775808) (16 * r + 0) 9223372036854775807, Con.eqN g1 g1, Con.leI 0 (16 * r + 0),
    Con.leI (16 * r + 0 + 1) (↑n1 : Int), Con.eqN g1 g1, Con.leN ((16 * r + 0).toNat + 1) ws.length,
    Con.nn IntKind.u8 (zs.getD 0 0), Con.nn IntKind.u8 (ws.getD (16 * r + 0).toNat 0), Con.eqN g0 g0,
    Con.leI 2 (↑n0 : Int), Con.eqN g0 g0, Con.leN 2 zs.length,
    Con.rng (-9223372036854775808) (16 * r) 9223372036854775807,
    Con.rng (-9223372036854775808) (16 * r + 1) 9223372036854775807, Con.eqN g1 g1, Con.leI 0 (16 * r + 1),
    Con.leI (16 * r + 1 + 1) (↑n1 : Int), Con.eqN g1 g1, Con.leN ((16 * r + 1).toNat + 1) ws.length,
    Con.nn IntKind.u8 (zs.getD 1 0), Con.nn IntKind.u8 (ws.getD (16 * r + 1).toNat 0), Con.eqN g0 g0,
    Con.leI 3 (↑n0 : Int), Con.eqN g0 g0, Con.leN 3 zs.length,
    Con.rng (-9223372036854775808) (16 * r) 9223372036854775807,
    Con.rng (-9223372036854775808) (16 * r + 2) 9223372036854775807, Con.eqN g1 g1, Con.leI 0 (16 * r + 2),
    Con.leI (16 * r + 2 + 1) (↑n1 : Int), Con.eqN g1 g1, Con.leN ((16 * r + 2).toNat + 1) ws.length,
    Con.nn IntKind.u8 (zs.getD 2 0), Con.nn IntKind.u8 (ws.getD (16 * r + 2).toNat 0), Con.eqN g0 g0,
    Con.leI 4 (↑n0 : Int), Con.eqN g0 g0, Con.leN 4 zs.length,
    Con.rng (-9223372036854775808) (16 * r) 9223372036854775807,
    Con.rng (-9223372036854775808) (16 * r + 3) 9223372036854775807, Con.eqN g1 g1, Con.leI 0 (16 * r + 3),
    Con.leI (16 * r + 3 + 1) (↑n1 : Int), Con.eqN g1 g1, Con.leN ((16 * r + 3).toNat + 1) ws.length,
    Con.nn IntKind.u8 (zs.getD 3 0), Con.nn IntKind.u8 (ws.getD (16 * r + 3).toNat 0), Con.eqN g0 g0,
    Con.leI 5 (↑n0 : Int), Con.eqN g0 g0, Con.leN 5 zs.length,
    Con.rng (-9223372036854775808) (16 * r) 9223372036854775807,
    Con.rng (-9223372036854775808) (16 * r + 4) 9223372036854775807, Con.eqN g1 g1, Con.leI 0 (16 * r + 4),
    Con.leI (16 * r + 4 + 1) (↑n1 : Int), Con.eqN g1 g1, Con.leN ((16 * r + 4).toNat + 1) ws.length,
    Con.nn IntKind.u8 (zs.getD 4 0), Con.nn IntKind.u8 (ws.getD (16 * r + 4).toNat 0), Con.eqN g0 g0,
    Con.leI 6 (↑n0 : Int), Con.eqN g0 g0, Con.leN 6 zs.length,
    Con.rng (-9223372036854775808) (16 * r) 9223372036854775807,
    Con.rng (-9223372036854775808) (16 * r + 5) 9223372036854775807, Con.eqN g1 g1, Con.leI 0 (16 * r + 5),
    Con.leI (16 * r + 5 + 1) (↑n1 : Int), Con.eqN g1 g1, Con.leN ((16 * r + 5).toNat + 1) ws.length,
    Con.nn IntKind.u8 (zs.getD 5 0), Con.nn IntKind.u8 (ws.getD (16 * r + 5).toNat 0), Con.eqN g0 g0,
    Con.leI 7 (↑n0 : Int), Con.eqN g0 g0, Con.leN 7 zs.length,
    Con.rng (-9223372036854775808) (16 * r) 9223372036854775807,
    Con.rng (-9223372036854775808) (16 * r + 6) 9223372036854775807, Con.eqN g1 g1, Con.leI 0 (16 * r + 6),
    Con.leI (16 * r + 6 + 1) (↑n1 : Int), Con.eqN g1 g1, Con.leN ((16 * r + 6).toNat + 1) ws.length,
    Con.nn IntKind.u8 (zs.getD 6 0), Con.nn IntKind.u8 (ws.getD (16 * r + 6).toNat 0), Con.eqN g0 g0,
    Con.leI 8 (↑n0 : Int), Con.eqN g0 g0, Con.leN 8 zs.length,
    Con.rng (-9223372036854775808) (16 * r) 9223372036854775807,
    Con.rng (-9223372036854775808) (16 * r + 7) 9223372036854775807, Con.eqN g1 g1, Con.leI 0 (16 * r + 7),
    Con.leI (16 * r + 7 + 1) (↑n1 : Int), Con.eqN g1 g1, Con.leN ((16 * r + 7).toNat + 1) ws.length,
    Con.nn IntKind.u8 (zs.getD 7 0), Con.nn IntKind.u8 (ws.getD (16 * r + 7).toNat 0), Con.eqN g0 g0,
    Con.leI 9 (↑n0 : Int), Con.eqN g0 g0, Con.leN 9 zs.length,
    Con.rng (-9223372036854775808) (16 * r) 9223372036854775807,
    Con.rng (-9223372036854775808) (16 * r + 8) 9223372036854775807, Con.eqN g1 g1, Con.leI 0 (16 * r + 8),
    Con.leI (16 * r + 8 + 1) (↑n1 : Int), Con.eqN g1 g1, Con.leN ((16 * r + 8).toNat + 1) ws.length,
    Con.nn IntKind.u8 (zs.getD 8 0), Con.nn IntKind.u8 (ws.getD (16 * r + 8).toNat 0), Con.eqN g0 g0,
    Con.leI 10 (↑n0 : Int), Con.eqN g0 g0, Con.leN 10 zs.length,
    Con.rng (-9223372036854775808) (16 * r) 9223372036854775807,
    Con.rng (-9223372036854775808) (16 * r + 9) 9223372036854775807, Con.eqN g1 g1, Con.leI 0 (16 * r + 9),
    Con.leI (16 * r + 9 + 1) (↑n1 : Int), Con.eqN g1 g1, Con.leN ((16 * r + 9).toNat + 1) ws.length,
    Con.nn IntKind.u8 (zs.getD 9 0), Con.nn IntKind.u8 (ws.getD (16 * r + 9).toNat 0), Con.eqN g0 g0,
    Con.leI 11 (↑n0 : Int), Con.eqN g0 g0, Con.leN 11 zs.length,
    Con.rng (-9223372036854775808) (16 * r) 9223372036854775807,
    Con.rng (-9223372036854775808) (16 * r + 10) 9223372036854775807, Con.eqN g1 g1, Con.leI 0 (16 * r + 10),
    Con.leI (16 * r + 10 + 1) (↑n1 : Int), Con.eqN g1 g1, Con.leN ((16 * r + 10).toNat + 1) ws.length,
    Con.nn IntKind.u8 (zs.getD 10 0), Con.nn IntKind.u8 (ws.getD (16 * r + 10).toNat 0), Con.eqN g0 g0,
    Con.leI 12 (↑n0 : Int), Con.eqN g0 g0, Con.leN 12 zs.length,
    Con.rng (-9223372036854775808) (16 * r) 9223372036854775807,
    Con.rng (-9223372036854775808) (16 * r + 11) 9223372036854775807, Con.eqN g1 g1, Con.leI 0 (16 * r + 11),
    Con.leI (16 * r + 11 + 1) (↑n1 : Int), Con.eqN g1 g1, Con.leN ((16 * r + 11).toNat + 1) ws.length,
    Con.nn IntKind.u8 (zs.getD 11 0), Con.nn IntKind.u8 (ws.getD (16 * r + 11).toNat 0), Con.eqN g0 g0,
    Con.leI 13 (↑n0 : Int), Con.eqN g0 g0, Con.leN 13 zs.length,
    Con.rng (-9223372036854775808) (16 * r) 9223372036854775807,
    Con.rng (-9223372036854775808) (16 * r + 12) 9223372036854775807, Con.eqN g1 g1, Con.leI 0 (16 * r + 12),
    Con.leI (16 * r + 12 + 1) (↑n1 : Int), Con.eqN g1 g1, Con.leN ((16 * r + 12).toNat + 1) ws.length,
    Con.nn IntKind.u8 (zs.getD 12 0), Con.nn IntKind.u8 (ws.getD (16 * r + 12).toNat 0), Con.eqN g0 g0,
    Con.leI 14 (↑n0 : Int), Con.eqN g0 g0, Con.leN 14 zs.length,
    Con.rng (-9223372036854775808) (16 * r) 9223372036854775807,
    Con.rng (-9223372036854775808) (16 * r + 13) 9223372036854775807, Con.eqN g1 g1, Con.leI 0 (16 * r + 13),
    Con.leI (16 * r + 13 + 1) (↑n1 : Int), Con.eqN g1 g1, Con.leN ((16 * r + 13).toNat + 1) ws.length,
    Con.nn IntKind.u8 (zs.getD 13 0), Con.nn IntKind.u8 (ws.getD (16 * r + 13).toNat 0), Con.eqN g0 g0,
    Con.leI 15 (↑n0 : Int), Con.eqN g0 g0, Con.leN 15 zs.length,
    Con.rng (-9223372036854775808) (16 * r) 9223372036854775807,
    Con.rng (-9223372036854775808) (16 * r + 14) 9223372036854775807, Con.eqN g1 g1, Con.leI 0 (16 * r + 14),
    Con.leI (16 * r + 14 + 1) (↑n1 : Int), Con.eqN g1 g1, Con.leN ((16 * r + 14).toNat + 1) ws.length,
    Con.nn IntKind.u8 (zs.getD 14 0), Con.nn IntKind.u8 (ws.getD (16 * r + 14).toNat 0), Con.eqN g0 g0,
    Con.leI 16 (↑n0 : Int), Con.eqN g0 g0, Con.leN 16 zs.length,
    Con.rng (-9223372036854775808) (16 * r) 9223372036854775807,
    Con.rng (-9223372036854775808) (16 * r + 15) 9223372036854775807, Con.eqN g1 g1, Con.leI 0 (16 * r + 15),
    Con.leI (16 * r + 15 + 1) (↑n1 : Int), Con.eqN g1 g1, Con.leN ((16 * r + 15).toNat + 1) ws.length,
    Con.nn IntKind.u8 (zs.getD 15 0), Con.nn IntKind.u8 (ws.getD (16 * r + 15).toNat 0)]) : OkR (R47 zs ws g0 g1 n0 n1 cp0 cp1 ow0 ow1 r) := OkR.dem (fl := [false, false, true, false, false, false, false, false, false, false, false, false, false, false, false, true, true,
    true, false, true, true, true, true, false, true, false, false, true, false, false, false, false, false, false,
    false, false, false, false, false, false, true, true, true, false, true, true, true, true, true, true, false, true,
    false, false, true, false, false, false, false, false, false, false, false, false, false, false, false, true, true,
    true, false, true, true, true, true, true, true, false, true, false, false, true, false, false, false, false, false,
    false, false, false, false, false, false, false, true, true, true, false, true, true, true, true, true, true, false,
    true, false, false, true, false, false, false, false, false, false, false, false, false, false, false, false, true,
    true, true, false, true, true, true, true, true, true, false, true, false, false, true, false, false, false, false,
    false, false, false, false, false, false, false, false, true, true, true, false, true, true, true, true, true, true,
    false, true, false, false, true, false, false, false, false, false, false, false, false, false, false, false, false,
    true, true, true, false, true, true, true, true, true, true, false, true, false, false, true, false, false, false,
    false, false, false, false, false, false, false, false, false, true, true, true, false, true, true, true, true,
    true, true, false, true, false, false, true, false, false, false, false, false, false, false, false, false, false,
    false, false, true, true, true, false, true, true, true, true, true, true, false, true, false, false, true, false,
    false, false, false, false, false, false, false, false, false, false, false, true, true, true, false, true, true,
    true, true, true, true, false, true, false, false, true, false, false, false, false, false, false, false, false,
    false, false, false, false, true, true, true, false, true, true, true, true, true, true, false, true, false, false,
    true, false, false, false, false, false, false, false, false, false, false, false, false, true, true, true, false,
    true, true, true, true, true, true, false, true, false, false, true, false, false, false, false, false, false,
    false, false, false, false, false, false, true, true, true, false, true, true, true, true, true, true, false, true,
    false, false, true, false, false, false, false, false, false, false, false, false, false, false, false, true, true,
    true, false, true, true, true, true, true, true, false, true, false, false, true, false, false, false, false, false,
    false, false, false, false, false, false, false, true, true, true, false, true, true, true, true, true, true, false,
    true, false, false, true, false, false, false, false, false, false, false, false, false, false, false, false, true,
    true, true, false, true, true, true, true, true, true, false, true]) (by kernel_rfl) (by kernel_rfl) (by kernel_rfl) h
theorem R47_val {zs ws : List Int} {g0 g1 n0 n1 : Nat} {cp0 cp1 : Option Nat} {ow0 ow1 : Bool} {r : Int} : (R47 zs ws g0 g1 n0 n1 cp0 cp1 ow0 ow1 r).val = AVal.slice 1 2 15 0 16 none := by kernel_rfl
theorem R47_tab {zs ws : List Int} {g0 g1 n0 n1 : Nat} {cp0 cp1 : Option Nat} {ow0 ow1 : Bool} {r : Int} : (R47 zs ws g0 g1 n0 n1 cp0 cp1 ow0 ow1 r).tab = [some { data := AVal.ints IntKind.u8 zs, g := g0, own := ow0, et := 5 },
    some { data := AVal.ints IntKind.u8 ws, g := g1, own := ow1, et := 5 },
    some
      {
        data :=
          AVal.ints IntKind.u8
            [ixor (zs.getD 0 0) (ws.getD (16 * r + 0).toNat 0), ixor (zs.getD 1 0) (ws.getD (16 * r + 1).toNat 0),
              ixor (zs.getD 2 0) (ws.getD (16 * r + 2).toNat 0), ixor (zs.getD 3 0) (ws.getD (16 * r + 3).toNat 0),
              ixor (zs.getD 4 0) (ws.getD (16 * r + 4).toNat 0), ixor (zs.getD 5 0) (ws.getD (16 * r + 5).toNat 0),
              ixor (zs.getD 6 0) (ws.getD (16 * r + 6).toNat 0), ixor (zs.getD 7 0) (ws.getD (16 * r + 7).toNat 0),
              ixor (zs.getD 8 0) (ws.getD (16 * r + 8).toNat 0), ixor (zs.getD 9 0) (ws.getD (16 * r + 9).toNat 0),
              ixor (zs.getD 10 0) (ws.getD (16 * r + 10).toNat 0), ixor (zs.getD 11 0) (ws.getD (16 * r + 11).toNat 0),
              ixor (zs.getD 12 0) (ws.getD (16 * r + 12).toNat 0), ixor (zs.getD 13 0) (ws.getD (16 * r + 13).toNat 0),
              ixor (zs.getD 14 0) (ws.getD (16 * r + 14).toNat 0), ixor (zs.getD 15 0) (ws.getD (16 * r + 15).toNat 0)],
        g := 15, own := true, et := 5 }] := by kernel_rfl
noncomputable def R48a (s : List Int) (g0 : Nat) (cp0 : Option Nat) (ow0 : Bool) : Res := runF (eA []) f48 [] 2000 [.slice 1 0 g0 0 16 cp0, .int .i64 1] [some ⟨.ints .u8 s, g0, ow0, 5⟩] []
theorem R48a_ok {s : List Int} {g0 : Nat} {cp0 : Option Nat} {ow0 : Bool} (h : allP [Con.eqN g0 g0, Con.eqN g0 g0, Con.leN 1 s.length, Con.eqN g0 g0, Con.eqN g0 g0, Con.leN 6 s.length, Con.eqN g0 g0,
    Con.eqN g0 g0, Con.leN 11 s.length, Con.eqN g0 g0, Con.eqN g0 g0, Con.leN 16 s.length, Con.eqN g0 g0, Con.eqN g0 g0,
    Con.leN 5 s.length, Con.eqN g0 g0, Con.eqN g0 g0, Con.leN 10 s.length, Con.eqN g0 g0, Con.eqN g0 g0,
    Con.leN 15 s.length, Con.eqN g0 g0, Con.eqN g0 g0, Con.leN 4 s.length, Con.eqN g0 g0, Con.eqN g0 g0,
    Con.leN 9 s.length, Con.eqN g0 g0, Con.eqN g0 g0, Con.leN 14 s.length, Con.eqN g0 g0, Con.eqN g0 g0,
    Con.leN 3 s.length, Con.eqN g0 g0, Con.eqN g0 g0, Con.leN 8 s.length, Con.eqN g0 g0, Con.eqN g0 g0,
    Con.leN 13 s.length, Con.eqN g0 g0, Con.eqN g0 g0, Con.leN 2 s.length, Con.eqN g0 g0, Con.eqN g0 g0,
    Con.leN 7 s.length, Con.eqN g0 g0, Con.eqN g0 g0, Con.leN 12 s.length]) : OkR (R48a s g0 cp0 ow0) := OkR.dem (fl := [true, true, true, true, true, true, true, true, true, true, true, false, true, true, false, false, true, true, true,
    true, true, true, true, true, true, true, true, true, true, true, true, false, true, true, false, false, true, true,
    true, true, true, true, true, true, true, true, true, true, true, true, true, false, true, true, false, false, true,
    true, true, true, true, true, true, true, true, true, true, true, true, true, true, false, true, true, false, false,
    true, true, true, true, true, true, true, true, true, true, true, true, true, true, true, true, false, true, true,
    false, false, true, true, true, true, true, true, true, true, true, true, true, true, true, true, true, false, true,
    true, false, false, true, true, true, true, true, true, true, true, true, true, true, true, true, true, true, false,
    true, true, false, false, true, true, true, true, true, true, true, true, true, true, true, true, true, true, true,
    false, true, true, false, false, true, true, true, true, true, true, true, true, true, true, true, true, true, true,
    true, true, false, true, true, false, false, true, true, true, true, true, true, true, true, true, true, true, true,
    true, true, true, false, true, true, false, false, true, true, true, true, true, true, true, true, true, true, true,
    true, true, true, true, false, true, true, false, false, true, true, true, true, true, true, true, true, true, true,
    true, true, true, true, true, false, true, true, false, false, true, true, true, true, true, true, true, true, true,
    true, true, true, true, true, true, true, false, true, true, false, false, true, true, true, true, true, true, true,
    true, true, true, true, true, true, true, true, false, true, true, false, false, true, true, true, true, true, true,
    true, true, true, true, true, true, true, true, true, false, true, true, false, false, true, true, true, true, true,
    true, true, true, true, true, true, true, true, true, true, false, true, true, false, false, true, true, true, true,
    true, true, true, true, true]) (by kernel_rfl) (by kernel_rfl) (by kernel_rfl) h
theorem R48a_val {s : List Int} {g0 : Nat} {cp0 : Option Nat} {ow0 : Bool} : (R48a s g0 cp0 ow0).val = AVal.slice 1 1 0 0 16 (some 16) := by kernel_rfl
theorem R48a_tab {s : List Int} {g0 : Nat} {cp0 : Option Nat} {ow0 : Bool} : (R48a s g0 cp0 ow0).tab = [some { data := AVal.ints IntKind.u8 s, g := g0, own := ow0, et := 5 },
    some
      {
        data :=
          AVal.ints IntKind.u8
            [s.getD 0 0, s.getD 5 0, s.getD 10 0, s.getD 15 0, s.getD 4 0, s.getD 9 0, s.getD 14 0, s.getD 3 0,
              s.getD 8 0, s.getD 13 0, s.getD 2 0, s.getD 7 0, s.getD 12 0, s.getD 1 0, s.getD 6 0, s.getD 11 0],
        g := 0, own := true, et := 5 }] := by kernel_rfl
noncomputable def R48b (s : List Int) (g0 : Nat) (cp0 : Option Nat) (ow0 : Bool) : Res := runF (eA []) f48 [] 2000 [.slice 1 0 g0 0 16 cp0, .int .i64 3] [some ⟨.ints .u8 s, g0, ow0, 5⟩] []
theorem R48b_ok {s : List Int} {g0 : Nat} {cp0 : Option Nat} {ow0 : Bool} (h : allP [Con.eqN g0 g0, Con.eqN g0 g0, Con.leN 1 s.length, Con.eqN g0 g0, Con.eqN g0 g0, Con.leN 14 s.length, Con.eqN g0 g0,
    Con.eqN g0 g0, Con.leN 11 s.length, Con.eqN g0 g0, Con.eqN g0 g0, Con.leN 8 s.length, Con.eqN g0 g0, Con.eqN g0 g0,
    Con.leN 5 s.length, Con.eqN g0 g0, Con.eqN g0 g0, Con.leN 2 s.length, Con.eqN g0 g0, Con.eqN g0 g0,
    Con.leN 15 s.length, Con.eqN g0 g0, Con.eqN g0 g0, Con.leN 12 s.length, Con.eqN g0 g0, Con.eqN g0 g0,
    Con.leN 9 s.length, Con.eqN g0 g0, Con.eqN g0 g0, Con.leN 6 s.length, Con.eqN g0 g0, Con.eqN g0 g0,
    Con.leN 3 s.length, Con.eqN g0 g0, Con.eqN g0 g0, Con.leN 16 s.length, Con.eqN g0 g0, Con.eqN g0 g0,
    Con.leN 13 s.length, Con.eqN g0 g0, Con.eqN g0 g0, Con.leN 10 s.length, Con.eqN g0 g0, Con.eqN g0 g0,
    Con.leN 7 s.length, Con.eqN g0 g0, Con.eqN g0 g0, Con.leN 4 s.length]) : OkR (R48b s g0 cp0 ow0) := OkR.dem (fl := [true, true, true, true, true, true, true, true, true, true, true, false, true, true, false, false, true, true, true,
    true, true, true, true, true, true, true, true, true, true, true, true, false, true, true, false, false, true, true,
    true, true, true, true, true, true, true, true, true, true, true, true, true, false, true, true, false, false, true,
    true, true, true, true, true, true, true, true, true, true, true, true, true, true, false, true, true, false, false,
    true, true, true, true, true, true, true, true, true, true, true, true, true, true, true, true, false, true, true,
    false, false, true, true, true, true, true, true, true, true, true, true, true, true, true, true, true, false, true,
    true, false, false, true, true, true, true, true, true, true, true, true, true, true, true, true, true, true, false,
    true, true, false, false, true, true, true, true, true, true, true, true, true, true, true, true, true, true, true,
    false, true, true, false, false, true, true, true, true, true, true, true, true, true, true, true, true, true, true,
    true, true, false, true, true, false, false, true, true, true, true, true, true, true, true, true, true, true, true,
    true, true, true, false, true, true, false, false, true, true, true, true, true, true, true, true, true, true, true,
    true, true, true, true, false, true, true, false, false, true, true, true, true, true, true, true, true, true, true,
    true, true, true, true, true, false, true, true, false, false, true, true, true, true, true, true, true, true, true,
    true, true, true, true, true, true, true, false, true, true, false, false, true, true, true, true, true, true, true,
    true, true, true, true, true, true, true, true, false, true, true, false, false, true, true, true, true, true, true,
    true, true, true, true, true, true, true, true, true, false, true, true, false, false, true, true, true, true, true,
    true, true, true, true, true, true, true, true, true, true, false, true, true, false, false, true, true, true, true,
    true, true, true, true, true]) (by kernel_rfl) (by kernel_rfl) (by kernel_rfl) h
theorem R48b_val {s : List Int} {g0 : Nat} {cp0 : Option Nat} {ow0 : Bool} : (R48b s g0 cp0 ow0).val = AVal.slice 1 1 0 0 16 (some 16) := by kernel_rfl
theorem R48b_tab {s : List Int} {g0 : Nat} {cp0 : Option Nat} {ow0 : Bool} : (R48b s g0 cp0 ow0).tab = [some { data := AVal.ints IntKind.u8 s, g := g0, own := ow0, et := 5 },
    some
      {
        data :=
          AVal.ints IntKind.u8
            [s.getD 0 0, s.getD 13 0, s.getD 10 0, s.getD 7 0, s.getD 4 0, s.getD 1 0, s.getD 14 0, s.getD 11 0,
              s.getD 8 0, s.getD 5 0, s.getD 2 0, s.getD 15 0, s.getD 12 0, s.getD 9 0, s.getD 6 0, s.getD 3 0],
        g := 0, own := true, et := 5 }] := by kernel_rfl
noncomputable def R49 (s ts : List Int) (g0 g1 : Nat) (cp0 cp1 : Option Nat) (ow0 ow1 : Bool) : Res := resG 2 [0,1,3] (runF (eA []) f49 [] 2000 [.slice 1 0 g0 0 16 cp0, .slice 1 1 g1 0 256 cp1] [some ⟨.ints .u8 s, g0, ow0, 5⟩, some ⟨.ints .u8 ts, g1, ow1, 5⟩] [])
theorem R49_ok {s ts : List Int} {g0 g1 : Nat} {cp0 cp1 : Option Nat} {ow0 ow1 : Bool} (h : allP [Con.eqN g0 g0, Con.eqN g0 g0, Con.leN 1 s.length, Con.eqN g1 g1, Con.leI 0 (s.getD 0 0),
    Con.leI (s.getD 0 0 + 1) 256, Con.eqN g1 g1, Con.leN ((s.getD 0 0).toNat + 1) ts.length, Con.eqN g0 g0,
    Con.eqN g0 g0, Con.leN 2 s.length, Con.eqN g1 g1, Con.leI 0 (s.getD 1 0), Con.leI (s.getD 1 0 + 1) 256,
    Con.eqN g1 g1, Con.leN ((s.getD 1 0).toNat + 1) ts.length, Con.eqN g0 g0, Con.eqN g0 g0, Con.leN 3 s.length,
    Con.eqN g1 g1, Con.leI 0 (s.getD 2 0), Con.leI (s.getD 2 0 + 1) 256, Con.eqN g1 g1,
    Con.leN ((s.getD 2 0).toNat + 1) ts.length, Con.eqN g0 g0, Con.eqN g0 g0, Con.leN 4 s.length, Con.eqN g1 g1,
    Con.leI 0 (s.getD 3 0), Con.leI (s.getD 3 0 + 1) 256, Con.eqN g1 g1, Con.leN ((s.getD 3 0).toNat + 1) ts.length,
    Con.eqN g0 g0, Con.eqN g0 g0, Con.leN 5 s.length, Con.eqN g1 g1, Con.leI 0 (s.getD 4 0),
    Con.leI (s.getD 4 0 + 1) 256, Con.eqN g1 g1, Con.leN ((s.getD 4 0).toNat + 1) ts.length, Con.eqN g0 g0,
    Con.eqN g0 g0, Con.leN 6 s.length, Con.eqN g1 g1, Con.leI 0 (s.getD 5 0), Con.leI (s.getD 5 0 + 1) 256,
    Con.eqN g1 g1, Con.leN ((s.getD 5 0).toNat + 1) ts.length, Con.eqN g0 g0, Con.eqN g0 g0, Con.leN 7 s.length,
    Con.eqN g1 g1, Con.leI 0 (s.getD 6 0), Con.leI (s.getD 6 0 + 1) 256, Con.eqN g1 g1,
    Con.leN ((s.getD 6 0).toNat + 1) ts.length, Con.eqN g0 g0, Con.eqN g0 g0, Con.leN 8 s.length, Con.eqN g1 g1,
    Con.leI 0 (s.getD 7 0), Con.leI (s.getD 7 0 + 1) 256, Con.eqN g1 g1, Con.leN ((s.getD 7 0).toNat + 1) ts.length,
    Con.eqN g0 g0, Con.eqN g0 g0, Con.leN 9 s.length, Con.eqN g1 g1, Con.leI 0 (s.getD 8 0),
    Con.leI (s.getD 8 0 + 1) 256, Con.eqN g1 g1, Con.leN ((s.getD 8 0).toNat + 1) ts.length, Con.eqN g0 g0,
    Con.eqN g0 g0, Con.leN 10 s.length, Con.eqN g1 g1, Con.leI 0 (s.getD 9 0), Con.leI (s.getD 9 0 + 1) 256,
    Con.eqN g1 g1, Con.leN ((s.getD 9 0).toNat + 1) ts.length, Con.eqN g0 g0, Con.eqN g0 g0, Con.leN 11 s.length,
    Con.eqN g1 g1, Con.leI 0 (s.getD 10 0), Con.leI (s.getD 10 0 + 1) 256, Con.eqN g1 g1,
    Con.leN ((s.getD 10 0).toNat + 1) ts.length, Con.eqN g0 g0, Con.eqN g0 g0, Con.leN 12 s.length, Con.eqN g1 g1,
    Con.leI 0 (s.getD 11 0), Con.leI (s.getD 11 0 + 1) 256, Con.eqN g1 g1, Con.leN ((s.getD 11 0).toNat + 1) ts.length,
    Con.eqN g0 g0, Con.eqN g0 g0, Con.leN 13 s.length, Con.eqN g1 g1, Con.leI 0 (s.getD 12 0),
    Con.leI (s.getD 12 0 + 1) 256, Con.eqN g1 g1, Con.leN ((s.getD 12 0).toNat + 1) ts.length, Con.eqN g0 g0,
    Con.eqN g0 g0, Con.leN 14 s.length, Con.eqN g1 g1, Con.leI 0 (s.getD 13 0), Con.leI (s.getD 13 0 + 1) 256,
    Con.eqN g1 g1, Con.leN ((s.getD 13 0).toNat + 1) ts.length, Con.eqN g0 g0, Con.eqN g0 g0, Con.leN 15 s.length,
    Con.eqN g1 g1, Con.leI 0 (s.getD 14 0), Con.leI (s.getD 14 0 + 1) 256, Con.eqN g1 g1,
    Con.leN ((s.getD 14 0).toNat + 1) ts.length, Con.eqN g0 g0, Con.eqN g0 g0, Con.leN 16 s.length, Con.eqN g1 g1,
    Con.leI 0 (s.getD 15 0), Con.leI (s.getD 15 0 + 1) 256, Con.eqN g1 g1, Con.leN ((s.getD 15 0).toNat + 1) ts.length]) : OkR (R49 s ts g0 g1 cp0 cp1 ow0 ow1) := OkR.dem (fl := [false, true, true, false, false, false, false, false, false, false, true, true, true, true, true, true, true, true,
    false, true, true, false, false, false, false, false, false, false, true, true, true, true, true, true, true, true,
    true, true, false, true, true, false, false, false, false, false, false, false, true, true, true, true, true, true,
    true, true, true, true, false, true, true, false, false, false, false, false, false, false, true, true, true, true,
    true, true, true, true, true, true, false, true, true, false, false, false, false, false, false, false, true, true,
    true, true, true, true, true, true, true, true, false, true, true, false, false, false, false, false, false, false,
    true, true, true, true, true, true, true, true, true, true, false, true, true, false, false, false, false, false,
    false, false, true, true, true, true, true, true, true, true, true, true, false, true, true, false, false, false,
    false, false, false, false, true, true, true, true, true, true, true, true, true, true, false, true, true, false,
    false, false, false, false, false, false, true, true, true, true, true, true, true, true, true, true, false, true,
    true, false, false, false, false, false, false, false, true, true, true, true, true, true, true, true, true, true,
    false, true, true, false, false, false, false, false, false, false, true, true, true, true, true, true, true, true,
    true, true, false, true, true, false, false, false, false, false, false, false, true, true, true, true, true, true,
    true, true, true, true, false, true, true, false, false, false, false, false, false, false, true, true, true, true,
    true, true, true, true, true, true, false, true, true, false, false, false, false, false, false, false, true, true,
    true, true, true, true, true, true, true, true, false, true, true, false, false, false, false, false, false, false,
    true, true, true, true, true, true, true, true, true, true, false, true, true, false, false, false, false, false,
    false, false, true, true, true, true, true, true, true, true, true, true]) (by kernel_rfl) (by kernel_rfl) (by kernel_rfl) h
theorem R49_val {s ts : List Int} {g0 g1 : Nat} {cp0 cp1 : Option Nat} {ow0 ow1 : Bool} : (R49 s ts g0 g1 cp0 cp1 ow0 ow1).val = AVal.slice 1 2 15 0 16 none := by kernel_rfl
theorem R49_tab {s ts : List Int} {g0 g1 : Nat} {cp0 cp1 : Option Nat} {ow0 ow1 : Bool} : (R49 s ts g0 g1 cp0 cp1 ow0 ow1).tab = [some { data := AVal.ints IntKind.u8 s, g := g0, own := ow0, et := 5 },
    some { data := AVal.ints IntKind.u8 ts, g := g1, own := ow1, et := 5 },
    some
      {
        data :=
          AVal.ints IntKind.u8
            [ts.getD (s.getD 0 0).toNat 0, ts.getD (s.getD 1 0).toNat 0, ts.getD (s.getD 2 0).toNat 0,
              ts.getD (s.getD 3 0).toNat 0, ts.getD (s.getD 4 0).toNat 0, ts.getD (s.getD 5 0).toNat 0,
              ts.getD (s.getD 6 0).toNat 0, ts.getD (s.getD 7 0).toNat 0, ts.getD (s.getD 8 0).toNat 0,
              ts.getD (s.getD 9 0).toNat 0, ts.getD (s.getD 10 0).toNat 0, ts.getD (s.getD 11 0).toNat 0,
              ts.getD (s.getD 12 0).toNat 0, ts.getD (s.getD 13 0).toNat 0, ts.getD (s.getD 14 0).toNat 0,
              ts.getD (s.getD 15 0).toNat 0],
        g := 15, own := true, et := 5 }] := by kernel_rfl
theorem take16 {zs : List Int} (h : 16 ≤ zs.length) : zs.take 16 = l16 fun i => zs.getD i 0 := by
  have hl : (zs.take 16).length = 16 := by simp; omega
  rw [← l16_of hl]
  exact l16_congr fun i hi => by simp only [List.getD_eq_getElem?_getD, List.getElem?_take, if_pos hi]
theorem sub_get {ws : List Int} {a i : Nat} (hi : i < 16) : (subLaw ws a 16).getD i 0 = ws.getD (a + i) 0 := by
  unfold subLaw
  simp only [List.getD_eq_getElem?_getD, List.getElem?_take, List.getElem?_drop, if_pos hi]
theorem take_get {zs : List Int} {i : Nat} (hi : i < 16) : (zs.take 16).getD i 0 = zs.getD i 0 := by
  simp only [List.getD_eq_getElem?_getD, List.getElem?_take, if_pos hi]
def sm47 : Summary := fun args T => match args, T with
  | [.slice 1 0 g0 0 n0 cp0, .slice 1 1 g1 0 n1 cp1, .int .i64 r], [some ⟨.ints .u8 zs, g0', ow0, 5⟩, some ⟨.ints .u8 ws, g1', ow1, 5⟩] =>
    ⟨[.eqN g0 g0', .eqN g1 g1', .leN 16 n0, .leN 16 zs.length, .rng 0 r 10, .leN 176 n1, .leN 176 ws.length, .p (Bytes zs), .p (Bytes ws)], .slice 1 2 15 0 16 none,
      [some ⟨.ints .u8 zs, g0', ow0, 5⟩, some ⟨.ints .u8 ws, g1', ow1, 5⟩, some ⟨.ints .u8 (plusLaw (zs.take 16) (subLaw ws (16 * r.toNat) 16)), 15, true, 5⟩]⟩
  | _, _ => fail
theorem sm47_ok : SmOk prog (fun _ => none) 47 sm47 := by
  intro args T hc
  unfold sm47 at hc ⊢
  split at hc
  · rename_i g0 n0 cp0 g1 n1 cp1 r zs g0' ow0 ws g1' ow1
    obtain ⟨h1, h2, h3, h4, h5, h6, h7, h8, h9, _⟩ := hc
    simp only [Con.h] at h1 h2 h3 h4 h5 h6 h7 h8 h9
    subst h1 h2
    obtain ⟨m, rfl⟩ : ∃ m : Nat, r = m := ⟨r.toNat, by omega⟩
    have e : plusLaw (zs.take 16) (subLaw ws (16 * (m : Int).toNat) 16) = l16 fun i => ixor (zs.getD i 0) (ws.getD (16 * (m : Int) + i).toNat 0) :=
      l16_congr fun i hi => by rw [take_get hi, sub_get hi, show (16 * (m : Int) + i).toNat = 16 * (m : Int).toNat + i by omega]
    simp only
    rw [e]
    refine small_ofG (keep := [0,1,3]) (R := R47 zs ws g0 g1 n0 n1 cp0 cp1 ow0 ow1 m) eA0_ok hmA (f := 47) (fn := f47) (by kernel_rfl) (by kernel_rfl) FnOrc.nil rfl (R47_ok ?_) R47_val R47_tab
    have b0 := fun i => nn8.2 (h8.get i)
    have b1 := fun i => nn8.2 (h9.get i)
    simp only [allP, Con.h, eq_self, true_and, and_true, b0, b1]
    repeat' with_reducible apply And.intro
    all_goals omega
  · exact absurd hc nofail
def S47 : Summary := callR sm47 []
theorem S47_ok : SumOk prog (fun _ => none) 47 S47 := callR_ok sm47_ok []
def sm48 : Summary := fun args T => match args, T with
  | [.slice 1 0 g0 0 16 cp0, .int .i64 n], [some ⟨.ints .u8 s, g0', ow0, 5⟩] =>
    ⟨[.eqN g0 g0', .leN 16 s.length, .p (byLaw n)], .slice 1 1 0 0 16 (some 16), [some ⟨.ints .u8 s, g0', ow0, 5⟩, some ⟨.ints .u8 (turnedLaw n.toNat s), 0, true, 5⟩]⟩
  | _, _ => fail
theorem sm48_ok : SmOk prog (fun _ => none) 48 sm48 := by
  intro args T hc
  unfold sm48 at hc ⊢
  split at hc
  · rename_i g0 cp0 n s g0' ow0
    obtain ⟨h1, h2, h3, _⟩ := hc
    simp only [Con.h] at h1 h2 h3
    subst h1
    rcases h3 with rfl | rfl
    · refine small_of (R := R48a s g0 cp0 ow0) eA0_ok hmA (f := 48) (fn := f48) (by kernel_rfl) (by kernel_rfl) FnOrc.nil rfl (R48a_ok ?_) R48a_val R48a_tab
      simp only [allP, Con.h, eq_self, true_and, and_true]
      omega
    · refine small_of (R := R48b s g0 cp0 ow0) eA0_ok hmA (f := 48) (fn := f48) (by kernel_rfl) (by kernel_rfl) FnOrc.nil rfl (R48b_ok ?_) R48b_val R48b_tab
      simp only [allP, Con.h, eq_self, true_and, and_true]
      omega
  · exact absurd hc nofail
def S48 : Summary := callR sm48 []
theorem S48_ok : SumOk prog (fun _ => none) 48 S48 := callR_ok sm48_ok []
def thruLaw (ts s : List Int) : List Int := l16 fun i => ts.getD (s.getD i 0).toNat 0
def sm49 : Summary := fun args T => match args, T with
  | [.slice 1 0 g0 0 16 cp0, .slice 1 1 g1 0 256 cp1], [some ⟨.ints .u8 s, g0', ow0, 5⟩, some ⟨.ints .u8 ts, g1', ow1, 5⟩] =>
    ⟨[.eqN g0 g0', .eqN g1 g1', .leN 16 s.length, .leN 256 ts.length, .p (Bytes s)], .slice 1 2 15 0 16 none, [some ⟨.ints .u8 s, g0', ow0, 5⟩, some ⟨.ints .u8 ts, g1', ow1, 5⟩, some ⟨.ints .u8 (thruLaw ts s), 15, true, 5⟩]⟩
  | _, _ => fail
theorem sm49_ok : SmOk prog (fun _ => none) 49 sm49 := by
  intro args T hc
  unfold sm49 at hc ⊢
  split at hc
  · rename_i g0 cp0 g1 cp1 s g0' ow0 ts g1' ow1
    obtain ⟨h1, h2, h3, h4, h5, _⟩ := hc
    simp only [Con.h] at h1 h2 h3 h4 h5
    subst h1 h2
    have e : thruLaw ts s = l16 fun i => ts.getD (s.getD i 0).toNat 0 := rfl
    simp only
    rw [e]
    unfold l16
    refine small_ofG (keep := [0,1,3]) (R := R49 s ts g0 g1 cp0 cp1 ow0 ow1) eA0_ok hmA (f := 49) (fn := f49) (by kernel_rfl) (by kernel_rfl) FnOrc.nil rfl (R49_ok ?_) R49_val R49_tab
    have c0 := h5.get 0
    have c1 := h5.get 1
    have c2 := h5.get 2
    have c3 := h5.get 3
    have c4 := h5.get 4
    have c5 := h5.get 5
    have c6 := h5.get 6
    have c7 := h5.get 7
    have c8 := h5.get 8
    have c9 := h5.get 9
    have c10 := h5.get 10
    have c11 := h5.get 11
    have c12 := h5.get 12
    have c13 := h5.get 13
    have c14 := h5.get 14
    have c15 := h5.get 15
    simp only [allP, Con.h, eq_self, true_and, and_true]
    repeat' with_reducible apply And.intro
    all_goals omega
  · exact absurd hc nofail
def S49 : Summary := callR sm49 []
theorem S49_ok : SumOk prog (fun _ => none) 49 S49 := callR_ok sm49_ok []
end Go.Abs
