/- What functions of the given program come to, by the abstract machine: one text of a proof. -/
import Derived.Test.YtlnflmjgnmljeaaBB0
set_option linter.unusedVariables false
set_option linter.unusedSimpArgs false
set_option maxRecDepth 8000
namespace Go.Abs
open Go.Proofs.Try
/-! ### keys, of the program -/
noncomputable def eH : Env := eA [(66, S66)]
theorem eH_ok : EnvOk eH := envOf_ok tysA_ok (SumsOk.cons (fn := f66) S66_ok (by kernel_rfl) (by kernel_rfl) (by kernel_rfl) trivial)
noncomputable def A41 (r c : Int) (xs zz ks tb : List Int) (g g' : Nat) (ow ow' : Bool) : Out := trim 4 4 [0,4,5,6,7] (run eH 81 ⟨4, []⟩ 400 (roundOf 0 f41) [(0, .var 0 g), (4, .var 2 0), (5, .var 3 0), (6, .int .u8 c), (7, .int .i64 r)] [some ⟨.ints .u8 tb, g, ow, 72⟩, some ⟨.ints .u8 ks, g', ow', 5⟩, some ⟨.ints .u8 zz, 0, true, 49⟩, some ⟨.ints .u8 xs, 0, true, 49⟩] [some true])
theorem A41_ok {r c : Int} {xs zz ks tb : List Int} {g g' : Nat} {ow ow' : Bool} (h : allP [Con.p (decide (r < 11) = true), Con.rng (-9223372036854775808) (r - 1) 9223372036854775807, Con.leI 0 (r - 1),
    Con.leI (r - 1 + 1) 11, Con.leN ((r - 1).toNat * 16 + 16) xs.length, Con.leI 0 r, Con.leI (r + 1) 11, Con.leI 0 r,
    Con.leI (r + 1) 11, Con.eqN (List.take 16 (dropO ((r - 1).toNat * 16) xs)).length 16,
    Con.leN 14 (List.take 16 (dropO ((r - 1).toNat * 16) xs)).length, Con.eqN g g, Con.eqN g g,
    Con.leI 0 ((List.take 16 (dropO ((r - 1).toNat * 16) xs)).getD 13 0),
    Con.leI ((List.take 16 (dropO ((r - 1).toNat * 16) xs)).getD 13 0 + 1) 256, Con.eqN g g, Con.eqN g g,
    Con.leN (((List.take 16 (dropO ((r - 1).toNat * 16) xs)).getD 13 0).toNat + 1) tb.length,
    Con.nn IntKind.u8 (tb.getD ((List.take 16 (dropO ((r - 1).toNat * 16) xs)).getD 13 0).toNat 0), Con.nn IntKind.u8 c,
    Con.leN 15 (List.take 16 (dropO ((r - 1).toNat * 16) xs)).length, Con.eqN g g, Con.eqN g g,
    Con.leI 0 ((List.take 16 (dropO ((r - 1).toNat * 16) xs)).getD 14 0),
    Con.leI ((List.take 16 (dropO ((r - 1).toNat * 16) xs)).getD 14 0 + 1) 256, Con.eqN g g, Con.eqN g g,
    Con.leN (((List.take 16 (dropO ((r - 1).toNat * 16) xs)).getD 14 0).toNat + 1) tb.length,
    Con.leN 16 (List.take 16 (dropO ((r - 1).toNat * 16) xs)).length, Con.eqN g g, Con.eqN g g,
    Con.leI 0 ((List.take 16 (dropO ((r - 1).toNat * 16) xs)).getD 15 0),
    Con.leI ((List.take 16 (dropO ((r - 1).toNat * 16) xs)).getD 15 0 + 1) 256, Con.eqN g g, Con.eqN g g,
    Con.leN (((List.take 16 (dropO ((r - 1).toNat * 16) xs)).getD 15 0).toNat + 1) tb.length,
    Con.leN 13 (List.take 16 (dropO ((r - 1).toNat * 16) xs)).length, Con.eqN g g, Con.eqN g g,
    Con.leI 0 ((List.take 16 (dropO ((r - 1).toNat * 16) xs)).getD 12 0),
    Con.leI ((List.take 16 (dropO ((r - 1).toNat * 16) xs)).getD 12 0 + 1) 256, Con.eqN g g, Con.eqN g g,
    Con.leN (((List.take 16 (dropO ((r - 1).toNat * 16) xs)).getD 12 0).toNat + 1) tb.length, Con.rng 0 c 255,
    Con.leN 1 (List.take 16 (dropO ((r - 1).toNat * 16) xs)).length,
    Con.nn IntKind.u8 (ixor (tb.getD ((List.take 16 (dropO ((r - 1).toNat * 16) xs)).getD 13 0).toNat 0) c),
    Con.nn IntKind.u8 ((List.take 16 (dropO ((r - 1).toNat * 16) xs)).getD 0 0),
    Con.leN (addO (r.toNat * 16) 0 + 1) xs.length, Con.leN 2 (List.take 16 (dropO ((r - 1).toNat * 16) xs)).length,
    Con.nn IntKind.u8 (tb.getD ((List.take 16 (dropO ((r - 1).toNat * 16) xs)).getD 14 0).toNat 0),
    Con.nn IntKind.u8 ((List.take 16 (dropO ((r - 1).toNat * 16) xs)).getD 1 0),
    Con.leN (addO (r.toNat * 16) 1 + 1)
      (xs.set (addO (r.toNat * 16) 0)
          (ixor (ixor (tb.getD ((List.take 16 (dropO ((r - 1).toNat * 16) xs)).getD 13 0).toNat 0) c)
            ((List.take 16 (dropO ((r - 1).toNat * 16) xs)).getD 0 0))).length,
    Con.leN 3 (List.take 16 (dropO ((r - 1).toNat * 16) xs)).length,
    Con.nn IntKind.u8 (tb.getD ((List.take 16 (dropO ((r - 1).toNat * 16) xs)).getD 15 0).toNat 0),
    Con.nn IntKind.u8 ((List.take 16 (dropO ((r - 1).toNat * 16) xs)).getD 2 0),
    Con.leN (addO (r.toNat * 16) 2 + 1)
      ((xs.set (addO (r.toNat * 16) 0)
              (ixor (ixor (tb.getD ((List.take 16 (dropO ((r - 1).toNat * 16) xs)).getD 13 0).toNat 0) c)
                ((List.take 16 (dropO ((r - 1).toNat * 16) xs)).getD 0 0))).set
          (addO (r.toNat * 16) 1)
          (ixor (tb.getD ((List.take 16 (dropO ((r - 1).toNat * 16) xs)).getD 14 0).toNat 0)
            ((List.take 16 (dropO ((r - 1).toNat * 16) xs)).getD 1 0))).length,
    Con.leN 4 (List.take 16 (dropO ((r - 1).toNat * 16) xs)).length,
    Con.nn IntKind.u8 (tb.getD ((List.take 16 (dropO ((r - 1).toNat * 16) xs)).getD 12 0).toNat 0),
    Con.nn IntKind.u8 ((List.take 16 (dropO ((r - 1).toNat * 16) xs)).getD 3 0),
    Con.leN (addO (r.toNat * 16) 3 + 1)
      (((xs.set (addO (r.toNat * 16) 0)
                  (ixor (ixor (tb.getD ((List.take 16 (dropO ((r - 1).toNat * 16) xs)).getD 13 0).toNat 0) c)
                    ((List.take 16 (dropO ((r - 1).toNat * 16) xs)).getD 0 0))).set
              (addO (r.toNat * 16) 1)
              (ixor (tb.getD ((List.take 16 (dropO ((r - 1).toNat * 16) xs)).getD 14 0).toNat 0)
                ((List.take 16 (dropO ((r - 1).toNat * 16) xs)).getD 1 0))).set
          (addO (r.toNat * 16) 2)
          (ixor (tb.getD ((List.take 16 (dropO ((r - 1).toNat * 16) xs)).getD 15 0).toNat 0)
            ((List.take 16 (dropO ((r - 1).toNat * 16) xs)).getD 2 0))).length,
    Con.leN 5 (List.take 16 (dropO ((r - 1).toNat * 16) xs)).length,
    Con.nn IntKind.u8
      (ixor (ixor (tb.getD ((List.take 16 (dropO ((r - 1).toNat * 16) xs)).getD 13 0).toNat 0) c)
        ((List.take 16 (dropO ((r - 1).toNat * 16) xs)).getD 0 0)),
    Con.nn IntKind.u8 ((List.take 16 (dropO ((r - 1).toNat * 16) xs)).getD 4 0),
    Con.leN (addO (r.toNat * 16) 4 + 1)
      ((((xs.set (addO (r.toNat * 16) 0)
                      (ixor (ixor (tb.getD ((List.take 16 (dropO ((r - 1).toNat * 16) xs)).getD 13 0).toNat 0) c)
                        ((List.take 16 (dropO ((r - 1).toNat * 16) xs)).getD 0 0))).set
                  (addO (r.toNat * 16) 1)
                  (ixor (tb.getD ((List.take 16 (dropO ((r - 1).toNat * 16) xs)).getD 14 0).toNat 0)
                    ((List.take 16 (dropO ((r - 1).toNat * 16) xs)).getD 1 0))).set
              (addO (r.toNat * 16) 2)
              (ixor (tb.getD ((List.take 16 (dropO ((r - 1).toNat * 16) xs)).getD 15 0).toNat 0)
                ((List.take 16 (dropO ((r - 1).toNat * 16) xs)).getD 2 0))).set
          (addO (r.toNat * 16) 3)
          (ixor (tb.getD ((List.take 16 (dropO ((r - 1).toNat * 16) xs)).getD 12 0).toNat 0)
            ((List.take 16 (dropO ((r - 1).toNat * 16) xs)).getD 3 0))).length,
    Con.leN 6 (List.take 16 (dropO ((r - 1).toNat * 16) xs)).length,
    Con.nn IntKind.u8
      (ixor (tb.getD ((List.take 16 (dropO ((r - 1).toNat * 16) xs)).getD 14 0).toNat 0)
        ((List.take 16 (dropO ((r - 1).toNat * 16) xs)).getD 1 0)),
    Con.nn IntKind.u8 ((List.take 16 (dropO ((r - 1).toNat * 16) xs)).getD 5 0),
    Con.leN (addO (r.toNat * 16) 5 + 1)
      (((((xs.set (addO (r.toNat * 16) 0)
                          (ixor (ixor (tb.getD ((List.take 16 (dropO ((r - 1).toNat * 16) xs)).getD 13 0).toNat 0) c)
                            ((List.take 16 (dropO ((r - 1).toNat * 16) xs)).getD 0 0))).set
                      (addO (r.toNat * 16) 1)
                      (ixor (tb.getD ((List.take 16 (dropO ((r - 1).toNat * 16) xs)).getD 14 0).toNat 0)
                        ((List.take 16 (dropO ((r - 1).toNat * 16) xs)).getD 1 0))).set
                  (addO (r.toNat * 16) 2)
                  (ixor (tb.getD ((List.take 16 (dropO ((r - 1).toNat * 16) xs)).getD 15 0).toNat 0)
                    ((List.take 16 (dropO ((r - 1).toNat * 16) xs)).getD 2 0))).set
              (addO (r.toNat * 16) 3)
              (ixor (tb.getD ((List.take 16 (dropO ((r - 1).toNat * 16) xs)).getD 12 0).toNat 0)
                ((List.take 16 (dropO ((r - 1).toNat * 16) xs)).getD 3 0))).set
          (addO (r.toNat * 16) 4)
          (ixor
            (ixor (ixor (tb.getD ((List.take 16 (dropO ((r - 1).toNat * 16) xs)).getD 13 0).toNat 0) c)
              ((List.take 16 (dropO ((r - 1).toNat * 16) xs)).getD 0 0))
            ((List.take 16 (dropO ((r - 1).toNat * 16) xs)).getD 4 0))).length,
    Con.leN 7 (List.take 16 (dropO ((r - 1).toNat * 16) xs)).length,
    Con.nn IntKind.u8
      (ixor (tb.getD ((List.take 16 (dropO ((r - 1).toNat * 16) xs)).getD 15 0).toNat 0)
        ((List.take 16 (dropO ((r - 1).toNat * 16) xs)).getD 2 0)),
    Con.nn IntKind.u8 ((List.take 16 (dropO ((r - 1).toNat * 16) xs)).getD 6 0),
    Con.leN (addO (r.toNat * 16) 6 + 1)
      ((((((xs.set (addO (r.toNat * 16) 0)
                              (ixor
                                (ixor (tb.getD ((List.take 16 (dropO ((r - 1).toNat * 16) xs)).getD 13 0).toNat 0) c)
                                ((List.take 16 (dropO ((r - 1).toNat * 16) xs)).getD 0 0))).set
                          (addO (r.toNat * 16) 1)
                          (ixor (tb.getD ((List.take 16 (dropO ((r - 1).toNat * 16) xs)).getD 14 0).toNat 0)
                            ((List.take 16 (dropO ((r - 1).toNat * 16) xs)).getD 1 0))).set
                      (addO (r.toNat * 16) 2)
                      (ixor (tb.getD ((List.take 16 (dropO ((r - 1).toNat * 16) xs)).getD 15 0).toNat 0)
                        ((List.take 16 (dropO ((r - 1).toNat * 16) xs)).getD 2 0))).set
                  (addO (r.toNat * 16) 3)
                  (ixor (tb.getD ((List.take 16 (dropO ((r - 1).toNat * 16) xs)).getD 12 0).toNat 0)
                    ((List.take 16 (dropO ((r - 1).toNat * 16) xs)).getD 3 0))).set
              (addO (r.toNat * 16) 4)
              (ixor
                (ixor (ixor (tb.getD ((List.take 16 (dropO ((r - 1).toNat * 16) xs)).getD 13 0).toNat 0) c)
                  ((List.take 16 (dropO ((r - 1).toNat * 16) xs)).getD 0 0))
                ((List.take 16 (dropO ((r - 1).toNat * 16) xs)).getD 4 0))).set
          (addO (r.toNat * 16) 5)
          (ixor
            (ixor (tb.getD ((List.take 16 (dropO ((r - 1).toNat * 16) xs)).getD 14 0).toNat 0)
              ((List.take 16 (dropO ((r - 1).toNat * 16) xs)).getD 1 0))
            ((List.take 16 (dropO ((r - 1).toNat * 16) xs)).getD 5 0))).length,
    Con.leN 8 (List.take 16 (dropO ((r - 1).toNat * 16) xs)).length,
    Con.nn IntKind.u8
      (ixor (tb.getD ((List.take 16 (dropO ((r - 1).toNat * 16) xs)).getD 12 0).toNat 0)
        ((List.take 16 (dropO ((r - 1).toNat * 16) xs)).getD 3 0)),
    Con.nn IntKind.u8 ((List.take 16 (dropO ((r - 1).toNat * 16) xs)).getD 7 0),
    Con.leN (addO (r.toNat * 16) 7 + 1)
      (((((((xs.set (addO (r.toNat * 16) 0)
                                  (ixor
                                    (ixor (tb.getD ((List.take 16 (dropO ((r - 1).toNat * 16) xs)).getD 13 0).toNat 0)
                                      c)
                                    ((List.take 16 (dropO ((r - 1).toNat * 16) xs)).getD 0 0))).set
                              (addO (r.toNat * 16) 1)
                              (ixor (tb.getD ((List.take 16 (dropO ((r - 1).toNat * 16) xs)).getD 14 0).toNat 0)
                                ((List.take 16 (dropO ((r - 1).toNat * 16) xs)).getD 1 0))).set
                          (addO (r.toNat * 16) 2)
                          (ixor (tb.getD ((List.take 16 (dropO ((r - 1).toNat * 16) xs)).getD 15 0).toNat 0)
                            ((List.take 16 (dropO ((r - 1).toNat * 16) xs)).getD 2 0))).set
                      (addO (r.toNat * 16) 3)
                      (ixor (tb.getD ((List.take 16 (dropO ((r - 1).toNat * 16) xs)).getD 12 0).toNat 0)
                        ((List.take 16 (dropO ((r - 1).toNat * 16) xs)).getD 3 0))).set
                  (addO (r.toNat * 16) 4)
                  (ixor
                    (ixor (ixor (tb.getD ((List.take 16 (dropO ((r - 1).toNat * 16) xs)).getD 13 0).toNat 0) c)
                      ((List.take 16 (dropO ((r - 1).toNat * 16) xs)).getD 0 0))
                    ((List.take 16 (dropO ((r - 1).toNat * 16) xs)).getD 4 0))).set
              (addO (r.toNat * 16) 5)
              (ixor
                (ixor (tb.getD ((List.take 16 (dropO ((r - 1).toNat * 16) xs)).getD 14 0).toNat 0)
                  ((List.take 16 (dropO ((r - 1).toNat * 16) xs)).getD 1 0))
                ((List.take 16 (dropO ((r - 1).toNat * 16) xs)).getD 5 0))).set
          (addO (r.toNat * 16) 6)
          (ixor
            (ixor (tb.getD ((List.take 16 (dropO ((r - 1).toNat * 16) xs)).getD 15 0).toNat 0)
              ((List.take 16 (dropO ((r - 1).toNat * 16) xs)).getD 2 0))
            ((List.take 16 (dropO ((r - 1).toNat * 16) xs)).getD 6 0))).length,
    Con.leN 9 (List.take 16 (dropO ((r - 1).toNat * 16) xs)).length,
    Con.nn IntKind.u8
      (ixor
        (ixor (ixor (tb.getD ((List.take 16 (dropO ((r - 1).toNat * 16) xs)).getD 13 0).toNat 0) c)
          ((List.take 16 (dropO ((r - 1).toNat * 16) xs)).getD 0 0))
        ((List.take 16 (dropO ((r - 1).toNat * 16) xs)).getD 4 0)),
    Con.nn IntKind.u8 ((List.take 16 (dropO ((r - 1).toNat * 16) xs)).getD 8 0),
    Con.leN (addO (r.toNat * 16) 8 + 1)
      ((((((((xs.set (addO (r.toNat * 16) 0)
                                      (ixor
                                        (ixor
                                          (tb.getD ((List.take 16 (dropO ((r - 1).toNat * 16) xs)).getD 13 0).toNat 0)
                                          c)
                                        ((List.take 16 (dropO ((r - 1).toNat * 16) xs)).getD 0 0))).set
                                  (addO (r.toNat * 16) 1)
                                  (ixor (tb.getD ((List.take 16 (dropO ((r - 1).toNat * 16) xs)).getD 14 0).toNat 0)
                                    ((List.take 16 (dropO ((r - 1).toNat * 16) xs)).getD 1 0))).set
                              (addO (r.toNat * 16) 2)
                              (ixor (tb.getD ((List.take 16 (dropO ((r - 1).toNat * 16) xs)).getD 15 0).toNat 0)
                                ((List.take 16 (dropO ((r - 1).toNat * 16) xs)).getD 2 0))).set
                          (addO (r.toNat * 16) 3)
                          (ixor (tb.getD ((List.take 16 (dropO ((r - 1).toNat * 16) xs)).getD 12 0).toNat 0)
                            ((List.take 16 (dropO ((r - 1).toNat * 16) xs)).getD 3 0))).set
                      (addO (r.toNat * 16) 4)
                      (ixor
                        (ixor (ixor (tb.getD ((List.take 16 (dropO ((r - 1).toNat * 16) xs)).getD 13 0).toNat 0) c)
                          ((List.take 16 (dropO ((r - 1).toNat * 16) xs)).getD 0 0))
                        ((List.take 16 (dropO ((r - 1).toNat * 16) xs)).getD 4 0))).set
                  (addO (r.toNat * 16) 5)
                  (ixor
                    (ixor (tb.getD ((List.take 16 (dropO ((r - 1).toNat * 16) xs)).getD 14 0).toNat 0)
                      ((List.take 16 (dropO ((r - 1).toNat * 16) xs)).getD 1 0))
                    ((List.take 16 (dropO ((r - 1).toNat * 16) xs)).getD 5 0))).set
              (addO (r.toNat * 16) 6)
              (ixor
                (ixor (tb.getD ((List.take 16 (dropO ((r - 1).toNat * 16) xs)).getD 15 0).toNat 0)
                  ((List.take 16 (dropO ((r - 1).toNat * 16) xs)).getD 2 0))
                ((List.take 16 (dropO ((r - 1).toNat * 16) xs)).getD 6 0))).set
          (addO (r.toNat * 16) 7)
          (ixor
            (ixor (tb.getD ((List.take 16 (dropO ((r - 1).toNat * 16) xs)).getD 12 0).toNat 0)
              ((List.take 16 (dropO ((r - 1).toNat * 16) xs)).getD 3 0))
            ((List.take 16 (dropO ((r - 1).toNat * 16) xs)).getD 7 0))).length,
    Con.leN 10 (List.take 16 (dropO ((r - 1).toNat * 16) xs)).length,
    Con.nn IntKind.u8
      (ixor
        (ixor (tb.getD ((List.take 16 (dropO ((r - 1).toNat * 16) xs)).getD 14 0).toNat 0)
          ((List.take 16 (dropO ((r - 1).toNat * 16) xs)).getD 1 0))
        ((List.take 16 (dropO ((r - 1).toNat * 16) xs)).getD 5 0)),
    Con.nn IntKind.u8 ((List.take 16 (dropO ((r - 1).toNat * 16) xs)).getD 9 0),
    Con.leN (addO (r.toNat * 16) 9 + 1)
      (((((((((xs.set (addO (r.toNat * 16) 0)
                                          (ixor
                                            (ixor
                                              (tb.getD ((List.take 16 (dropO ((r - 1).toNat * 16) xs)).getD 13 0).toNat
                                                0)
                                              c)
                                            ((List.take 16 (dropO ((r - 1).toNat * 16) xs)).getD 0 0))).set
                                      (addO (r.toNat * 16) 1)
                                      (ixor (tb.getD ((List.take 16 (dropO ((r - 1).toNat * 16) xs)).getD 14 0).toNat 0)
                                        ((List.take 16 (dropO ((r - 1).toNat * 16) xs)).getD 1 0))).set
                                  (addO (r.toNat * 16) 2)
                                  (ixor (tb.getD ((List.take 16 (dropO ((r - 1).toNat * 16) xs)).getD 15 0).toNat 0)
                                    ((List.take 16 (dropO ((r - 1).toNat * 16) xs)).getD 2 0))).set
                              (addO (r.toNat * 16) 3)
                              (ixor (tb.getD ((List.take 16 (dropO ((r - 1).toNat * 16) xs)).getD 12 0).toNat 0)
                                ((List.take 16 (dropO ((r - 1).toNat * 16) xs)).getD 3 0))).set
                          (addO (r.toNat * 16) 4)
                          (ixor
                            (ixor (ixor (tb.getD ((List.take 16 (dropO ((r - 1).toNat * 16) xs)).getD 13 0).toNat 0) c)
                              ((List.take 16 (dropO ((r - 1).toNat * 16) xs)).getD 0 0))
                            ((List.take 16 (dropO ((r - 1).toNat * 16) xs)).getD 4 0))).set
                      (addO (r.toNat * 16) 5)
                      (ixor
                        (ixor (tb.getD ((List.take 16 (dropO ((r - 1).toNat * 16) xs)).getD 14 0).toNat 0)
                          ((List.take 16 (dropO ((r - 1).toNat * 16) xs)).getD 1 0))
                        ((List.take 16 (dropO ((r - 1).toNat * 16) xs)).getD 5 0))).set
                  (addO (r.toNat * 16) 6)
                  (ixor
                    (ixor (tb.getD ((List.take 16 (dropO ((r - 1).toNat * 16) xs)).getD 15 0).toNat 0)
                      ((List.take 16 (dropO ((r - 1).toNat * 16) xs)).getD 2 0))
                    ((List.take 16 (dropO ((r - 1).toNat * 16) xs)).getD 6 0))).set
              (addO (r.toNat * 16) 7)
              (ixor
                (ixor (tb.getD ((List.take 16 (dropO ((r - 1).toNat * 16) xs)).getD 12 0).toNat 0)
                  ((List.take 16 (dropO ((r - 1).toNat * 16) xs)).getD 3 0))
                ((List.take 16 (dropO ((r - 1).toNat * 16) xs)).getD 7 0))).set
          (addO (r.toNat * 16) 8)
          (ixor
            (ixor
              (ixor (ixor (tb.getD ((List.take 16 (dropO ((r - 1).toNat * 16) xs)).getD 13 0).toNat 0) c)
                ((List.take 16 (dropO ((r - 1).toNat * 16) xs)).getD 0 0))
              ((List.take 16 (dropO ((r - 1).toNat * 16) xs)).getD 4 0))
            ((List.take 16 (dropO ((r - 1).toNat * 16) xs)).getD 8 0))).length,
    Con.leN 11 (List.take 16 (dropO ((r - 1).toNat * 16) xs)).length,
    Con.nn IntKind.u8
      (ixor
        (ixor (tb.getD ((List.take 16 (dropO ((r - 1).toNat * 16) xs)).getD 15 0).toNat 0)
          ((List.take 16 (dropO ((r - 1).toNat * 16) xs)).getD 2 0))
        ((List.take 16 (dropO ((r - 1).toNat * 16) xs)).getD 6 0)),
    Con.nn IntKind.u8 ((List.take 16 (dropO ((r - 1).toNat * 16) xs)).getD 10 0),
    Con.leN (addO (r.toNat * 16) 10 + 1)
      ((((((((((xs.set (addO (r.toNat * 16) 0)
                                              (ixor
                                                (ixor
                                                  (tb.getD
                                                    ((List.take 16 (dropO ((r - 1).toNat * 16) xs)).getD 13 0).toNat 0)
                                                  c)
                                                ((List.take 16 (dropO ((r - 1).toNat * 16) xs)).getD 0 0))).set
                                          (addO (r.toNat * 16) 1)
                                          (ixor
                                            (tb.getD ((List.take 16 (dropO ((r - 1).toNat * 16) xs)).getD 14 0).toNat 0)
                                            ((List.take 16 (dropO ((r - 1).toNat * 16) xs)).getD 1 0))).set
                                      (addO (r.toNat * 16) 2)
                                      (ixor (tb.getD ((List.take 16 (dropO ((r - 1).toNat * 16) xs)).getD 15 0).toNat 0)
                                        ((List.take 16 (dropO ((r - 1).toNat * 16) xs)).getD 2 0))).set
                                  (addO (r.toNat * 16) 3)
                                  (ixor (tb.getD ((List.take 16 (dropO ((r - 1).toNat * 16) xs)).getD 12 0).toNat 0)
                                    ((List.take 16 (dropO ((r - 1).toNat * 16) xs)).getD 3 0))).set
                              (addO (r.toNat * 16) 4)
                              (ixor
                                (ixor
                                  (ixor (tb.getD ((List.take 16 (dropO ((r - 1).toNat * 16) xs)).getD 13 0).toNat 0) c)
                                  ((List.take 16 (dropO ((r - 1).toNat * 16) xs)).getD 0 0))
                                ((List.take 16 (dropO ((r - 1).toNat * 16) xs)).getD 4 0))).set
                          (addO (r.toNat * 16) 5)
                          (ixor
                            (ixor (tb.getD ((List.take 16 (dropO ((r - 1).toNat * 16) xs)).getD 14 0).toNat 0)
                              ((List.take 16 (dropO ((r - 1).toNat * 16) xs)).getD 1 0))
                            ((List.take 16 (dropO ((r - 1).toNat * 16) xs)).getD 5 0))).set
                      (addO (r.toNat * 16) 6)
                      (ixor
                        (ixor (tb.getD ((List.take 16 (dropO ((r - 1).toNat * 16) xs)).getD 15 0).toNat 0)
                          ((List.take 16 (dropO ((r - 1).toNat * 16) xs)).getD 2 0))
                        ((List.take 16 (dropO ((r - 1).toNat * 16) xs)).getD 6 0))).set
                  (addO (r.toNat * 16) 7)
                  (ixor
                    (ixor (tb.getD ((List.take 16 (dropO ((r - 1).toNat * 16) xs)).getD 12 0).toNat 0)
                      ((List.take 16 (dropO ((r - 1).toNat * 16) xs)).getD 3 0))
                    ((List.take 16 (dropO ((r - 1).toNat * 16) xs)).getD 7 0))).set
              (addO (r.toNat * 16) 8)
              (ixor
                (ixor
                  (ixor (ixor (tb.getD ((List.take 16 (dropO ((r - 1).toNat * 16) xs)).getD 13 0).toNat 0) c)
                    ((List.take 16 (dropO ((r - 1).toNat * 16) xs)).getD 0 0))
                  ((List.take 16 (dropO ((r - 1).toNat * 16) xs)).getD 4 0))
                ((List.take 16 (dropO ((r - 1).toNat * 16) xs)).getD 8 0))).set
          (addO (r.toNat * 16) 9)
          (ixor
            (ixor
              (ixor (tb.getD ((List.take 16 (dropO ((r - 1).toNat * 16) xs)).getD 14 0).toNat 0)
                ((List.take 16 (dropO ((r - 1).toNat * 16) xs)).getD 1 0))
              ((List.take 16 (dropO ((r - 1).toNat * 16) xs)).getD 5 0))
            ((List.take 16 (dropO ((r - 1).toNat * 16) xs)).getD 9 0))).length,
    Con.leN 12 (List.take 16 (dropO ((r - 1).toNat * 16) xs)).length,
    Con.nn IntKind.u8
      (ixor
        (ixor (tb.getD ((List.take 16 (dropO ((r - 1).toNat * 16) xs)).getD 12 0).toNat 0)
          ((List.take 16 (dropO ((r - 1).toNat * 16) xs)).getD 3 0))
        ((List.take 16 (dropO ((r - 1).toNat * 16) xs)).getD 7 0)),
    Con.nn IntKind.u8 ((List.take 16 (dropO ((r - 1).toNat * 16) xs)).getD 11 0),
    Con.leN (addO (r.toNat * 16) 11 + 1)
      (((((((((((xs.set (addO (r.toNat * 16) 0)
                                                  (ixor
                                                    (ixor
                                                      (tb.getD
                                                        ((List.take 16 (dropO ((r - 1).toNat * 16) xs)).getD 13 0).toNat
                                                        0)
                                                      c)
                                                    ((List.take 16 (dropO ((r - 1).toNat * 16) xs)).getD 0 0))).set
                                              (addO (r.toNat * 16) 1)
                                              (ixor
                                                (tb.getD
                                                  ((List.take 16 (dropO ((r - 1).toNat * 16) xs)).getD 14 0).toNat 0)
                                                ((List.take 16 (dropO ((r - 1).toNat * 16) xs)).getD 1 0))).set
                                          (addO (r.toNat * 16) 2)
                                          (ixor
                                            (tb.getD ((List.take 16 (dropO ((r - 1).toNat * 16) xs)).getD 15 0).toNat 0)
                                            ((List.take 16 (dropO ((r - 1).toNat * 16) xs)).getD 2 0))).set
                                      (addO (r.toNat * 16) 3)
                                      (ixor (tb.getD ((List.take 16 (dropO ((r - 1).toNat * 16) xs)).getD 12 0).toNat 0)
                                        ((List.take 16 (dropO ((r - 1).toNat * 16) xs)).getD 3 0))).set
                                  (addO (r.toNat * 16) 4)
                                  (ixor
                                    (ixor
                                      (ixor (tb.getD ((List.take 16 (dropO ((r - 1).toNat * 16) xs)).getD 13 0).toNat 0)
                                        c)
                                      ((List.take 16 (dropO ((r - 1).toNat * 16) xs)).getD 0 0))
                                    ((List.take 16 (dropO ((r - 1).toNat * 16) xs)).getD 4 0))).set
                              (addO (r.toNat * 16) 5)
                              (ixor
                                (ixor (tb.getD ((List.take 16 (dropO ((r - 1).toNat * 16) xs)).getD 14 0).toNat 0)
                                  ((List.take 16 (dropO ((r - 1).toNat * 16) xs)).getD 1 0))
                                ((List.take 16 (dropO ((r - 1).toNat * 16) xs)).getD 5 0))).set
                          (addO (r.toNat * 16) 6)
                          (ixor
                            (ixor (tb.getD ((List.take 16 (dropO ((r - 1).toNat * 16) xs)).getD 15 0).toNat 0)
                              ((List.take 16 (dropO ((r - 1).toNat * 16) xs)).getD 2 0))
                            ((List.take 16 (dropO ((r - 1).toNat * 16) xs)).getD 6 0))).set
                      (addO (r.toNat * 16) 7)
                      (ixor
                        (ixor (tb.getD ((List.take 16 (dropO ((r - 1).toNat * 16) xs)).getD 12 0).toNat 0)
                          ((List.take 16 (dropO ((r - 1).toNat * 16) xs)).getD 3 0))
                        ((List.take 16 (dropO ((r - 1).toNat * 16) xs)).getD 7 0))).set
                  (addO (r.toNat * 16) 8)
                  (ixor
                    (ixor
                      (ixor (ixor (tb.getD ((List.take 16 (dropO ((r - 1).toNat * 16) xs)).getD 13 0).toNat 0) c)
                        ((List.take 16 (dropO ((r - 1).toNat * 16) xs)).getD 0 0))
                      ((List.take 16 (dropO ((r - 1).toNat * 16) xs)).getD 4 0))
                    ((List.take 16 (dropO ((r - 1).toNat * 16) xs)).getD 8 0))).set
              (addO (r.toNat * 16) 9)
              (ixor
                (ixor
                  (ixor (tb.getD ((List.take 16 (dropO ((r - 1).toNat * 16) xs)).getD 14 0).toNat 0)
                    ((List.take 16 (dropO ((r - 1).toNat * 16) xs)).getD 1 0))
                  ((List.take 16 (dropO ((r - 1).toNat * 16) xs)).getD 5 0))
                ((List.take 16 (dropO ((r - 1).toNat * 16) xs)).getD 9 0))).set
          (addO (r.toNat * 16) 10)
          (ixor
            (ixor
              (ixor (tb.getD ((List.take 16 (dropO ((r - 1).toNat * 16) xs)).getD 15 0).toNat 0)
                ((List.take 16 (dropO ((r - 1).toNat * 16) xs)).getD 2 0))
              ((List.take 16 (dropO ((r - 1).toNat * 16) xs)).getD 6 0))
            ((List.take 16 (dropO ((r - 1).toNat * 16) xs)).getD 10 0))).length,
    Con.leN 13 (List.take 16 (dropO ((r - 1).toNat * 16) xs)).length,
    Con.nn IntKind.u8
      (ixor
        (ixor
          (ixor (ixor (tb.getD ((List.take 16 (dropO ((r - 1).toNat * 16) xs)).getD 13 0).toNat 0) c)
            ((List.take 16 (dropO ((r - 1).toNat * 16) xs)).getD 0 0))
          ((List.take 16 (dropO ((r - 1).toNat * 16) xs)).getD 4 0))
        ((List.take 16 (dropO ((r - 1).toNat * 16) xs)).getD 8 0)),
    Con.nn IntKind.u8 ((List.take 16 (dropO ((r - 1).toNat * 16) xs)).getD 12 0),
    Con.leN (addO (r.toNat * 16) 12 + 1)
      ((((((((((((xs.set (addO (r.toNat * 16) 0)
                                                      (ixor
                                                        (ixor
                                                          (tb.getD
                                                            ((List.take 16 (dropO ((r - 1).toNat * 16) xs)).getD 13
                                                                0).toNat
                                                            0)
                                                          c)
                                                        ((List.take 16 (dropO ((r - 1).toNat * 16) xs)).getD 0 0))).set
                                                  (addO (r.toNat * 16) 1)
                                                  (ixor
                                                    (tb.getD
                                                      ((List.take 16 (dropO ((r - 1).toNat * 16) xs)).getD 14 0).toNat
                                                      0)
                                                    ((List.take 16 (dropO ((r - 1).toNat * 16) xs)).getD 1 0))).set
                                              (addO (r.toNat * 16) 2)
                                              (ixor
                                                (tb.getD
                                                  ((List.take 16 (dropO ((r - 1).toNat * 16) xs)).getD 15 0).toNat 0)
                                                ((List.take 16 (dropO ((r - 1).toNat * 16) xs)).getD 2 0))).set
                                          (addO (r.toNat * 16) 3)
                                          (ixor
                                            (tb.getD ((List.take 16 (dropO ((r - 1).toNat * 16) xs)).getD 12 0).toNat 0)
                                            ((List.take 16 (dropO ((r - 1).toNat * 16) xs)).getD 3 0))).set
                                      (addO (r.toNat * 16) 4)
                                      (ixor
                                        (ixor
                                          (ixor
                                            (tb.getD ((List.take 16 (dropO ((r - 1).toNat * 16) xs)).getD 13 0).toNat 0)
                                            c)
                                          ((List.take 16 (dropO ((r - 1).toNat * 16) xs)).getD 0 0))
                                        ((List.take 16 (dropO ((r - 1).toNat * 16) xs)).getD 4 0))).set
                                  (addO (r.toNat * 16) 5)
                                  (ixor
                                    (ixor (tb.getD ((List.take 16 (dropO ((r - 1).toNat * 16) xs)).getD 14 0).toNat 0)
                                      ((List.take 16 (dropO ((r - 1).toNat * 16) xs)).getD 1 0))
                                    ((List.take 16 (dropO ((r - 1).toNat * 16) xs)).getD 5 0))).set
                              (addO (r.toNat * 16) 6)
                              (ixor
                                (ixor (tb.getD ((List.take 16 (dropO ((r - 1).toNat * 16) xs)).getD 15 0).toNat 0)
                                  ((List.take 16 (dropO ((r - 1).toNat * 16) xs)).getD 2 0))
                                ((List.take 16 (dropO ((r - 1).toNat * 16) xs)).getD 6 0))).set
                          (addO (r.toNat * 16) 7)
                          (ixor
                            (ixor (tb.getD ((List.take 16 (dropO ((r - 1).toNat * 16) xs)).getD 12 0).toNat 0)
                              ((List.take 16 (dropO ((r - 1).toNat * 16) xs)).getD 3 0))
                            ((List.take 16 (dropO ((r - 1).toNat * 16) xs)).getD 7 0))).set
                      (addO (r.toNat * 16) 8)
                      (ixor
                        (ixor
                          (ixor (ixor (tb.getD ((List.take 16 (dropO ((r - 1).toNat * 16) xs)).getD 13 0).toNat 0) c)
                            ((List.take 16 (dropO ((r - 1).toNat * 16) xs)).getD 0 0))
                          ((List.take 16 (dropO ((r - 1).toNat * 16) xs)).getD 4 0))
                        ((List.take 16 (dropO ((r - 1).toNat * 16) xs)).getD 8 0))).set
                  (addO (r.toNat * 16) 9)
                  (ixor
                    (ixor
                      (ixor (tb.getD ((List.take 16 (dropO ((r - 1).toNat * 16) xs)).getD 14 0).toNat 0)
                        ((List.take 16 (dropO ((r - 1).toNat * 16) xs)).getD 1 0))
                      ((List.take 16 (dropO ((r - 1).toNat * 16) xs)).getD 5 0))
                    ((List.take 16 (dropO ((r - 1).toNat * 16) xs)).getD 9 0))).set
              (addO (r.toNat * 16) 10)
              (ixor
                (ixor
                  (ixor (tb.getD ((List.take 16 (dropO ((r - 1).toNat * 16) xs)).getD 15 0).toNat 0)
                    ((List.take 16 (dropO ((r - 1).toNat * 16) xs)).getD 2 0))
                  ((List.take 16 (dropO ((r - 1).toNat * 16) xs)).getD 6 0))
                ((List.take 16 (dropO ((r - 1).toNat * 16) xs)).getD 10 0))).set
          (addO (r.toNat * 16) 11)
          (ixor
            (ixor
              (ixor (tb.getD ((List.take 16 (dropO ((r - 1).toNat * 16) xs)).getD 12 0).toNat 0)
                ((List.take 16 (dropO ((r - 1).toNat * 16) xs)).getD 3 0))
              ((List.take 16 (dropO ((r - 1).toNat * 16) xs)).getD 7 0))
            ((List.take 16 (dropO ((r - 1).toNat * 16) xs)).getD 11 0))).length,
    Con.leN 14 (List.take 16 (dropO ((r - 1).toNat * 16) xs)).length,
    Con.nn IntKind.u8
      (ixor
        (ixor
          (ixor (tb.getD ((List.take 16 (dropO ((r - 1).toNat * 16) xs)).getD 14 0).toNat 0)
            ((List.take 16 (dropO ((r - 1).toNat * 16) xs)).getD 1 0))
          ((List.take 16 (dropO ((r - 1).toNat * 16) xs)).getD 5 0))
        ((List.take 16 (dropO ((r - 1).toNat * 16) xs)).getD 9 0)),
    Con.nn IntKind.u8 ((List.take 16 (dropO ((r - 1).toNat * 16) xs)).getD 13 0),
    Con.leN (addO (r.toNat * 16) 13 + 1)
      (((((((((((((xs.set (addO (r.toNat * 16) 0)
                                                          (ixor
                                                            (ixor
                                                              (tb.getD
                                                                ((List.take 16 (dropO ((r - 1).toNat * 16) xs)).getD 13
                                                                    0).toNat
                                                                0)
                                                              c)
                                                            ((List.take 16 (dropO ((r - 1).toNat * 16) xs)).getD 0
                                                              0))).set
                                                      (addO (r.toNat * 16) 1)
                                                      (ixor
                                                        (tb.getD
                                                          ((List.take 16 (dropO ((r - 1).toNat * 16) xs)).getD 14
                                                              0).toNat
                                                          0)
                                                        ((List.take 16 (dropO ((r - 1).toNat * 16) xs)).getD 1 0))).set
                                                  (addO (r.toNat * 16) 2)
                                                  (ixor
                                                    (tb.getD
                                                      ((List.take 16 (dropO ((r - 1).toNat * 16) xs)).getD 15 0).toNat
                                                      0)
                                                    ((List.take 16 (dropO ((r - 1).toNat * 16) xs)).getD 2 0))).set
                                              (addO (r.toNat * 16) 3)
                                              (ixor
                                                (tb.getD
                                                  ((List.take 16 (dropO ((r - 1).toNat * 16) xs)).getD 12 0).toNat 0)
                                                ((List.take 16 (dropO ((r - 1).toNat * 16) xs)).getD 3 0))).set
                                          (addO (r.toNat * 16) 4)
                                          (ixor
                                            (ixor
                                              (ixor
                                                (tb.getD
                                                  ((List.take 16 (dropO ((r - 1).toNat * 16) xs)).getD 13 0).toNat 0)
                                                c)
                                              ((List.take 16 (dropO ((r - 1).toNat * 16) xs)).getD 0 0))
                                            ((List.take 16 (dropO ((r - 1).toNat * 16) xs)).getD 4 0))).set
                                      (addO (r.toNat * 16) 5)
                                      (ixor
                                        (ixor
                                          (tb.getD ((List.take 16 (dropO ((r - 1).toNat * 16) xs)).getD 14 0).toNat 0)
                                          ((List.take 16 (dropO ((r - 1).toNat * 16) xs)).getD 1 0))
                                        ((List.take 16 (dropO ((r - 1).toNat * 16) xs)).getD 5 0))).set
                                  (addO (r.toNat * 16) 6)
                                  (ixor
                                    (ixor (tb.getD ((List.take 16 (dropO ((r - 1).toNat * 16) xs)).getD 15 0).toNat 0)
                                      ((List.take 16 (dropO ((r - 1).toNat * 16) xs)).getD 2 0))
                                    ((List.take 16 (dropO ((r - 1).toNat * 16) xs)).getD 6 0))).set
                              (addO (r.toNat * 16) 7)
                              (ixor
                                (ixor (tb.getD ((List.take 16 (dropO ((r - 1).toNat * 16) xs)).getD 12 0).toNat 0)
                                  ((List.take 16 (dropO ((r - 1).toNat * 16) xs)).getD 3 0))
                                ((List.take 16 (dropO ((r - 1).toNat * 16) xs)).getD 7 0))).set
                          (addO (r.toNat * 16) 8)
                          (ixor
                            (ixor
                              (ixor
                                (ixor (tb.getD ((List.take 16 (dropO ((r - 1).toNat * 16) xs)).getD 13 0).toNat 0) c)
                                ((List.take 16 (dropO ((r - 1).toNat * 16) xs)).getD 0 0))
                              ((List.take 16 (dropO ((r - 1).toNat * 16) xs)).getD 4 0))
                            ((List.take 16 (dropO ((r - 1).toNat * 16) xs)).getD 8 0))).set
                      (addO (r.toNat * 16) 9)
                      (ixor
                        (ixor
                          (ixor (tb.getD ((List.take 16 (dropO ((r - 1).toNat * 16) xs)).getD 14 0).toNat 0)
                            ((List.take 16 (dropO ((r - 1).toNat * 16) xs)).getD 1 0))
                          ((List.take 16 (dropO ((r - 1).toNat * 16) xs)).getD 5 0))
                        ((List.take 16 (dropO ((r - 1).toNat * 16) xs)).getD 9 0))).set
                  (addO (r.toNat * 16) 10)
                  (ixor
                    (ixor
                      (ixor (tb.getD ((List.take 16 (dropO ((r - 1).toNat * 16) xs)).getD 15 0).toNat 0)
                        ((List.take 16 (dropO ((r - 1).toNat * 16) xs)).getD 2 0))
                      ((List.take 16 (dropO ((r - 1).toNat * 16) xs)).getD 6 0))
                    ((List.take 16 (dropO ((r - 1).toNat * 16) xs)).getD 10 0))).set
              (addO (r.toNat * 16) 11)
              (ixor
                (ixor
                  (ixor (tb.getD ((List.take 16 (dropO ((r - 1).toNat * 16) xs)).getD 12 0).toNat 0)
                    ((List.take 16 (dropO ((r - 1).toNat * 16) xs)).getD 3 0))
                  ((List.take 16 (dropO ((r - 1).toNat * 16) xs)).getD 7 0))
                ((List.take 16 (dropO ((r - 1).toNat * 16) xs)).getD 11 0))).set
          (addO (r.toNat * 16) 12)
          (ixor
            (ixor
              (ixor
                (ixor (ixor (tb.getD ((List.take 16 (dropO ((r - 1).toNat * 16) xs)).getD 13 0).toNat 0) c)
                  ((List.take 16 (dropO ((r - 1).toNat * 16) xs)).getD 0 0))
                ((List.take 16 (dropO ((r - 1).toNat * 16) xs)).getD 4 0))
              ((List.take 16 (dropO ((r - 1).toNat * 16) xs)).getD 8 0))
            ((List.take 16 (dropO ((r - 1).toNat * 16) xs)).getD 12 0))).length,
    Con.leN 15 (List.take 16 (dropO ((r - 1).toNat * 16) xs)).length,
    Con.nn IntKind.u8
      (ixor
        (ixor
          (ixor (tb.getD ((List.take 16 (dropO ((r - 1).toNat * 16) xs)).getD 15 0).toNat 0)
            ((List.take 16 (dropO ((r - 1).toNat * 16) xs)).getD 2 0))
          ((List.take 16 (dropO ((r - 1).toNat * 16) xs)).getD 6 0))
        ((List.take 16 (dropO ((r - 1).toNat * 16) xs)).getD 10 0)),
    Con.nn IntKind.u8 ((List.take 16 (dropO ((r - 1).toNat * 16) xs)).getD 14 0),
    Con.leN (addO (r.toNat * 16) 14 + 1)
      ((((((((((((((xs.set (addO (r.toNat * 16) 0)
                                                              (ixor
                                                                (ixor
                                                                  (tb.getD
                                                                    ((List.take 16 (dropO ((r - 1).toNat * 16) xs)).getD
                                                                        13 0).toNat
                                                                    0)
                                                                  c)
                                                                ((List.take 16 (dropO ((r - 1).toNat * 16) xs)).getD 0
                                                                  0))).set
                                                          (addO (r.toNat * 16) 1)
                                                          (ixor
                                                            (tb.getD
                                                              ((List.take 16 (dropO ((r - 1).toNat * 16) xs)).getD 14
                                                                  0).toNat
                                                              0)
                                                            ((List.take 16 (dropO ((r - 1).toNat * 16) xs)).getD 1
                                                              0))).set
                                                      (addO (r.toNat * 16) 2)
                                                      (ixor
                                                        (tb.getD
                                                          ((List.take 16 (dropO ((r - 1).toNat * 16) xs)).getD 15
                                                              0).toNat
                                                          0)
                                                        ((List.take 16 (dropO ((r - 1).toNat * 16) xs)).getD 2 0))).set
                                                  (addO (r.toNat * 16) 3)
                                                  (ixor
                                                    (tb.getD
                                                      ((List.take 16 (dropO ((r - 1).toNat * 16) xs)).getD 12 0).toNat
                                                      0)
                                                    ((List.take 16 (dropO ((r - 1).toNat * 16) xs)).getD 3 0))).set
                                              (addO (r.toNat * 16) 4)
                                              (ixor
                                                (ixor
                                                  (ixor
                                                    (tb.getD
                                                      ((List.take 16 (dropO ((r - 1).toNat * 16) xs)).getD 13 0).toNat
                                                      0)
                                                    c)
                                                  ((List.take 16 (dropO ((r - 1).toNat * 16) xs)).getD 0 0))
                                                ((List.take 16 (dropO ((r - 1).toNat * 16) xs)).getD 4 0))).set
                                          (addO (r.toNat * 16) 5)
                                          (ixor
                                            (ixor
                                              (tb.getD ((List.take 16 (dropO ((r - 1).toNat * 16) xs)).getD 14 0).toNat
                                                0)
                                              ((List.take 16 (dropO ((r - 1).toNat * 16) xs)).getD 1 0))
                                            ((List.take 16 (dropO ((r - 1).toNat * 16) xs)).getD 5 0))).set
                                      (addO (r.toNat * 16) 6)
                                      (ixor
                                        (ixor
                                          (tb.getD ((List.take 16 (dropO ((r - 1).toNat * 16) xs)).getD 15 0).toNat 0)
                                          ((List.take 16 (dropO ((r - 1).toNat * 16) xs)).getD 2 0))
                                        ((List.take 16 (dropO ((r - 1).toNat * 16) xs)).getD 6 0))).set
                                  (addO (r.toNat * 16) 7)
                                  (ixor
                                    (ixor (tb.getD ((List.take 16 (dropO ((r - 1).toNat * 16) xs)).getD 12 0).toNat 0)
                                      ((List.take 16 (dropO ((r - 1).toNat * 16) xs)).getD 3 0))
                                    ((List.take 16 (dropO ((r - 1).toNat * 16) xs)).getD 7 0))).set
                              (addO (r.toNat * 16) 8)
                              (ixor
                                (ixor
                                  (ixor
                                    (ixor (tb.getD ((List.take 16 (dropO ((r - 1).toNat * 16) xs)).getD 13 0).toNat 0)
                                      c)
                                    ((List.take 16 (dropO ((r - 1).toNat * 16) xs)).getD 0 0))
                                  ((List.take 16 (dropO ((r - 1).toNat * 16) xs)).getD 4 0))
                                ((List.take 16 (dropO ((r - 1).toNat * 16) xs)).getD 8 0))).set
                          (addO (r.toNat * 16) 9)
                          (ixor
                            (ixor
                              (ixor (tb.getD ((List.take 16 (dropO ((r - 1).toNat * 16) xs)).getD 14 0).toNat 0)
                                ((List.take 16 (dropO ((r - 1).toNat * 16) xs)).getD 1 0))
                              ((List.take 16 (dropO ((r - 1).toNat * 16) xs)).getD 5 0))
                            ((List.take 16 (dropO ((r - 1).toNat * 16) xs)).getD 9 0))).set
                      (addO (r.toNat * 16) 10)
                      (ixor
                        (ixor
                          (ixor (tb.getD ((List.take 16 (dropO ((r - 1).toNat * 16) xs)).getD 15 0).toNat 0)
                            ((List.take 16 (dropO ((r - 1).toNat * 16) xs)).getD 2 0))
                          ((List.take 16 (dropO ((r - 1).toNat * 16) xs)).getD 6 0))
                        ((List.take 16 (dropO ((r - 1).toNat * 16) xs)).getD 10 0))).set
                  (addO (r.toNat * 16) 11)
                  (ixor
                    (ixor
                      (ixor (tb.getD ((List.take 16 (dropO ((r - 1).toNat * 16) xs)).getD 12 0).toNat 0)
                        ((List.take 16 (dropO ((r - 1).toNat * 16) xs)).getD 3 0))
                      ((List.take 16 (dropO ((r - 1).toNat * 16) xs)).getD 7 0))
                    ((List.take 16 (dropO ((r - 1).toNat * 16) xs)).getD 11 0))).set
              (addO (r.toNat * 16) 12)
              (ixor
                (ixor
                  (ixor
                    (ixor (ixor (tb.getD ((List.take 16 (dropO ((r - 1).toNat * 16) xs)).getD 13 0).toNat 0) c)
                      ((List.take 16 (dropO ((r - 1).toNat * 16) xs)).getD 0 0))
                    ((List.take 16 (dropO ((r - 1).toNat * 16) xs)).getD 4 0))
                  ((List.take 16 (dropO ((r - 1).toNat * 16) xs)).getD 8 0))
                ((List.take 16 (dropO ((r - 1).toNat * 16) xs)).getD 12 0))).set
          (addO (r.toNat * 16) 13)
          (ixor
            (ixor
              (ixor
                (ixor (tb.getD ((List.take 16 (dropO ((r - 1).toNat * 16) xs)).getD 14 0).toNat 0)
                  ((List.take 16 (dropO ((r - 1).toNat * 16) xs)).getD 1 0))
                ((List.take 16 (dropO ((r - 1).toNat * 16) xs)).getD 5 0))
              ((List.take 16 (dropO ((r - 1).toNat * 16) xs)).getD 9 0))
            ((List.take 16 (dropO ((r - 1).toNat * 16) xs)).getD 13 0))).length,
    Con.leN 16 (List.take 16 (dropO ((r - 1).toNat * 16) xs)).length,
    Con.nn IntKind.u8
      (ixor
        (ixor
          (ixor (tb.getD ((List.take 16 (dropO ((r - 1).toNat * 16) xs)).getD 12 0).toNat 0)
            ((List.take 16 (dropO ((r - 1).toNat * 16) xs)).getD 3 0))
          ((List.take 16 (dropO ((r - 1).toNat * 16) xs)).getD 7 0))
        ((List.take 16 (dropO ((r - 1).toNat * 16) xs)).getD 11 0)),
    Con.nn IntKind.u8 ((List.take 16 (dropO ((r - 1).toNat * 16) xs)).getD 15 0),
    Con.leN (addO (r.toNat * 16) 15 + 1)
      (((((((((((((((xs.set (addO (r.toNat * 16) 0)
                                                                  (ixor
                                                                    (ixor
                                                                      (tb.getD
                                                                        ((List.take 16
                                                                                (dropO ((r - 1).toNat * 16) xs)).getD
                                                                            13 0).toNat
                                                                        0)
                                                                      c)
                                                                    ((List.take 16 (dropO ((r - 1).toNat * 16) xs)).getD
                                                                      0 0))).set
                                                              (addO (r.toNat * 16) 1)
                                                              (ixor
                                                                (tb.getD
                                                                  ((List.take 16 (dropO ((r - 1).toNat * 16) xs)).getD
                                                                      14 0).toNat
                                                                  0)
                                                                ((List.take 16 (dropO ((r - 1).toNat * 16) xs)).getD 1
                                                                  0))).set
                                                          (addO (r.toNat * 16) 2)
                                                          (ixor
                                                            (tb.getD
                                                              ((List.take 16 (dropO ((r - 1).toNat * 16) xs)).getD 15
                                                                  0).toNat
                                                              0)
                                                            ((List.take 16 (dropO ((r - 1).toNat * 16) xs)).getD 2
                                                              0))).set
                                                      (addO (r.toNat * 16) 3)
                                                      (ixor
                                                        (tb.getD
                                                          ((List.take 16 (dropO ((r - 1).toNat * 16) xs)).getD 12
                                                              0).toNat
                                                          0)
                                                        ((List.take 16 (dropO ((r - 1).toNat * 16) xs)).getD 3 0))).set
                                                  (addO (r.toNat * 16) 4)
                                                  (ixor
                                                    (ixor
                                                      (ixor
                                                        (tb.getD
                                                          ((List.take 16 (dropO ((r - 1).toNat * 16) xs)).getD 13
                                                              0).toNat
                                                          0)
                                                        c)
                                                      ((List.take 16 (dropO ((r - 1).toNat * 16) xs)).getD 0 0))
                                                    ((List.take 16 (dropO ((r - 1).toNat * 16) xs)).getD 4 0))).set
                                              (addO (r.toNat * 16) 5)
                                              (ixor
                                                (ixor
                                                  (tb.getD
                                                    ((List.take 16 (dropO ((r - 1).toNat * 16) xs)).getD 14 0).toNat 0)
                                                  ((List.take 16 (dropO ((r - 1).toNat * 16) xs)).getD 1 0))
                                                ((List.take 16 (dropO ((r - 1).toNat * 16) xs)).getD 5 0))).set
                                          (addO (r.toNat * 16) 6)
                                          (ixor
                                            (ixor
                                              (tb.getD ((List.take 16 (dropO ((r - 1).toNat * 16) xs)).getD 15 0).toNat
                                                0)
                                              ((List.take 16 (dropO ((r - 1).toNat * 16) xs)).getD 2 0))
                                            ((List.take 16 (dropO ((r - 1).toNat * 16) xs)).getD 6 0))).set
                                      (addO (r.toNat * 16) 7)
                                      (ixor
                                        (ixor
                                          (tb.getD ((List.take 16 (dropO ((r - 1).toNat * 16) xs)).getD 12 0).toNat 0)
                                          ((List.take 16 (dropO ((r - 1).toNat * 16) xs)).getD 3 0))
                                        ((List.take 16 (dropO ((r - 1).toNat * 16) xs)).getD 7 0))).set
                                  (addO (r.toNat * 16) 8)
                                  (ixor
                                    (ixor
                                      (ixor
                                        (ixor
                                          (tb.getD ((List.take 16 (dropO ((r - 1).toNat * 16) xs)).getD 13 0).toNat 0)
                                          c)
                                        ((List.take 16 (dropO ((r - 1).toNat * 16) xs)).getD 0 0))
                                      ((List.take 16 (dropO ((r - 1).toNat * 16) xs)).getD 4 0))
                                    ((List.take 16 (dropO ((r - 1).toNat * 16) xs)).getD 8 0))).set
                              (addO (r.toNat * 16) 9)
                              (ixor
                                (ixor
                                  (ixor (tb.getD ((List.take 16 (dropO ((r - 1).toNat * 16) xs)).getD 14 0).toNat 0)
                                    ((List.take 16 (dropO ((r - 1).toNat * 16) xs)).getD 1 0))
                                  ((List.take 16 (dropO ((r - 1).toNat * 16) xs)).getD 5 0))
                                ((List.take 16 (dropO ((r - 1).toNat * 16) xs)).getD 9 0))).set
                          (addO (r.toNat * 16) 10)
                          (ixor
                            (ixor
                              (ixor (tb.getD ((List.take 16 (dropO ((r - 1).toNat * 16) xs)).getD 15 0).toNat 0)
                                ((List.take 16 (dropO ((r - 1).toNat * 16) xs)).getD 2 0))
                              ((List.take 16 (dropO ((r - 1).toNat * 16) xs)).getD 6 0))
                            ((List.take 16 (dropO ((r - 1).toNat * 16) xs)).getD 10 0))).set
                      (addO (r.toNat * 16) 11)
                      (ixor
                        (ixor
                          (ixor (tb.getD ((List.take 16 (dropO ((r - 1).toNat * 16) xs)).getD 12 0).toNat 0)
                            ((List.take 16 (dropO ((r - 1).toNat * 16) xs)).getD 3 0))
                          ((List.take 16 (dropO ((r - 1).toNat * 16) xs)).getD 7 0))
                        ((List.take 16 (dropO ((r - 1).toNat * 16) xs)).getD 11 0))).set
                  (addO (r.toNat * 16) 12)
                  (ixor
                    (ixor
                      (ixor
                        (ixor (ixor (tb.getD ((List.take 16 (dropO ((r - 1).toNat * 16) xs)).getD 13 0).toNat 0) c)
                          ((List.take 16 (dropO ((r - 1).toNat * 16) xs)).getD 0 0))
                        ((List.take 16 (dropO ((r - 1).toNat * 16) xs)).getD 4 0))
                      ((List.take 16 (dropO ((r - 1).toNat * 16) xs)).getD 8 0))
                    ((List.take 16 (dropO ((r - 1).toNat * 16) xs)).getD 12 0))).set
              (addO (r.toNat * 16) 13)
              (ixor
                (ixor
                  (ixor
                    (ixor (tb.getD ((List.take 16 (dropO ((r - 1).toNat * 16) xs)).getD 14 0).toNat 0)
                      ((List.take 16 (dropO ((r - 1).toNat * 16) xs)).getD 1 0))
                    ((List.take 16 (dropO ((r - 1).toNat * 16) xs)).getD 5 0))
                  ((List.take 16 (dropO ((r - 1).toNat * 16) xs)).getD 9 0))
                ((List.take 16 (dropO ((r - 1).toNat * 16) xs)).getD 13 0))).set
          (addO (r.toNat * 16) 14)
          (ixor
            (ixor
              (ixor
                (ixor (tb.getD ((List.take 16 (dropO ((r - 1).toNat * 16) xs)).getD 15 0).toNat 0)
                  ((List.take 16 (dropO ((r - 1).toNat * 16) xs)).getD 2 0))
                ((List.take 16 (dropO ((r - 1).toNat * 16) xs)).getD 6 0))
              ((List.take 16 (dropO ((r - 1).toNat * 16) xs)).getD 10 0))
            ((List.take 16 (dropO ((r - 1).toNat * 16) xs)).getD 14 0))).length,
    Con.rng (-9223372036854775808) (r + 1) 9223372036854775807]) : Ok (A41 r c xs zz ks tb g g' ow ow') := Ok.dem (fl := [false, false, false, false, false, true, true, false, false, false, false, true, false, false, true, false, false,
    true, false, true, true, false, false, true, true, true, true, false, false, false, false, false, false, false,
    false, false, false, true, true, true, true, false, false, false, false, false, false, false, false, true, true,
    true, true, false, false, false, false, false, false, false, false, true, true, true, true, false, false, false,
    false, false, false, false, false, true, true, true, true, true, true, true, true, false, true, true, true, true,
    false, false, false, true, true, true, true, true, true, true, true, true, true, false, false, false, true, true,
    true, true, true, true, true, false, false, true, true, true, true, true, true, true, true, true, true, true, true,
    false, true, false, true, false, true, true, true, true, true, true, true, true, true, true, false, false, false,
    true, true, true, true, true, true, true, false, false, true, true, true, true, true, true, true, true, true, true,
    true, true, false, true, false, true, false, true, true, true, true, true, true, true, true, true, true, false,
    false, false, true, true, true, true, true, true, true, false, false, true, true, true, true, true, true, true,
    true, true, true, true, true, false, true, false, true, false, true, true, true, true, true, true, true, true, true,
    true, false, false, false, true, true, true, true, true, true, true, false, false, true, true, true, true, true,
    true, true, true, true, true, true, true, false, true, false, true, false, true, true, true, true, true, true, true,
    true, true, true, false, false, false, true, true, true, true, true, true, true, false, false, true, true, true,
    true, true, true, true, true, true, true, true, true, false, true, false, true, false, true, true, true, true, true,
    true, true, true, true, true, false, false, false, true, true, true, true, true, true, true, false, false, true,
    true, true, true, true, true, true, true, true, true, true, true, false, true, false, true, false, true, true, true,
    true, true, true, true, true, true, true, false, false, false, true, true, true, true, true, true, true, false,
    false, true, true, true, true, true, true, true, true, true, true, true, true, false, true, false, true, false,
    true, true, true, true, true, true, true, true, true, true, false, false, false, true, true, true, true, true, true,
    true, false, false, true, true, true, true, true, true, true, true, true, true, true, true, false, true, false,
    true, false, true, true, true, true, true, true, true, true, true, true, false, false, false, true, true, true,
    true, true, true, true, false, false, true, true, true, true, true, true, true, true, true, true, true, true, false,
    true, false, true, false, true, true, true, true, true, true, true, true, true, true, false, false, false, true,
    true, true, true, true, true, true, false, false, true, true, true, true, true, true, true, true, true, true, true,
    true, false, true, false, true, false, true, true, true, true, true, true, true, true, true, true, false, false,
    false, true, true, true, true, true, true, true, false, false, true, true, true, true, true, true, true, true, true,
    true, true, true, false, true, false, true, false, true, true, true, true, true, true, true, true, true, true,
    false, false, false, true, true, true, true, true, true, true, false, false, true, true, true, true, true, true,
    true, true, true, true, true, true, false, true, false, true, false, true, true, true, true, true, true, true, true,
    true, true, false, false, false, true, true, true, true, true, true, true, false, false, true, true, true, true,
    true, true, true, true, true, true, true, true, false, true, false, true, false, true, true, true, true, true, true,
    true, true, true, true, false, false, false, true, true, true, true, true, true, true, false, false, true, true,
    true, true, true, true, true, true, true, true, true, true, false, true, false, true, false, true, true, true, true,
    true, true, true, true, true, true, false, false, false, true, true, true, true, true, true, true, false, false,
    true, true, true, true, true, true, true, true, true, true, true, true, false, true, false, true, false, true, true,
    true, true, true, true, true, true, true, true, false, false, false, true, true, true, true, true, true, true,
    false, false, true, true, true, true, true, true, true, true, true, true, true, true, false, true, false, true,
    false]) (by kernel_rfl) (by kernel_rfl) (by kernel_rfl) h
theorem A41_ex {r c : Int} {xs zz ks tb : List Int} {g g' : Nat} {ow ow' : Bool} : (A41 r c xs zz ks tb g g' ow ow').ex = AExit.normal := by kernel_rfl
theorem A41_fm {r c : Int} {xs zz ks tb : List Int} {g g' : Nat} {ow ow' : Bool} : (A41 r c xs zz ks tb g g' ow ow').fm = [(0, AVal.var 0 g), (4, AVal.var 2 0), (5, AVal.var 3 0), (6, AVal.int IntKind.u8 (dblLaw c)),
    (7, AVal.int IntKind.i64 (r + 1))] := by kernel_rfl
theorem A41_tab {r c : Int} {xs zz ks tb : List Int} {g g' : Nat} {ow ow' : Bool} : (A41 r c xs zz ks tb g g' ow ow').tab = [some { data := AVal.ints IntKind.u8 tb, g := g, own := ow, et := 72 },
    some { data := AVal.ints IntKind.u8 ks, g := g', own := ow', et := 5 },
    some { data := AVal.ints IntKind.u8 zz, g := 0, own := true, et := 49 },
    some
      {
        data :=
          AVal.ints IntKind.u8
            ((((((((((((((((xs.set (addO (r.toNat * 16) 0)
                                                                          (ixor
                                                                            (ixor
                                                                              (tb.getD
                                                                                ((List.take 16
                                                                                        (dropO ((r - 1).toNat * 16)
                                                                                          xs)).getD
                                                                                    13 0).toNat
                                                                                0)
                                                                              c)
                                                                            ((List.take 16
                                                                                  (dropO ((r - 1).toNat * 16) xs)).getD
                                                                              0 0))).set
                                                                      (addO (r.toNat * 16) 1)
                                                                      (ixor
                                                                        (tb.getD
                                                                          ((List.take 16
                                                                                  (dropO ((r - 1).toNat * 16) xs)).getD
                                                                              14 0).toNat
                                                                          0)
                                                                        ((List.take 16
                                                                              (dropO ((r - 1).toNat * 16) xs)).getD
                                                                          1 0))).set
                                                                  (addO (r.toNat * 16) 2)
                                                                  (ixor
                                                                    (tb.getD
                                                                      ((List.take 16
                                                                              (dropO ((r - 1).toNat * 16) xs)).getD
                                                                          15 0).toNat
                                                                      0)
                                                                    ((List.take 16 (dropO ((r - 1).toNat * 16) xs)).getD
                                                                      2 0))).set
                                                              (addO (r.toNat * 16) 3)
                                                              (ixor
                                                                (tb.getD
                                                                  ((List.take 16 (dropO ((r - 1).toNat * 16) xs)).getD
                                                                      12 0).toNat
                                                                  0)
                                                                ((List.take 16 (dropO ((r - 1).toNat * 16) xs)).getD 3
                                                                  0))).set
                                                          (addO (r.toNat * 16) 4)
                                                          (ixor
                                                            (ixor
                                                              (ixor
                                                                (tb.getD
                                                                  ((List.take 16 (dropO ((r - 1).toNat * 16) xs)).getD
                                                                      13 0).toNat
                                                                  0)
                                                                c)
                                                              ((List.take 16 (dropO ((r - 1).toNat * 16) xs)).getD 0 0))
                                                            ((List.take 16 (dropO ((r - 1).toNat * 16) xs)).getD 4
                                                              0))).set
                                                      (addO (r.toNat * 16) 5)
                                                      (ixor
                                                        (ixor
                                                          (tb.getD
                                                            ((List.take 16 (dropO ((r - 1).toNat * 16) xs)).getD 14
                                                                0).toNat
                                                            0)
                                                          ((List.take 16 (dropO ((r - 1).toNat * 16) xs)).getD 1 0))
                                                        ((List.take 16 (dropO ((r - 1).toNat * 16) xs)).getD 5 0))).set
                                                  (addO (r.toNat * 16) 6)
                                                  (ixor
                                                    (ixor
                                                      (tb.getD
                                                        ((List.take 16 (dropO ((r - 1).toNat * 16) xs)).getD 15 0).toNat
                                                        0)
                                                      ((List.take 16 (dropO ((r - 1).toNat * 16) xs)).getD 2 0))
                                                    ((List.take 16 (dropO ((r - 1).toNat * 16) xs)).getD 6 0))).set
                                              (addO (r.toNat * 16) 7)
                                              (ixor
                                                (ixor
                                                  (tb.getD
                                                    ((List.take 16 (dropO ((r - 1).toNat * 16) xs)).getD 12 0).toNat 0)
                                                  ((List.take 16 (dropO ((r - 1).toNat * 16) xs)).getD 3 0))
                                                ((List.take 16 (dropO ((r - 1).toNat * 16) xs)).getD 7 0))).set
                                          (addO (r.toNat * 16) 8)
                                          (ixor
                                            (ixor
                                              (ixor
                                                (ixor
                                                  (tb.getD
                                                    ((List.take 16 (dropO ((r - 1).toNat * 16) xs)).getD 13 0).toNat 0)
                                                  c)
                                                ((List.take 16 (dropO ((r - 1).toNat * 16) xs)).getD 0 0))
                                              ((List.take 16 (dropO ((r - 1).toNat * 16) xs)).getD 4 0))
                                            ((List.take 16 (dropO ((r - 1).toNat * 16) xs)).getD 8 0))).set
                                      (addO (r.toNat * 16) 9)
                                      (ixor
                                        (ixor
                                          (ixor
                                            (tb.getD ((List.take 16 (dropO ((r - 1).toNat * 16) xs)).getD 14 0).toNat 0)
                                            ((List.take 16 (dropO ((r - 1).toNat * 16) xs)).getD 1 0))
                                          ((List.take 16 (dropO ((r - 1).toNat * 16) xs)).getD 5 0))
                                        ((List.take 16 (dropO ((r - 1).toNat * 16) xs)).getD 9 0))).set
                                  (addO (r.toNat * 16) 10)
                                  (ixor
                                    (ixor
                                      (ixor (tb.getD ((List.take 16 (dropO ((r - 1).toNat * 16) xs)).getD 15 0).toNat 0)
                                        ((List.take 16 (dropO ((r - 1).toNat * 16) xs)).getD 2 0))
                                      ((List.take 16 (dropO ((r - 1).toNat * 16) xs)).getD 6 0))
                                    ((List.take 16 (dropO ((r - 1).toNat * 16) xs)).getD 10 0))).set
                              (addO (r.toNat * 16) 11)
                              (ixor
                                (ixor
                                  (ixor (tb.getD ((List.take 16 (dropO ((r - 1).toNat * 16) xs)).getD 12 0).toNat 0)
                                    ((List.take 16 (dropO ((r - 1).toNat * 16) xs)).getD 3 0))
                                  ((List.take 16 (dropO ((r - 1).toNat * 16) xs)).getD 7 0))
                                ((List.take 16 (dropO ((r - 1).toNat * 16) xs)).getD 11 0))).set
                          (addO (r.toNat * 16) 12)
                          (ixor
                            (ixor
                              (ixor
                                (ixor
                                  (ixor (tb.getD ((List.take 16 (dropO ((r - 1).toNat * 16) xs)).getD 13 0).toNat 0) c)
                                  ((List.take 16 (dropO ((r - 1).toNat * 16) xs)).getD 0 0))
                                ((List.take 16 (dropO ((r - 1).toNat * 16) xs)).getD 4 0))
                              ((List.take 16 (dropO ((r - 1).toNat * 16) xs)).getD 8 0))
                            ((List.take 16 (dropO ((r - 1).toNat * 16) xs)).getD 12 0))).set
                      (addO (r.toNat * 16) 13)
                      (ixor
                        (ixor
                          (ixor
                            (ixor (tb.getD ((List.take 16 (dropO ((r - 1).toNat * 16) xs)).getD 14 0).toNat 0)
                              ((List.take 16 (dropO ((r - 1).toNat * 16) xs)).getD 1 0))
                            ((List.take 16 (dropO ((r - 1).toNat * 16) xs)).getD 5 0))
                          ((List.take 16 (dropO ((r - 1).toNat * 16) xs)).getD 9 0))
                        ((List.take 16 (dropO ((r - 1).toNat * 16) xs)).getD 13 0))).set
                  (addO (r.toNat * 16) 14)
                  (ixor
                    (ixor
                      (ixor
                        (ixor (tb.getD ((List.take 16 (dropO ((r - 1).toNat * 16) xs)).getD 15 0).toNat 0)
                          ((List.take 16 (dropO ((r - 1).toNat * 16) xs)).getD 2 0))
                        ((List.take 16 (dropO ((r - 1).toNat * 16) xs)).getD 6 0))
                      ((List.take 16 (dropO ((r - 1).toNat * 16) xs)).getD 10 0))
                    ((List.take 16 (dropO ((r - 1).toNat * 16) xs)).getD 14 0))).set
              (addO (r.toNat * 16) 15)
              (ixor
                (ixor
                  (ixor
                    (ixor (tb.getD ((List.take 16 (dropO ((r - 1).toNat * 16) xs)).getD 12 0).toNat 0)
                      ((List.take 16 (dropO ((r - 1).toNat * 16) xs)).getD 3 0))
                    ((List.take 16 (dropO ((r - 1).toNat * 16) xs)).getD 7 0))
                  ((List.take 16 (dropO ((r - 1).toNat * 16) xs)).getD 11 0))
                ((List.take 16 (dropO ((r - 1).toNat * 16) xs)).getD 15 0))),
        g := 0, own := true, et := 49 }] := by kernel_rfl
noncomputable def B41 (r c : Int) (xs zz ks tb : List Int) (g g' : Nat) (ow ow' : Bool) : Out := trim 4 4 [4,5] (run eH 81 ⟨4, []⟩ 400 (roundOf 0 f41) [(0, .var 0 g), (4, .var 2 0), (5, .var 3 0), (6, .int .u8 c), (7, .int .i64 r)] [some ⟨.ints .u8 tb, g, ow, 72⟩, some ⟨.ints .u8 ks, g', ow', 5⟩, some ⟨.ints .u8 zz, 0, true, 49⟩, some ⟨.ints .u8 xs, 0, true, 49⟩] [some false])
theorem B41_ok {r c : Int} {xs zz ks tb : List Int} {g g' : Nat} {ow ow' : Bool} (h : allP [Con.p (decide (r < 11) = false)]) : Ok (B41 r c xs zz ks tb g g' ow ow') := Ok.dem (fl := [false]) (by kernel_rfl) (by kernel_rfl) (by kernel_rfl) h
theorem B41_ex {r c : Int} {xs zz ks tb : List Int} {g g' : Nat} {ow ow' : Bool} : (B41 r c xs zz ks tb g g' ow ow').ex = AExit.exit 0 := by kernel_rfl
theorem B41_fm {r c : Int} {xs zz ks tb : List Int} {g g' : Nat} {ow ow' : Bool} : (B41 r c xs zz ks tb g g' ow ow').fm = [(4, AVal.var 2 0), (5, AVal.var 3 0)] := by kernel_rfl
theorem B41_tab {r c : Int} {xs zz ks tb : List Int} {g g' : Nat} {ow ow' : Bool} : (B41 r c xs zz ks tb g g' ow ow').tab = [some { data := AVal.ints IntKind.u8 tb, g := g, own := ow, et := 72 },
    some { data := AVal.ints IntKind.u8 ks, g := g', own := ow', et := 5 },
    some { data := AVal.ints IntKind.u8 zz, g := 0, own := true, et := 49 },
    some { data := AVal.ints IntKind.u8 xs, g := 0, own := true, et := 49 }] := by kernel_rfl
def F41 (g : Nat) (i : Nat) : Fm := [(0, .var 0 g), (4, .var 2 0), (5, .var 3 0), (6, .int .u8 (rcLaw i)), (7, .int .i64 (i + 1 : Nat))]
def xs41Law (key : List Int) (i : Nat) : List Int := ksLaw key (16 * (i + 1)) ++ List.replicate (176 - 16 * (i + 1)) 0
def T41 (key zz ks : List Int) (g g' : Nat) (ow ow' : Bool) (i : Nat) : Tab := [some ⟨.ints .u8 TABLaw, g, ow, 72⟩, some ⟨.ints .u8 ks, g', ow', 5⟩, some ⟨.ints .u8 zz, 0, true, 49⟩, some ⟨.ints .u8 (xs41Law key i), 0, true, 49⟩]
theorem round41 {key zz ks : List Int} (hk : key.length = 16) (hb : Bytes key) {g g' : Nat} {ow ow' : Bool} {i : Nat} (hi : i < 10) : To eH 81 4 (roundOf 0 f41) (F41 g i) (T41 key zz ks g g' ow ow' i) .normal (F41 g (i + 1)) (T41 key zz ks g g' ow ow' (i + 1)) := by
  have hc := rcLaw_lt i
  have hlen := ksLaw_len hk (n := 16 * (i + 1)) (by omega)
  have hkb := ksLaw_bytes hb (16 * (i + 1))
  have hxl : (xs41Law key i).length = 176 := by simp [xs41Law, hlen]; omega
  have e1 : (((i + 1 : Nat) : Int) - 1).toNat * 16 = 16 * i := by omega
  have els : List.take 16 (dropO (16 * i) (xs41Law key i)) = (ksLaw key (16 * (i + 1))).drop (16 * i) := by
    rw [dropO_eq, xs41Law, List.drop_append_of_le_length (by omega), List.take_append_of_le_length (by simp; omega), List.take_of_length_le (by simp; omega)]
  have hls : ((ksLaw key (16 * (i + 1))).drop (16 * i)).length = 16 := by simp; omega
  have hlb := hkb.drop (16 * i)
  have hnext := ks_next hk (R := i + 1) (by omega)
  rw [show 16 * (i + 1) - 16 = 16 * i by omega, show i + 1 - 1 = i by omega, show 16 * (i + 1) + 16 = 16 * (i + 1 + 1) by omega] at hnext
  refine To.of (o := A41 (i + 1 : Nat) (rcLaw i) (xs41Law key i) zz ks TABLaw g g' ow ow') eH_ok hmA (Nat.le_refl 4) OrcOk.nil rfl (A41_ok ?_) A41_ex ?_ ?_
  · rw [e1, els]
    generalize (ksLaw key (16 * (i + 1))).drop (16 * i) = ls at hls hlb ⊢
    simp only [allP, Con.h, List.length_set, hls, hxl, TABLaw_len, addO_eq, tab_box (hlb.get 13), tab_box (hlb.get 14), tab_box (hlb.get 15), tab_box (hlb.get 12), eq_self, true_and, and_true, decide_eq_true_eq]
    have b12 := hlb.get 12
    have b13 := hlb.get 13
    have b14 := hlb.get 14
    have b15 := hlb.get 15
    repeat' with_reducible apply And.intro
    all_goals first | omega | skip
    all_goals repeat' (first | exact hlb.get _ | exact hc | exact boxLaw_rng (hlb.get _) | apply nn_xor)
  · rw [A41_fm]; rfl
  · rw [A41_tab, e1, els]
    have hsets : setsLaw (xs41Law key i) (16 * (i + 1)) (nextLaw ((ksLaw key (16 * (i + 1))).drop (16 * i)) (rcLaw i)) = xs41Law key (i + 1) := by
      have hn : (nextLaw ((ksLaw key (16 * (i + 1))).drop (16 * i)) (rcLaw i)).length = 16 := by
        have := congrArg List.length hnext
        rw [List.length_append, ksLaw_len hk (by omega), hlen] at this
        omega
      have := setsLaw_zeros (vs := nextLaw ((ksLaw key (16 * (i + 1))).drop (16 * i)) (rcLaw i)) (l := ksLaw key (16 * (i + 1))) (m := 176 - 16 * (i + 1)) (by omega)
      rw [hlen, hn] at this
      unfold xs41Law
      rw [this, hnext, show 176 - 16 * (i + 1) - 16 = 176 - 16 * (i + 1 + 1) by omega]
    unfold T41
    rw [← hsets]
    generalize (ksLaw key (16 * (i + 1))).drop (16 * i) = ls at hls hlb ⊢
    obtain ⟨a0, a1, a2, a3, a4, a5, a6, a7, a8, a9, a10, a11, a12, a13, a14, a15, rfl⟩ := list16 hls
    simp only [tab_box (hlb.get 13), tab_box (hlb.get 14), tab_box (hlb.get 15), tab_box (hlb.get 12), addO_eq]
    rw [show (((i + 1 : Nat) : Int)).toNat * 16 = 16 * (i + 1) by omega]
    unfold nextLaw
    rw [← stepsX_eq]
    refine Eq.symm ?_
    kernel_rfl
theorem loop41 {key zz ks : List Int} (hk : key.length = 16) (hb : Bytes key) {g g' : Nat} {ow ow' : Bool} : To eH 81 4 (.block 0 (.loop (roundOf 0 f41))) (F41 g 0) (T41 key zz ks g g' ow ow' 0) .normal [(4, .var 2 0), (5, .var 3 0)] (T41 key zz ks g g' ow ow' 10) :=
  To.rounds (F41 g) (T41 key zz ks g g' ow ow') 10 (fun i hi => round41 hk hb hi)
    (To.of (o := B41 (11 : Nat) (rcLaw 10) (xs41Law key 10) zz ks TABLaw g g' ow ow') eH_ok hmA (Nat.le_refl 4) OrcOk.nil rfl (B41_ok (by simp [allP, Con.h])) B41_ex B41_fm B41_tab)
theorem xs41_end (key : List Int) : xs41Law key 10 = ksLaw key 176 := by simp [xs41Law]
theorem xs41_start (key : List Int) : xs41Law key 0 = key ++ List.replicate 160 0 := rfl
def g41 : List AVal → Tab → Out := fun vs T => match vs, T with
  | [.var 0 g, .var 2 0, .var 3 0, .int .u8 c, .int .i64 r], [some ⟨.ints .u8 tb, gg, ow, 72⟩, some ⟨.ints .u8 ks, g', ow', 5⟩, some ⟨.ints .u8 zz, 0, true, 49⟩, some ⟨.ints .u8 xs, 0, true, 49⟩] =>
    ⟨[.rng 1 c 1, .rng 1 r 1, .eqN g gg, .p (tb = TABLaw), .p ((xs.take 16).length = 16 ∧ Bytes (xs.take 16) ∧ xs.drop 16 = List.replicate 160 0)], .normal, [(4, .var 2 0), (5, .var 3 0)],
      [some ⟨.ints .u8 tb, gg, ow, 72⟩, some ⟨.ints .u8 ks, g', ow', 5⟩, some ⟨.ints .u8 zz, 0, true, 49⟩, some ⟨.ints .u8 (ksLaw (xs.take 16) 176), 0, true, 49⟩], []⟩
  | _, _ => failO
theorem g41_ok : BlkOk eH f41 0 (.loop (roundOf 0 f41)) (blkS 4 [0,4,5,6,7] g41) := by
  refine blkS_ok fun vs T h => ?_
  unfold g41 at h ⊢
  split at h
  · rename_i g c r tb gg ow ks g' ow' zz xs
    obtain ⟨h1, h2, h3, h4, h5, _⟩ := h.h
    simp only [Con.h] at h1 h2 h3 h4 h5
    obtain rfl : c = 1 := by omega
    obtain rfl : r = 1 := by omega
    subst h3 h4
    have := loop41 (zz := zz) (ks := ks) (g := g) (g' := g') (ow := ow) (ow' := ow') h5.1 h5.2.1
    unfold T41 at this
    rw [xs41_end, xs41_start, ← h5.2.2, List.take_append_drop] at this
    exact this
  · exact absurd h nofailO
noncomputable def orc41 : OrcL := [(0, blkS 4 [0,4,5,6,7] g41)]
theorem orc41_ok : FnOrc eH f41 orc41 := FnOrc.cons g41_ok (by kernel_rfl) FnOrc.nil
noncomputable def R41 (tb ks : List Int) (g g' off : Nat) (cp : Option Nat) (ow ow' : Bool) : Res := runF eH f41 orc41 400 [.var 0 g, .slice 1 1 g' off 16 cp] [some ⟨.ints .u8 tb, g, ow, 72⟩, some ⟨.ints .u8 ks, g', ow', 5⟩] []
theorem R41_ok {tb ks : List Int} {g g' off : Nat} {cp : Option Nat} {ow ow' : Bool} (h : allP [Con.eqN g' g', Con.leN (off + 16) ks.length, Con.eqN g g, Con.p (tb = TABLaw),
    Con.p
      ((List.take 16
              (over
                [0, 0, 0, 0, 0, 0, 0, 0, 0, 0, 0, 0, 0, 0, 0, 0, 0, 0, 0, 0, 0, 0, 0, 0, 0, 0, 0, 0, 0, 0, 0, 0, 0, 0,
                  0, 0, 0, 0, 0, 0, 0, 0, 0, 0, 0, 0, 0, 0, 0, 0, 0, 0, 0, 0, 0, 0, 0, 0, 0, 0, 0, 0, 0, 0, 0, 0, 0, 0,
                  0, 0, 0, 0, 0, 0, 0, 0, 0, 0, 0, 0, 0, 0, 0, 0, 0, 0, 0, 0, 0, 0, 0, 0, 0, 0, 0, 0, 0, 0, 0, 0, 0, 0,
                  0, 0, 0, 0, 0, 0, 0, 0, 0, 0, 0, 0, 0, 0, 0, 0, 0, 0, 0, 0, 0, 0, 0, 0, 0, 0, 0, 0, 0, 0, 0, 0, 0, 0,
                  0, 0, 0, 0, 0, 0, 0, 0, 0, 0, 0, 0, 0, 0, 0, 0, 0, 0, 0, 0, 0, 0, 0, 0, 0, 0, 0, 0, 0, 0, 0, 0, 0, 0,
                  0, 0, 0, 0, 0, 0]
                0 (List.take 16 (dropO off ks)))).length =
          16 ∧
        Bytes
            (List.take 16
              (over
                [0, 0, 0, 0, 0, 0, 0, 0, 0, 0, 0, 0, 0, 0, 0, 0, 0, 0, 0, 0, 0, 0, 0, 0, 0, 0, 0, 0, 0, 0, 0, 0, 0, 0,
                  0, 0, 0, 0, 0, 0, 0, 0, 0, 0, 0, 0, 0, 0, 0, 0, 0, 0, 0, 0, 0, 0, 0, 0, 0, 0, 0, 0, 0, 0, 0, 0, 0, 0,
                  0, 0, 0, 0, 0, 0, 0, 0, 0, 0, 0, 0, 0, 0, 0, 0, 0, 0, 0, 0, 0, 0, 0, 0, 0, 0, 0, 0, 0, 0, 0, 0, 0, 0,
                  0, 0, 0, 0, 0, 0, 0, 0, 0, 0, 0, 0, 0, 0, 0, 0, 0, 0, 0, 0, 0, 0, 0, 0, 0, 0, 0, 0, 0, 0, 0, 0, 0, 0,
                  0, 0, 0, 0, 0, 0, 0, 0, 0, 0, 0, 0, 0, 0, 0, 0, 0, 0, 0, 0, 0, 0, 0, 0, 0, 0, 0, 0, 0, 0, 0, 0, 0, 0,
                  0, 0, 0, 0, 0, 0]
                0 (List.take 16 (dropO off ks)))) ∧
          List.drop 16
              (over
                [0, 0, 0, 0, 0, 0, 0, 0, 0, 0, 0, 0, 0, 0, 0, 0, 0, 0, 0, 0, 0, 0, 0, 0, 0, 0, 0, 0, 0, 0, 0, 0, 0, 0,
                  0, 0, 0, 0, 0, 0, 0, 0, 0, 0, 0, 0, 0, 0, 0, 0, 0, 0, 0, 0, 0, 0, 0, 0, 0, 0, 0, 0, 0, 0, 0, 0, 0, 0,
                  0, 0, 0, 0, 0, 0, 0, 0, 0, 0, 0, 0, 0, 0, 0, 0, 0, 0, 0, 0, 0, 0, 0, 0, 0, 0, 0, 0, 0, 0, 0, 0, 0, 0,
                  0, 0, 0, 0, 0, 0, 0, 0, 0, 0, 0, 0, 0, 0, 0, 0, 0, 0, 0, 0, 0, 0, 0, 0, 0, 0, 0, 0, 0, 0, 0, 0, 0, 0,
                  0, 0, 0, 0, 0, 0, 0, 0, 0, 0, 0, 0, 0, 0, 0, 0, 0, 0, 0, 0, 0, 0, 0, 0, 0, 0, 0, 0, 0, 0, 0, 0, 0, 0,
                  0, 0, 0, 0, 0, 0]
                0 (List.take 16 (dropO off ks))) =
            [0, 0, 0, 0, 0, 0, 0, 0, 0, 0, 0, 0, 0, 0, 0, 0, 0, 0, 0, 0, 0, 0, 0, 0, 0, 0, 0, 0, 0, 0, 0, 0, 0, 0, 0, 0,
              0, 0, 0, 0, 0, 0, 0, 0, 0, 0, 0, 0, 0, 0, 0, 0, 0, 0, 0, 0, 0, 0, 0, 0, 0, 0, 0, 0, 0, 0, 0, 0, 0, 0, 0,
              0, 0, 0, 0, 0, 0, 0, 0, 0, 0, 0, 0, 0, 0, 0, 0, 0, 0, 0, 0, 0, 0, 0, 0, 0, 0, 0, 0, 0, 0, 0, 0, 0, 0, 0,
              0, 0, 0, 0, 0, 0, 0, 0, 0, 0, 0, 0, 0, 0, 0, 0, 0, 0, 0, 0, 0, 0, 0, 0, 0, 0, 0, 0, 0, 0, 0, 0, 0, 0, 0,
              0, 0, 0, 0, 0, 0, 0, 0, 0, 0, 0, 0, 0, 0, 0, 0, 0, 0, 0]),
    Con.eqN
      (ksLaw
          (List.take 16
            (over
              [0, 0, 0, 0, 0, 0, 0, 0, 0, 0, 0, 0, 0, 0, 0, 0, 0, 0, 0, 0, 0, 0, 0, 0, 0, 0, 0, 0, 0, 0, 0, 0, 0, 0, 0,
                0, 0, 0, 0, 0, 0, 0, 0, 0, 0, 0, 0, 0, 0, 0, 0, 0, 0, 0, 0, 0, 0, 0, 0, 0, 0, 0, 0, 0, 0, 0, 0, 0, 0, 0,
                0, 0, 0, 0, 0, 0, 0, 0, 0, 0, 0, 0, 0, 0, 0, 0, 0, 0, 0, 0, 0, 0, 0, 0, 0, 0, 0, 0, 0, 0, 0, 0, 0, 0, 0,
                0, 0, 0, 0, 0, 0, 0, 0, 0, 0, 0, 0, 0, 0, 0, 0, 0, 0, 0, 0, 0, 0, 0, 0, 0, 0, 0, 0, 0, 0, 0, 0, 0, 0, 0,
                0, 0, 0, 0, 0, 0, 0, 0, 0, 0, 0, 0, 0, 0, 0, 0, 0, 0, 0, 0, 0, 0, 0, 0, 0, 0, 0, 0, 0, 0, 0, 0, 0, 0, 0,
                0]
              0 (List.take 16 (dropO off ks))))
          176).length
      176,
    Con.eqN
      (ksLaw
          (List.take 16
            (over
              [0, 0, 0, 0, 0, 0, 0, 0, 0, 0, 0, 0, 0, 0, 0, 0, 0, 0, 0, 0, 0, 0, 0, 0, 0, 0, 0, 0, 0, 0, 0, 0, 0, 0, 0,
                0, 0, 0, 0, 0, 0, 0, 0, 0, 0, 0, 0, 0, 0, 0, 0, 0, 0, 0, 0, 0, 0, 0, 0, 0, 0, 0, 0, 0, 0, 0, 0, 0, 0, 0,
                0, 0, 0, 0, 0, 0, 0, 0, 0, 0, 0, 0, 0, 0, 0, 0, 0, 0, 0, 0, 0, 0, 0, 0, 0, 0, 0, 0, 0, 0, 0, 0, 0, 0, 0,
                0, 0, 0, 0, 0, 0, 0, 0, 0, 0, 0, 0, 0, 0, 0, 0, 0, 0, 0, 0, 0, 0, 0, 0, 0, 0, 0, 0, 0, 0, 0, 0, 0, 0, 0,
                0, 0, 0, 0, 0, 0, 0, 0, 0, 0, 0, 0, 0, 0, 0, 0, 0, 0, 0, 0, 0, 0, 0, 0, 0, 0, 0, 0, 0, 0, 0, 0, 0, 0, 0,
                0]
              0 (List.take 16 (dropO off ks))))
          176).length
      176,
    Con.eqN
      (ksLaw
          (List.take 16
            (over
              [0, 0, 0, 0, 0, 0, 0, 0, 0, 0, 0, 0, 0, 0, 0, 0, 0, 0, 0, 0, 0, 0, 0, 0, 0, 0, 0, 0, 0, 0, 0, 0, 0, 0, 0,
                0, 0, 0, 0, 0, 0, 0, 0, 0, 0, 0, 0, 0, 0, 0, 0, 0, 0, 0, 0, 0, 0, 0, 0, 0, 0, 0, 0, 0, 0, 0, 0, 0, 0, 0,
                0, 0, 0, 0, 0, 0, 0, 0, 0, 0, 0, 0, 0, 0, 0, 0, 0, 0, 0, 0, 0, 0, 0, 0, 0, 0, 0, 0, 0, 0, 0, 0, 0, 0, 0,
                0, 0, 0, 0, 0, 0, 0, 0, 0, 0, 0, 0, 0, 0, 0, 0, 0, 0, 0, 0, 0, 0, 0, 0, 0, 0, 0, 0, 0, 0, 0, 0, 0, 0, 0,
                0, 0, 0, 0, 0, 0, 0, 0, 0, 0, 0, 0, 0, 0, 0, 0, 0, 0, 0, 0, 0, 0, 0, 0, 0, 0, 0, 0, 0, 0, 0, 0, 0, 0, 0,
                0]
              0 (List.take 16 (dropO off ks))))
          176).length
      176]) : OkR (R41 tb ks g g' off cp ow ow') := OkR.dem (fl := [true, true, true, true, true, true, true, true, true, false, false, true, true, true, false, false, false, true,
    false, true, false, true, true, true, false]) (by kernel_rfl) (by kernel_rfl) (by kernel_rfl) h
theorem R41_val {tb ks : List Int} {g g' off : Nat} {cp : Option Nat} {ow ow' : Bool} : (R41 tb ks g g' off cp ow ow').val = AVal.ints IntKind.u8
    (ksLaw
      (List.take 16
        (over
          [0, 0, 0, 0, 0, 0, 0, 0, 0, 0, 0, 0, 0, 0, 0, 0, 0, 0, 0, 0, 0, 0, 0, 0, 0, 0, 0, 0, 0, 0, 0, 0, 0, 0, 0, 0,
            0, 0, 0, 0, 0, 0, 0, 0, 0, 0, 0, 0, 0, 0, 0, 0, 0, 0, 0, 0, 0, 0, 0, 0, 0, 0, 0, 0, 0, 0, 0, 0, 0, 0, 0, 0,
            0, 0, 0, 0, 0, 0, 0, 0, 0, 0, 0, 0, 0, 0, 0, 0, 0, 0, 0, 0, 0, 0, 0, 0, 0, 0, 0, 0, 0, 0, 0, 0, 0, 0, 0, 0,
            0, 0, 0, 0, 0, 0, 0, 0, 0, 0, 0, 0, 0, 0, 0, 0, 0, 0, 0, 0, 0, 0, 0, 0, 0, 0, 0, 0, 0, 0, 0, 0, 0, 0, 0, 0,
            0, 0, 0, 0, 0, 0, 0, 0, 0, 0, 0, 0, 0, 0, 0, 0, 0, 0, 0, 0, 0, 0, 0, 0, 0, 0, 0, 0, 0, 0, 0, 0]
          0 (List.take 16 (dropO off ks))))
      176) := by kernel_rfl
theorem R41_tab {tb ks : List Int} {g g' off : Nat} {cp : Option Nat} {ow ow' : Bool} : (R41 tb ks g g' off cp ow ow').tab = [some { data := AVal.ints IntKind.u8 tb, g := g, own := ow, et := 72 },
    some { data := AVal.ints IntKind.u8 ks, g := g', own := ow', et := 5 },
    some
      {
        data :=
          AVal.ints IntKind.u8
            (ksLaw
              (List.take 16
                (over
                  [0, 0, 0, 0, 0, 0, 0, 0, 0, 0, 0, 0, 0, 0, 0, 0, 0, 0, 0, 0, 0, 0, 0, 0, 0, 0, 0, 0, 0, 0, 0, 0, 0, 0,
                    0, 0, 0, 0, 0, 0, 0, 0, 0, 0, 0, 0, 0, 0, 0, 0, 0, 0, 0, 0, 0, 0, 0, 0, 0, 0, 0, 0, 0, 0, 0, 0, 0,
                    0, 0, 0, 0, 0, 0, 0, 0, 0, 0, 0, 0, 0, 0, 0, 0, 0, 0, 0, 0, 0, 0, 0, 0, 0, 0, 0, 0, 0, 0, 0, 0, 0,
                    0, 0, 0, 0, 0, 0, 0, 0, 0, 0, 0, 0, 0, 0, 0, 0, 0, 0, 0, 0, 0, 0, 0, 0, 0, 0, 0, 0, 0, 0, 0, 0, 0,
                    0, 0, 0, 0, 0, 0, 0, 0, 0, 0, 0, 0, 0, 0, 0, 0, 0, 0, 0, 0, 0, 0, 0, 0, 0, 0, 0, 0, 0, 0, 0, 0, 0,
                    0, 0, 0, 0, 0, 0, 0, 0, 0, 0]
                  0 (List.take 16 (dropO off ks))))
              176),
        g := 0, own := true, et := 49 },
    some
      {
        data :=
          AVal.ints IntKind.u8
            (ksLaw
              (List.take 16
                (over
                  [0, 0, 0, 0, 0, 0, 0, 0, 0, 0, 0, 0, 0, 0, 0, 0, 0, 0, 0, 0, 0, 0, 0, 0, 0, 0, 0, 0, 0, 0, 0, 0, 0, 0,
                    0, 0, 0, 0, 0, 0, 0, 0, 0, 0, 0, 0, 0, 0, 0, 0, 0, 0, 0, 0, 0, 0, 0, 0, 0, 0, 0, 0, 0, 0, 0, 0, 0,
                    0, 0, 0, 0, 0, 0, 0, 0, 0, 0, 0, 0, 0, 0, 0, 0, 0, 0, 0, 0, 0, 0, 0, 0, 0, 0, 0, 0, 0, 0, 0, 0, 0,
                    0, 0, 0, 0, 0, 0, 0, 0, 0, 0, 0, 0, 0, 0, 0, 0, 0, 0, 0, 0, 0, 0, 0, 0, 0, 0, 0, 0, 0, 0, 0, 0, 0,
                    0, 0, 0, 0, 0, 0, 0, 0, 0, 0, 0, 0, 0, 0, 0, 0, 0, 0, 0, 0, 0, 0, 0, 0, 0, 0, 0, 0, 0, 0, 0, 0, 0,
                    0, 0, 0, 0, 0, 0, 0, 0, 0, 0]
                  0 (List.take 16 (dropO off ks))))
              176),
        g := 0, own := true, et := 49 }] := by kernel_rfl
end Go.Abs
