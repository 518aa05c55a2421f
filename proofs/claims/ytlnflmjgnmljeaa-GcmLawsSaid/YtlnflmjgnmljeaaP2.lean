/- What functions of the given program come to, by the abstract machine: texts of a proof. -/
import Derived.Test.YtlnflmjgnmljeaaP1
import Derived.Test.YtlnflmjgnmljeaaAbs2
set_option linter.unusedVariables false
set_option linter.unusedSimpArgs false
set_option maxRecDepth 8000
namespace Go.Abs
open Go.Proofs.Try
structure Exc (z0 z1 z2 : List Int) (g0 n0 g1 n1 g2 n2 ga : Nat) (kx : List Int) : Prop where
  pz0 : n0 ≤ z0.length
  pm0 : n0 ≤ 140737488352000
  pb0 : Bytes z0
  pz1 : n1 ≤ z1.length
  pm1 : n1 ≤ 140737488352000
  pb1 : Bytes z1
  pz2 : n2 ≤ z2.length
  pm2 : n2 ≤ 140737488352000
  pb2 : Bytes z2
  pk : WpLaw kx
noncomputable def H1c : Host := ⟨#[9], as63, bd63, [(2, .var 4 0), (4, .var 5 0), (5, .var 6 0), (8, .func (.func 79) [] [.var 7 0])], 16⟩
noncomputable def H2c0 (z0 z1 z2 : List Int) (g0 n0 g1 n1 g2 n2 ga : Nat) (kx : List Int) : Host := ⟨#[14], as79, bd79, [(1, .var 7 0), (2, .var 8 0), (6, .slice 1 0 ga 0 3 (some 3)), (7, .int .i64 3), (8, .int .i64 0), (13, .func (.func 81) [] [.var 9 0, .var 10 0])], 30⟩
theorem ambc0 (z0 z1 z2 : List Int) (g0 n0 g1 n1 g2 n2 ga : Nat) (kx : List Int) (l1 l2 : Nat) : ambIn 11 [(l2, H2c0 z0 z1 z2 g0 n0 g1 n1 g2 n2 ga kx), (l1, H1c)] := fun x hx => by
  rcases List.mem_cons.1 hx with rfl | hx
  · exact fmIn_of rfl
  · exact ambIn_one rfl x hx
theorem ambMc0 (z0 z1 z2 : List Int) (g0 n0 g1 n1 g2 n2 ga : Nat) (kx : List Int) (l1 l2 : Nat) : ambIn 12 [(l2, H2c0 z0 z1 z2 g0 n0 g1 n1 g2 n2 ga kx), (l1, H1c)] := fun x hx => by
  rcases List.mem_cons.1 hx with rfl | hx
  · exact fmIn_of rfl
  · exact ambIn_one rfl x hx
theorem chfc0 {z0 z1 z2 : List Int} {g0 n0 g1 n1 g2 n2 ga : Nat} {kx : List Int} (e : Exc z0 z1 z2 g0 n0 g1 n1 g2 n2 ga kx) {y : List Int} (hy : WpLaw y) (l1 l2 : Nat) {j : Nat} (hj : 16 * j + 16 ≤ n0) :
    YWp eGh 30 11 [(l2, H2c0 z0 z1 z2 g0 n0 g1 n1 g2 n2 ga kx), (l1, H1c)] bd79 [(2, .var 8 0), (5, .slice 1 1 g0 (16 * j) 16 (some 16))] (TNc0 z0 z1 z2 g0 n0 g1 n1 g2 n2 ga kx y l1) [(.busy, none), (.ready, none)] fun ex fm T σ => ex = .normal ∧ T = ((TNc0 z0 z1 z2 g0 n0 g1 n1 g2 n2 ga kx (mwLaw (xwLaw y (gwLaw (ckLaw z0 n0 j))) kx) l1) : Tab) ∧ σ = [(.busy, none), (.ready, none)] := by
  have hamb := ambc0 z0 z1 z2 g0 n0 g1 n1 g2 n2 ga kx l1 l2
  have hambM := ambMc0 z0 z1 z2 g0 n0 g1 n1 g2 n2 ga kx l1 l2
  have hz := e.pz0
  have hbz := e.pb0
  have hcl := ck_len hz j
  have hcb := ck_bytes hbz n0 j
  have eb : (subLaw z0 (addO (16 * j) 0) 16) = (ckLaw z0 n0 j) := by rw [addO_eq, Nat.add_zero, ck_full hj]
  have hw : WpLaw (gwLaw (subLaw z0 (addO (16 * j) 0) 16)) := by rw [eb]; exact .gw hcb hcl
  rw [bd79_eq]
  refine YWp.block (YWp.seq (YWp.yieldDrawn eGh_ok hmA (l1 := ops79.toList.take 12) (oy := ops79.toList.getD 12 default) (o2 := ops79.toList.getD 13 default) (by kernel_rfl) (ds1 := [some true]) (o1 := Dfc0 z0 z1 z2 g0 n0 g1 n1 g2 n2 ga kx y l1 l2 (16 * j)) (by kernel_rfl) (by kernel_rfl) (by kernel_rfl) (by kernel_rfl) (by kernel_rfl) (by kernel_rfl) (Dfc0_ok ?_) (f := .tmp 15) (x := .tmp 26) (t := 27) (c := theCall (ops79.toList.getD 12 default)) (by kernel_rfl) (by kernel_rfl) (by kernel_rfl) (by kernel_rfl) (by kernel_rfl) (by kernel_rfl) (by decide) (i := 1) (l := l1) (H := H1c) (by rw [Dfc0_fm]; rfl) (v := .ints .u64 (gwLaw (subLaw z0 (addO (16 * j) 0) 16))) (by rw [Dfc0_fm]; rfl) rfl rfl (p := 9) rfl (by decide) (kk := 11) (by decide) (by rw [Dfc0_fm]; exact fmIn_of rfl) hamb ?_))
  · simp only [allP, Con.h, addO_eq, Nat.add_zero, hbz, eq_self, true_and, and_true]
    omega
  rw [Dfc0_tab]
  refine YWp.ofTo (To.of (o := A6fc0 z0 z1 z2 g0 n0 g1 n1 g2 n2 ga kx y l1 (gwLaw (subLaw z0 (addO (16 * j) 0) 16))) eGh_ok hmA (Nat.le_refl 11) OrcOk.nil rfl (A6fc0_ok ⟨hw.len, trivial⟩) A6fc0_ex A6fc0_fm A6fc0_tab) hamb ⟨rfl, rfl, ?_⟩
  refine YWp.ofTo (To.of (o := B6fc0 z0 z1 z2 g0 n0 g1 n1 g2 n2 ga kx y l1 (gwLaw (subLaw z0 (addO (16 * j) 0) 16))) eGh_ok hmA (Nat.le_refl 11) OrcOk.nil rfl (B6fc0_ok ?_) B6fc0_ex B6fc0_fm B6fc0_tab) hamb ⟨by decide, [], Ntc0 z0 z1 z2 g0 n0 g1 n1 g2 n2 ga kx (mwLaw (xwLaw y (gwLaw (subLaw z0 (addO (16 * j) 0) 16))) kx) l1 _, rfl, Ntc0_ok trivial, ?_⟩
  · have h1 := hy.len
    have h2 := hw.len
    have h3 := e.pk.len
    have h4 := hy.xw hw
    simp only [allP, Con.h, h1, h2, h3, h4, hy, hw, e.pk, and_true, true_and]
  rw [Ntc0_fm, Ntc0_tab, eb]
  show YWp eGh 30 11 [(l2, H2c0 z0 z1 z2 g0 n0 g1 n1 g2 n2 ga kx), (l1, H1c)] cnd79 _ _ _ _
  rw [cnd79_eq]
  exact YWp.cond (b := false) rfl (fun h => by cases h) (fun _ => YWp.skip hamb ⟨rfl, rfl, rfl⟩)
theorem chpc0 {z0 z1 z2 : List Int} {g0 n0 g1 n1 g2 n2 ga : Nat} {kx : List Int} (e : Exc z0 z1 z2 g0 n0 g1 n1 g2 n2 ga kx) {y : List Int} (hy : WpLaw y) (l1 l2 : Nat) {j r : Nat} (hr : r < 16) (hj : 16 * j + r = n0) :
    YWp eGh 30 11 [(l2, H2c0 z0 z1 z2 g0 n0 g1 n1 g2 n2 ga kx), (l1, H1c)] bd79 [(2, .var 8 0), (5, .slice 1 1 g0 (16 * j) r (some r))] (TNc0 z0 z1 z2 g0 n0 g1 n1 g2 n2 ga kx y l1) [(.busy, none), (.ready, none)] fun ex fm T σ => ex = .normal ∧ T = ((TNc0 z0 z1 z2 g0 n0 g1 n1 g2 n2 ga kx (mwLaw (xwLaw y (gwLaw (ckLaw z0 n0 j))) kx) l1) : Tab) ∧ σ = [(.busy, none), (.ready, none)] := by
  have hamb := ambc0 z0 z1 z2 g0 n0 g1 n1 g2 n2 ga kx l1 l2
  have hambM := ambMc0 z0 z1 z2 g0 n0 g1 n1 g2 n2 ga kx l1 l2
  have hz := e.pz0
  have hbz := e.pb0
  have hcl := ck_len hz j
  have hcb := ck_bytes hbz n0 j
  have ex0 : (List.take r (dropO (addO (16 * j) 0) z0) ++ List.replicate (16 - (r : Int)).toNat 0) = (ckLaw z0 n0 j) := by
    rw [addO_eq, Nat.add_zero, dropO_eq, ck_part (by omega), show n0 - 16 * j = r by omega, show (16 - (r : Int)).toNat = 16 - r by omega]
  have eb : (subLaw (List.take r (dropO (addO (16 * j) 0) z0) ++ List.replicate (16 - (r : Int)).toNat 0) 0 16) = (ckLaw z0 n0 j) := by
    rw [ex0, take_sub, List.take_of_length_le (by omega)]
  have hw : WpLaw (gwLaw (subLaw (List.take r (dropO (addO (16 * j) 0) z0) ++ List.replicate (16 - (r : Int)).toNat 0) 0 16)) := by rw [eb]; exact .gw hcb hcl
  rw [bd79_eq]
  refine YWp.block (YWp.seq (YWp.yieldDrawn eGh_ok hmA (l1 := ops79.toList.take 12) (oy := ops79.toList.getD 12 default) (o2 := ops79.toList.getD 13 default) (by kernel_rfl) (ds1 := [some false]) (o1 := Dpc0 z0 z1 z2 g0 n0 g1 n1 g2 n2 ga kx y l1 l2 (16 * j) r) (by kernel_rfl) (by kernel_rfl) (by kernel_rfl) (by kernel_rfl) (by kernel_rfl) (by kernel_rfl) (Dpc0_ok ?_) (f := .tmp 15) (x := .tmp 26) (t := 27) (c := theCall (ops79.toList.getD 12 default)) (by kernel_rfl) (by kernel_rfl) (by kernel_rfl) (by kernel_rfl) (by kernel_rfl) (by kernel_rfl) (by decide) (i := 1) (l := l1) (H := H1c) (by rw [Dpc0_fm]; rfl) (v := .ints .u64 (gwLaw (subLaw (List.take r (dropO (addO (16 * j) 0) z0) ++ List.replicate (16 - (r : Int)).toNat 0) 0 16))) (by rw [Dpc0_fm]; rfl) rfl rfl (p := 9) rfl (by decide) (kk := 12) (by decide) (by rw [Dpc0_fm]; exact fmIn_of rfl) hamb ?_))
  · rw [ex0]
    simp only [allP, Con.h, addO_eq, Nat.add_zero, hcl, hcb, eq_self, true_and, and_true]
    omega
  rw [Dpc0_tab]
  refine YWp.ofTo (To.of (o := A6pc0 z0 z1 z2 g0 n0 g1 n1 g2 n2 ga kx y l1 (List.take r (dropO (addO (16 * j) 0) z0) ++ List.replicate (16 - (r : Int)).toNat 0) (gwLaw (subLaw (List.take r (dropO (addO (16 * j) 0) z0) ++ List.replicate (16 - (r : Int)).toNat 0) 0 16))) eGh_ok hmA (Nat.le_refl 12) OrcOk.nil rfl (A6pc0_ok ⟨hw.len, trivial⟩) A6pc0_ex A6pc0_fm A6pc0_tab) hambM ⟨rfl, rfl, ?_⟩
  refine YWp.ofTo (To.of (o := B6pc0 z0 z1 z2 g0 n0 g1 n1 g2 n2 ga kx y l1 (List.take r (dropO (addO (16 * j) 0) z0) ++ List.replicate (16 - (r : Int)).toNat 0) (gwLaw (subLaw (List.take r (dropO (addO (16 * j) 0) z0) ++ List.replicate (16 - (r : Int)).toNat 0) 0 16))) eGh_ok hmA (Nat.le_refl 12) OrcOk.nil rfl (B6pc0_ok ?_) B6pc0_ex B6pc0_fm B6pc0_tab) hambM ⟨by decide, [], Nqc0 z0 z1 z2 g0 n0 g1 n1 g2 n2 ga kx (mwLaw (xwLaw y (gwLaw (subLaw (List.take r (dropO (addO (16 * j) 0) z0) ++ List.replicate (16 - (r : Int)).toNat 0) 0 16))) kx) l1 (List.take r (dropO (addO (16 * j) 0) z0) ++ List.replicate (16 - (r : Int)).toNat 0) _, rfl, Nqc0_ok trivial, ?_⟩
  · have h1 := hy.len
    have h2 := hw.len
    have h3 := e.pk.len
    have h4 := hy.xw hw
    simp only [allP, Con.h, h1, h2, h3, h4, hy, hw, e.pk, and_true, true_and]
  rw [Nqc0_fm, Nqc0_tab, eb]
  show YWp eGh 30 11 [(l2, H2c0 z0 z1 z2 g0 n0 g1 n1 g2 n2 ga kx), (l1, H1c)] cnd79 _ _ _ _
  refine YWp.sub (f := [(28, .bool false)]) ⟨rfl, trivial⟩ ?_
  exact YWp.ofTo (To.of (k := 11) (o := Cpc0 z0 z1 z2 g0 n0 g1 n1 g2 n2 ga kx (mwLaw (xwLaw y (gwLaw (ckLaw z0 n0 j))) kx) l1 (List.take r (dropO (addO (16 * j) 0) z0) ++ List.replicate (16 - (r : Int)).toNat 0)) eGh_ok hmA (Nat.le_refl 11) OrcOk.nil rfl (Cpc0_ok trivial) Cpc0_ex Cpc0_fm Cpc0_tab) hamb ⟨rfl, rfl, rfl⟩
theorem chc0 {z0 z1 z2 : List Int} {g0 n0 g1 n1 g2 n2 ga : Nat} {kx : List Int} (e : Exc z0 z1 z2 g0 n0 g1 n1 g2 n2 ga kx) {y : List Int} (hy : WpLaw y) (l1 l2 : Nat) {j : Nat} (hj : 16 * j < n0) :
    YWp eGh 30 11 [(l2, H2c0 z0 z1 z2 g0 n0 g1 n1 g2 n2 ga kx), (l1, H1c)] bd79 [(2, .var 8 0), (5, .slice 1 1 g0 (16 * j) (min 16 (n0 - 16 * j)) (some (min 16 (n0 - 16 * j))))] (TNc0 z0 z1 z2 g0 n0 g1 n1 g2 n2 ga kx y l1) [(.busy, none), (.ready, none)] fun ex fm T σ => ex = .normal ∧ T = ((TNc0 z0 z1 z2 g0 n0 g1 n1 g2 n2 ga kx (mwLaw (xwLaw y (gwLaw (ckLaw z0 n0 j))) kx) l1) : Tab) ∧ σ = [(.busy, none), (.ready, none)] := by
  by_cases h : 16 * j + 16 ≤ n0
  · rw [show min 16 (n0 - 16 * j) = 16 by omega]
    exact chfc0 e hy l1 l2 h
  · exact chpc0 e hy l1 l2 (by omega) (by omega)
theorem rdc0 {z0 z1 z2 : List Int} {g0 n0 g1 n1 g2 n2 ga : Nat} {kx : List Int} (e : Exc z0 z1 z2 g0 n0 g1 n1 g2 n2 ga kx) {y : List Int} (hy : WpLaw y) (l1 l2 : Nat) {j : Nat} (hj : 16 * j < n0) :
    YWp eGh 31 11 [(l2, H2c0 z0 z1 z2 g0 n0 g1 n1 g2 n2 ga kx), (l1, H1c)] (roundOf 0 f81) [(0, .func (.yield l2) [] []), (1, .var 9 0), (2, .var 10 0), (4, .int .i64 ((16 * j : Nat) : Int))] (TNc0 z0 z1 z2 g0 n0 g1 n1 g2 n2 ga kx y l1) [(.ready, none), (.ready, none)] fun ex fm T σ => ex = .normal ∧ fm = [(0, .func (.yield l2) [] []), (1, .var 9 0), (2, .var 10 0), (4, .int .i64 ((16 * (j + 1) : Nat) : Int))] ∧ T = ((TNc0 z0 z1 z2 g0 n0 g1 n1 g2 n2 ga kx (mwLaw (xwLaw y (gwLaw (ckLaw z0 n0 j))) kx) l1) : Tab) ∧ σ = [(.ready, none), (.ready, none)] := by
  have hamb := ambc0 z0 z1 z2 g0 n0 g1 n1 g2 n2 ga kx l1 l2
  have hz := e.pz0
  have hm := e.pm0
  skip
  have er : (if (↑(subO n0 ((16 * j : Nat) : Int).toNat) : Int) < 16 then (↑(subO n0 ((16 * j : Nat) : Int).toNat) : Int) else 16) = ((min 16 (n0 - 16 * j) : Nat) : Int) := by
    rw [Int.toNat_natCast, subO_eq, min16]
  have e1 : ((16 * j : Nat) : Int).toNat = 16 * j := Int.toNat_natCast _
  have e2 : subO (((16 * j : Nat) : Int) + ((min 16 (n0 - 16 * j) : Nat) : Int)).toNat (16 * j) = min 16 (n0 - 16 * j) := by rw [subO_eq]; omega
  rw [split81]
  refine YWp.seq (YWp.ofTo (To.of (o := Hyc0 z0 z1 z2 g0 n0 g1 n1 g2 n2 ga kx y l1 l2 ((16 * j : Nat) : Int)) eGh_ok hmA (Nat.le_refl 11) OrcOk.nil rfl (Hyc0_ok ?_) Hyc0_ex Hyc0_fm Hyc0_tab) hamb ?_)
  · simp only [allP, Con.h, decide_eq_true_eq, eq_self, true_and, and_true]; omega
  refine YWp.seq (YWp.block (YWp.seq (YWp.ofTo (To.of (o := Msc0 z0 z1 z2 g0 n0 g1 n1 g2 n2 ga kx y l1 l2 ((16 * j : Nat) : Int)) (fm' := [(0, .func (.yield l2) [] []), (1, .var 9 0), (2, .var 10 0), (4, .int .i64 ((16 * j : Nat) : Int))] ++ [(5, .int .i64 ((min 16 (n0 - 16 * j) : Nat) : Int))]) eGh_ok hmA (Nat.le_refl 11) OrcOk.nil rfl (Msc0_ok ?_) Msc0_ex (by rw [Msc0_fm, er]; rfl) Msc0_tab) hamb ?_)))
  · simp only [allP, Con.h, eq_self, true_and, and_true]; omega
  refine YWp.seq (YWp.yieldRegion eGh_ok (l1 := ops81.toList.take 10) (l2 := ops81.toList.drop 11) (oy := ops81.toList.getD 10 default) (by kernel_rfl) (ds1 := []) (o1 := Yac0 z0 z1 z2 g0 n0 g1 n1 g2 n2 ga kx y l1 l2 ((16 * j : Nat) : Int) ((min 16 (n0 - 16 * j) : Nat) : Int)) (by kernel_rfl) (Yac0_ok ?_) (f := .tmp 19) (x := .tmp 28) (t := 29) (c := theCall (ops81.toList.getD 10 default)) (by kernel_rfl) (by kernel_rfl) (by kernel_rfl) (by kernel_rfl) (by kernel_rfl) (by decide) (i := 0) (l := l2) (H := H2c0 z0 z1 z2 g0 n0 g1 n1 g2 n2 ga kx) (by rw [Yac0_fm]; rfl) (v := .slice 1 1 g0 (16 * j) (min 16 (n0 - 16 * j)) (some (min 16 (n0 - 16 * j)))) (by rw [Yac0_fm, e1, e2]; rfl) rfl rfl (p := 14) rfl (show 14 < 30 by decide) (kk := 11) (Nat.le_refl _) (by rw [Yac0_fm]; exact fmIn_of rfl) hamb ?_)
  · simp only [allP, Con.h, eq_self, true_and, and_true]; omega
  rw [Yac0_tab]
  refine YWp.ofTo (To.of (o := Asc0 z0 z1 z2 g0 n0 g1 n1 g2 n2 ga kx y l1 l2 (16 * j) (min 16 (n0 - 16 * j))) eGh_ok hmA (Nat.le_refl 11) OrcOk.nil rfl (Asc0_ok trivial) Asc0_ex Asc0_fm Asc0_tab) hamb ⟨rfl, rfl, ?_⟩
  refine YWp.mono (chc0 e hy l1 l2 hj) fun ex fm T σ hP => ?_
  obtain ⟨rfl, rfl, rfl⟩ := hP
  refine ⟨by decide, [], Nuc0 z0 z1 z2 g0 n0 g1 n1 g2 n2 ga kx (mwLaw (xwLaw y (gwLaw (ckLaw z0 n0 j))) kx) l1 _, rfl, Nuc0_ok trivial, ?_⟩
  rw [Nuc0_fm, Nuc0_tab, Yac0_fm]
  show YWp eGh 31 11 [(l2, H2c0 z0 z1 z2 g0 n0 g1 n1 g2 n2 ga kx), (l1, H1c)] cnd81 _ _ _ _
  rw [cnd81_eq]
  refine YWp.cond (b := false) rfl (fun h => by cases h) (fun _ => YWp.skip hamb ?_)
  show YWp eGh 31 11 [(l2, H2c0 z0 z1 z2 g0 n0 g1 n1 g2 n2 ga kx), (l1, H1c)] r81 _ _ _ _
  refine YWp.sub (f := [(0, .func (.yield l2) [] []), (1, .var 9 0), (2, .var 10 0), (4, .int .i64 ((16 * j : Nat) : Int))]) ⟨rfl, rfl, rfl, rfl, trivial⟩ ?_
  refine YWp.ofTo (To.of (o := Rbc0 z0 z1 z2 g0 n0 g1 n1 g2 n2 ga kx _ l1 l2 ((16 * j : Nat) : Int)) eGh_ok hmA (Nat.le_refl 11) OrcOk.nil rfl (Rbc0_ok ?_) Rbc0_ex Rbc0_fm Rbc0_tab) hamb ⟨rfl, ?_, rfl, rfl⟩
  · simp only [allP, Con.h, and_true]; omega
  · rw [show ((16 * j : Nat) : Int) + 16 = ((16 * (j + 1) : Nat) : Int) by omega]
theorem inc0 {z0 z1 z2 : List Int} {g0 n0 g1 n1 g2 n2 ga : Nat} {kx : List Int} (e : Exc z0 z1 z2 g0 n0 g1 n1 g2 n2 ga kx) {y : List Int} (hy : WpLaw y) (l1 l2 : Nat) :
    YWp eGh 31 11 [(l2, H2c0 z0 z1 z2 g0 n0 g1 n1 g2 n2 ga kx), (l1, H1c)] (bodyOf f81) (argF ([] ++ (.func (.yield l2) [] [] :: [.var 9 0, .var 10 0])) 0) (TNc0 z0 z1 z2 g0 n0 g1 n1 g2 n2 ga kx y l1) [(.ready, none), (.ready, none)] fun ex fm' T' σ' =>
      (ex = .normal ∨ ex = .ret) ∧ (∃ cs us, aRes eGh fm' T' f81.results.toList = some (cs, us) ∧ allP cs) ∧ ∃ st σ2, σ' = st :: σ2 ∧ st.1 ≠ .busy ∧
        match st.2 with
        | none => AExit.normal = .normal ∧ [(1, .var 7 0), (2, .var 8 0), (6, .slice 1 0 ga 0 3 (some 3)), (7, .int .i64 3), (8, .int .i64 0), (13, .func (.func 81) [] [.var 9 0, .var 10 0])] = (H2c0 z0 z1 z2 g0 n0 g1 n1 g2 n2 ga kx).fm ∧ T' = (TNc0 z0 z1 z2 g0 n0 g1 n1 g2 n2 ga kx (hsLaw kx y z0 n0) l1) ∧ σ2 = [(.ready, none)]
        | some (.exit id) => AExit.exit id = .normal ∧ [(1, .var 7 0), (2, .var 8 0), (6, .slice 1 0 ga 0 3 (some 3)), (7, .int .i64 3), (8, .int .i64 0), (13, .func (.func 81) [] [.var 9 0, .var 10 0])] = (H2c0 z0 z1 z2 g0 n0 g1 n1 g2 n2 ga kx).fm ∧ T' = (TNc0 z0 z1 z2 g0 n0 g1 n1 g2 n2 ga kx (hsLaw kx y z0 n0) l1) ∧ σ2 = [(.ready, none)]
        | some .ret => AExit.ret = .normal ∧ [(1, .var 7 0), (2, .var 8 0), (6, .slice 1 0 ga 0 3 (some 3)), (7, .int .i64 3), (8, .int .i64 0), (13, .func (.func 81) [] [.var 9 0, .var 10 0])] = (H2c0 z0 z1 z2 g0 n0 g1 n1 g2 n2 ga kx).fm ∧ T' = (TNc0 z0 z1 z2 g0 n0 g1 n1 g2 n2 ga kx (hsLaw kx y z0 n0) l1) ∧ σ2 = [(.ready, none)]
        | _ => False := by
  have hamb := ambc0 z0 z1 z2 g0 n0 g1 n1 g2 n2 ga kx l1 l2
  rw [splitb81, res81]
  refine YWp.seq (YWp.ofTo (To.of (o := Zsc0 z0 z1 z2 g0 n0 g1 n1 g2 n2 ga kx y l1 l2) eGh_ok hmA (Nat.le_refl 11) OrcOk.nil rfl (Zsc0_ok trivial) Zsc0_ex Zsc0_fm Zsc0_tab) hamb ?_)
  refine YWp.block (YWp.loop (fun fm T σ μ => ∃ j, 16 * j < n0 + 16 ∧ μ = n0 + 16 - j ∧ fm = [(0, .func (.yield l2) [] []), (1, .var 9 0), (2, .var 10 0), (4, .int .i64 ((16 * j : Nat) : Int))] ∧ T = (TNc0 z0 z1 z2 g0 n0 g1 n1 g2 n2 ga kx (hyLaw kx y z0 n0 j) l1) ∧ σ = [(.ready, none), (.ready, none)]) (n0 + 16) ⟨0, by omega, rfl, rfl, rfl, rfl⟩ ?_)
  rintro fm T σ μ ⟨j, hj, rfl, rfl, rfl, rfl⟩
  by_cases h : 16 * j < n0
  · refine YWp.mono (rdc0 e (hy_wp hy e.pz0 e.pb0 j) l1 l2 h) fun ex fm T σ hP => ?_
    obtain ⟨rfl, rfl, rfl, rfl⟩ := hP
    exact ⟨n0 + 16 - (j + 1), by omega, j + 1, by omega, rfl, rfl, rfl, rfl⟩
  · rw [split81]
    refine YWp.seq (YWp.ofTo (To.of (o := Hnc0 z0 z1 z2 g0 n0 g1 n1 g2 n2 ga kx (hyLaw kx y z0 n0 j) l1 l2 ((16 * j : Nat) : Int)) eGh_ok hmA (Nat.le_refl 11) OrcOk.nil rfl (Hnc0_ok ?_) Hnc0_ex Hnc0_fm Hnc0_tab) hamb ?_)
    · simp only [allP, Con.h, decide_eq_false_iff_not, eq_self, true_and, and_true]; omega
    obtain rfl : j = (n0 + 15) / 16 := by omega
    exact ⟨.inl rfl, ⟨[], [], rfl, trivial⟩, (.ready, none), _, rfl, by decide, rfl, rfl, rfl, rfl⟩
theorem roc0 {z0 z1 z2 : List Int} {g0 n0 g1 n1 g2 n2 ga : Nat} {kx : List Int} (e : Exc z0 z1 z2 g0 n0 g1 n1 g2 n2 ga kx) {y : List Int} (hy : WpLaw y) (l1 : Nat) :
    YWp eGh 30 8 [(l1, H1c)] (roundOf 0 f79) [(1, .var 7 0), (2, .var 8 0), (6, .slice 1 0 ga 0 3 (some 3)), (7, .int .i64 3), (8, .int .i64 0)] (TPc z0 z1 z2 g0 n0 g1 n1 g2 n2 ga kx y l1) [(.ready, none)] fun ex fm T σ => ex = .normal ∧ fm = [(1, .var 7 0), (2, .var 8 0), (6, .slice 1 0 ga 0 3 (some 3)), (7, .int .i64 3), (8, .int .i64 1)] ∧ T = ((TPc z0 z1 z2 g0 n0 g1 n1 g2 n2 ga kx (hsLaw kx y z0 n0) l1) : Tab) ∧ σ = [(.ready, none)] := by
  have hamb : ambIn 8 [(l1, H1c)] := ambIn_one rfl
  rw [split79]
  refine YWp.seq (YWp.ofTo (To.base (by decide) (To.of (o := Hdc0 z0 z1 z2 g0 n0 g1 n1 g2 n2 ga kx y l1) eGh_ok hmA (Nat.le_refl 9) OrcOk.nil rfl (Hdc0_ok trivial) Hdc0_ex Hdc0_fm Hdc0_tab)) hamb ?_)
  refine YWp.seq ?_
  rw [c79_eq]
  refine YWp.cond (b := true) rfl (fun _ => YWp.skip hamb ?_) (fun h => by cases h)
  refine YWp.sub (f := [(1, .var 7 0), (2, .var 8 0), (6, .slice 1 0 ga 0 3 (some 3)), (7, .int .i64 3), (8, .int .i64 0)]) ⟨rfl, rfl, rfl, rfl, rfl, trivial⟩ ?_
  refine YWp.seq (YWp.block (YWp.seq (YWp.ofTo (To.base (by decide) (To.of (o := Pac0 z0 z1 z2 g0 n0 g1 n1 g2 n2 ga kx y l1) eGh_ok hmA (Nat.le_refl 9) OrcOk.nil rfl (Pac0_ok ⟨rfl, rfl, trivial⟩) Pac0_ex Pac0_fm Pac0_tab)) hamb ?_)))
  refine YWp.sub (f := ((4, .slice 1 1 g0 0 n0 none) :: [(1, .var 7 0), (2, .var 8 0), (6, .slice 1 0 ga 0 3 (some 3)), (7, .int .i64 3), (8, .int .i64 0)])) ⟨rfl, rfl, rfl, rfl, rfl, rfl, trivial⟩ ?_
  refine YWp.seq (YWp.ofTo (To.base (by decide) (To.of (k := 9) (o := Pbc0 z0 z1 z2 g0 n0 g1 n1 g2 n2 ga kx y l1) eGh_ok hmA (Nat.le_refl 9) OrcOk.nil rfl (Pbc0_ok ⟨rfl, trivial⟩) Pbc0_ex Pbc0_fm Pbc0_tab)) hamb ?_)
  refine YWp.block ?_
  rw [rf79_eq]
  refine YWp.mono (YWp.rangeFunc (post := fun ex fm T' σ' => ex = .normal ∧ fm = (H2c0 z0 z1 z2 g0 n0 g1 n1 g2 n2 ga kx).fm ∧ T' = (TNc0 z0 z1 z2 g0 n0 g1 n1 g2 n2 ga kx (hsLaw kx y z0 n0) l1) ∧ σ' = [(.ready, none)]) eGh_ok (gf := 81) (gfn := f81) (c := bodyOf f81) (first := []) (caps := [.var 9 0, .var 10 0]) rfl (by kernel_rfl) (by kernel_rfl) (by kernel_rfl) (kk := 11) (by decide) (fmIn_of rfl) (by kernel_rfl) (fun l2 => inc0 e hy l1 l2)) fun ex fm T σ hP => ?_
  obtain ⟨rfl, rfl, rfl, rfl⟩ := hP
  show YWp eGh 30 8 [(l1, H1c)] r79 _ _ _ _
  exact YWp.ofTo (To.base (by decide) (To.of (k := 9) (o := Rrc0 z0 z1 z2 g0 n0 g1 n1 g2 n2 ga kx (hsLaw kx y z0 n0) l1) eGh_ok hmA (Nat.le_refl 9) OrcOk.nil rfl (Rrc0_ok trivial) Rrc0_ex Rrc0_fm Rrc0_tab)) hamb ⟨rfl, rfl, rfl, rfl⟩
noncomputable def H2c1 (z0 z1 z2 : List Int) (g0 n0 g1 n1 g2 n2 ga : Nat) (kx : List Int) : Host := ⟨#[14], as79, bd79, [(1, .var 7 0), (2, .var 8 0), (6, .slice 1 0 ga 0 3 (some 3)), (7, .int .i64 3), (8, .int .i64 1), (13, .func (.func 81) [] [.var 9 0, .var 10 0])], 30⟩
theorem ambc1 (z0 z1 z2 : List Int) (g0 n0 g1 n1 g2 n2 ga : Nat) (kx : List Int) (l1 l2 : Nat) : ambIn 11 [(l2, H2c1 z0 z1 z2 g0 n0 g1 n1 g2 n2 ga kx), (l1, H1c)] := fun x hx => by
  rcases List.mem_cons.1 hx with rfl | hx
  · exact fmIn_of rfl
  · exact ambIn_one rfl x hx
theorem ambMc1 (z0 z1 z2 : List Int) (g0 n0 g1 n1 g2 n2 ga : Nat) (kx : List Int) (l1 l2 : Nat) : ambIn 12 [(l2, H2c1 z0 z1 z2 g0 n0 g1 n1 g2 n2 ga kx), (l1, H1c)] := fun x hx => by
  rcases List.mem_cons.1 hx with rfl | hx
  · exact fmIn_of rfl
  · exact ambIn_one rfl x hx
theorem chfc1 {z0 z1 z2 : List Int} {g0 n0 g1 n1 g2 n2 ga : Nat} {kx : List Int} (e : Exc z0 z1 z2 g0 n0 g1 n1 g2 n2 ga kx) {y : List Int} (hy : WpLaw y) (l1 l2 : Nat) {j : Nat} (hj : 16 * j + 16 ≤ n1) :
    YWp eGh 30 11 [(l2, H2c1 z0 z1 z2 g0 n0 g1 n1 g2 n2 ga kx), (l1, H1c)] bd79 [(2, .var 8 0), (5, .slice 1 2 g1 (16 * j) 16 (some 16))] (TNc1 z0 z1 z2 g0 n0 g1 n1 g2 n2 ga kx y l1) [(.busy, none), (.ready, none)] fun ex fm T σ => ex = .normal ∧ T = ((TNc1 z0 z1 z2 g0 n0 g1 n1 g2 n2 ga kx (mwLaw (xwLaw y (gwLaw (ckLaw z1 n1 j))) kx) l1) : Tab) ∧ σ = [(.busy, none), (.ready, none)] := by
  have hamb := ambc1 z0 z1 z2 g0 n0 g1 n1 g2 n2 ga kx l1 l2
  have hambM := ambMc1 z0 z1 z2 g0 n0 g1 n1 g2 n2 ga kx l1 l2
  have hz := e.pz1
  have hbz := e.pb1
  have hcl := ck_len hz j
  have hcb := ck_bytes hbz n1 j
  have eb : (subLaw z1 (addO (16 * j) 0) 16) = (ckLaw z1 n1 j) := by rw [addO_eq, Nat.add_zero, ck_full hj]
  have hw : WpLaw (gwLaw (subLaw z1 (addO (16 * j) 0) 16)) := by rw [eb]; exact .gw hcb hcl
  rw [bd79_eq]
  refine YWp.block (YWp.seq (YWp.yieldDrawn eGh_ok hmA (l1 := ops79.toList.take 12) (oy := ops79.toList.getD 12 default) (o2 := ops79.toList.getD 13 default) (by kernel_rfl) (ds1 := [some true]) (o1 := Dfc1 z0 z1 z2 g0 n0 g1 n1 g2 n2 ga kx y l1 l2 (16 * j)) (by kernel_rfl) (by kernel_rfl) (by kernel_rfl) (by kernel_rfl) (by kernel_rfl) (by kernel_rfl) (Dfc1_ok ?_) (f := .tmp 15) (x := .tmp 26) (t := 27) (c := theCall (ops79.toList.getD 12 default)) (by kernel_rfl) (by kernel_rfl) (by kernel_rfl) (by kernel_rfl) (by kernel_rfl) (by kernel_rfl) (by decide) (i := 1) (l := l1) (H := H1c) (by rw [Dfc1_fm]; rfl) (v := .ints .u64 (gwLaw (subLaw z1 (addO (16 * j) 0) 16))) (by rw [Dfc1_fm]; rfl) rfl rfl (p := 9) rfl (by decide) (kk := 11) (by decide) (by rw [Dfc1_fm]; exact fmIn_of rfl) hamb ?_))
  · simp only [allP, Con.h, addO_eq, Nat.add_zero, hbz, eq_self, true_and, and_true]
    omega
  rw [Dfc1_tab]
  refine YWp.ofTo (To.of (o := A6fc1 z0 z1 z2 g0 n0 g1 n1 g2 n2 ga kx y l1 (gwLaw (subLaw z1 (addO (16 * j) 0) 16))) eGh_ok hmA (Nat.le_refl 11) OrcOk.nil rfl (A6fc1_ok ⟨hw.len, trivial⟩) A6fc1_ex A6fc1_fm A6fc1_tab) hamb ⟨rfl, rfl, ?_⟩
  refine YWp.ofTo (To.of (o := B6fc1 z0 z1 z2 g0 n0 g1 n1 g2 n2 ga kx y l1 (gwLaw (subLaw z1 (addO (16 * j) 0) 16))) eGh_ok hmA (Nat.le_refl 11) OrcOk.nil rfl (B6fc1_ok ?_) B6fc1_ex B6fc1_fm B6fc1_tab) hamb ⟨by decide, [], Ntc1 z0 z1 z2 g0 n0 g1 n1 g2 n2 ga kx (mwLaw (xwLaw y (gwLaw (subLaw z1 (addO (16 * j) 0) 16))) kx) l1 _, rfl, Ntc1_ok trivial, ?_⟩
  · have h1 := hy.len
    have h2 := hw.len
    have h3 := e.pk.len
    have h4 := hy.xw hw
    simp only [allP, Con.h, h1, h2, h3, h4, hy, hw, e.pk, and_true, true_and]
  rw [Ntc1_fm, Ntc1_tab, eb]
  show YWp eGh 30 11 [(l2, H2c1 z0 z1 z2 g0 n0 g1 n1 g2 n2 ga kx), (l1, H1c)] cnd79 _ _ _ _
  rw [cnd79_eq]
  exact YWp.cond (b := false) rfl (fun h => by cases h) (fun _ => YWp.skip hamb ⟨rfl, rfl, rfl⟩)
theorem chpc1 {z0 z1 z2 : List Int} {g0 n0 g1 n1 g2 n2 ga : Nat} {kx : List Int} (e : Exc z0 z1 z2 g0 n0 g1 n1 g2 n2 ga kx) {y : List Int} (hy : WpLaw y) (l1 l2 : Nat) {j r : Nat} (hr : r < 16) (hj : 16 * j + r = n1) :
    YWp eGh 30 11 [(l2, H2c1 z0 z1 z2 g0 n0 g1 n1 g2 n2 ga kx), (l1, H1c)] bd79 [(2, .var 8 0), (5, .slice 1 2 g1 (16 * j) r (some r))] (TNc1 z0 z1 z2 g0 n0 g1 n1 g2 n2 ga kx y l1) [(.busy, none), (.ready, none)] fun ex fm T σ => ex = .normal ∧ T = ((TNc1 z0 z1 z2 g0 n0 g1 n1 g2 n2 ga kx (mwLaw (xwLaw y (gwLaw (ckLaw z1 n1 j))) kx) l1) : Tab) ∧ σ = [(.busy, none), (.ready, none)] := by
  have hamb := ambc1 z0 z1 z2 g0 n0 g1 n1 g2 n2 ga kx l1 l2
  have hambM := ambMc1 z0 z1 z2 g0 n0 g1 n1 g2 n2 ga kx l1 l2
  have hz := e.pz1
  have hbz := e.pb1
  have hcl := ck_len hz j
  have hcb := ck_bytes hbz n1 j
  have ex0 : (List.take r (dropO (addO (16 * j) 0) z1) ++ List.replicate (16 - (r : Int)).toNat 0) = (ckLaw z1 n1 j) := by
    rw [addO_eq, Nat.add_zero, dropO_eq, ck_part (by omega), show n1 - 16 * j = r by omega, show (16 - (r : Int)).toNat = 16 - r by omega]
  have eb : (subLaw (List.take r (dropO (addO (16 * j) 0) z1) ++ List.replicate (16 - (r : Int)).toNat 0) 0 16) = (ckLaw z1 n1 j) := by
    rw [ex0, take_sub, List.take_of_length_le (by omega)]
  have hw : WpLaw (gwLaw (subLaw (List.take r (dropO (addO (16 * j) 0) z1) ++ List.replicate (16 - (r : Int)).toNat 0) 0 16)) := by rw [eb]; exact .gw hcb hcl
  rw [bd79_eq]
  refine YWp.block (YWp.seq (YWp.yieldDrawn eGh_ok hmA (l1 := ops79.toList.take 12) (oy := ops79.toList.getD 12 default) (o2 := ops79.toList.getD 13 default) (by kernel_rfl) (ds1 := [some false]) (o1 := Dpc1 z0 z1 z2 g0 n0 g1 n1 g2 n2 ga kx y l1 l2 (16 * j) r) (by kernel_rfl) (by kernel_rfl) (by kernel_rfl) (by kernel_rfl) (by kernel_rfl) (by kernel_rfl) (Dpc1_ok ?_) (f := .tmp 15) (x := .tmp 26) (t := 27) (c := theCall (ops79.toList.getD 12 default)) (by kernel_rfl) (by kernel_rfl) (by kernel_rfl) (by kernel_rfl) (by kernel_rfl) (by kernel_rfl) (by decide) (i := 1) (l := l1) (H := H1c) (by rw [Dpc1_fm]; rfl) (v := .ints .u64 (gwLaw (subLaw (List.take r (dropO (addO (16 * j) 0) z1) ++ List.replicate (16 - (r : Int)).toNat 0) 0 16))) (by rw [Dpc1_fm]; rfl) rfl rfl (p := 9) rfl (by decide) (kk := 12) (by decide) (by rw [Dpc1_fm]; exact fmIn_of rfl) hamb ?_))
  · rw [ex0]
    simp only [allP, Con.h, addO_eq, Nat.add_zero, hcl, hcb, eq_self, true_and, and_true]
    omega
  rw [Dpc1_tab]
  refine YWp.ofTo (To.of (o := A6pc1 z0 z1 z2 g0 n0 g1 n1 g2 n2 ga kx y l1 (List.take r (dropO (addO (16 * j) 0) z1) ++ List.replicate (16 - (r : Int)).toNat 0) (gwLaw (subLaw (List.take r (dropO (addO (16 * j) 0) z1) ++ List.replicate (16 - (r : Int)).toNat 0) 0 16))) eGh_ok hmA (Nat.le_refl 12) OrcOk.nil rfl (A6pc1_ok ⟨hw.len, trivial⟩) A6pc1_ex A6pc1_fm A6pc1_tab) hambM ⟨rfl, rfl, ?_⟩
  refine YWp.ofTo (To.of (o := B6pc1 z0 z1 z2 g0 n0 g1 n1 g2 n2 ga kx y l1 (List.take r (dropO (addO (16 * j) 0) z1) ++ List.replicate (16 - (r : Int)).toNat 0) (gwLaw (subLaw (List.take r (dropO (addO (16 * j) 0) z1) ++ List.replicate (16 - (r : Int)).toNat 0) 0 16))) eGh_ok hmA (Nat.le_refl 12) OrcOk.nil rfl (B6pc1_ok ?_) B6pc1_ex B6pc1_fm B6pc1_tab) hambM ⟨by decide, [], Nqc1 z0 z1 z2 g0 n0 g1 n1 g2 n2 ga kx (mwLaw (xwLaw y (gwLaw (subLaw (List.take r (dropO (addO (16 * j) 0) z1) ++ List.replicate (16 - (r : Int)).toNat 0) 0 16))) kx) l1 (List.take r (dropO (addO (16 * j) 0) z1) ++ List.replicate (16 - (r : Int)).toNat 0) _, rfl, Nqc1_ok trivial, ?_⟩
  · have h1 := hy.len
    have h2 := hw.len
    have h3 := e.pk.len
    have h4 := hy.xw hw
    simp only [allP, Con.h, h1, h2, h3, h4, hy, hw, e.pk, and_true, true_and]
  rw [Nqc1_fm, Nqc1_tab, eb]
  show YWp eGh 30 11 [(l2, H2c1 z0 z1 z2 g0 n0 g1 n1 g2 n2 ga kx), (l1, H1c)] cnd79 _ _ _ _
  refine YWp.sub (f := [(28, .bool false)]) ⟨rfl, trivial⟩ ?_
  exact YWp.ofTo (To.of (k := 11) (o := Cpc1 z0 z1 z2 g0 n0 g1 n1 g2 n2 ga kx (mwLaw (xwLaw y (gwLaw (ckLaw z1 n1 j))) kx) l1 (List.take r (dropO (addO (16 * j) 0) z1) ++ List.replicate (16 - (r : Int)).toNat 0)) eGh_ok hmA (Nat.le_refl 11) OrcOk.nil rfl (Cpc1_ok trivial) Cpc1_ex Cpc1_fm Cpc1_tab) hamb ⟨rfl, rfl, rfl⟩
theorem chc1 {z0 z1 z2 : List Int} {g0 n0 g1 n1 g2 n2 ga : Nat} {kx : List Int} (e : Exc z0 z1 z2 g0 n0 g1 n1 g2 n2 ga kx) {y : List Int} (hy : WpLaw y) (l1 l2 : Nat) {j : Nat} (hj : 16 * j < n1) :
    YWp eGh 30 11 [(l2, H2c1 z0 z1 z2 g0 n0 g1 n1 g2 n2 ga kx), (l1, H1c)] bd79 [(2, .var 8 0), (5, .slice 1 2 g1 (16 * j) (min 16 (n1 - 16 * j)) (some (min 16 (n1 - 16 * j))))] (TNc1 z0 z1 z2 g0 n0 g1 n1 g2 n2 ga kx y l1) [(.busy, none), (.ready, none)] fun ex fm T σ => ex = .normal ∧ T = ((TNc1 z0 z1 z2 g0 n0 g1 n1 g2 n2 ga kx (mwLaw (xwLaw y (gwLaw (ckLaw z1 n1 j))) kx) l1) : Tab) ∧ σ = [(.busy, none), (.ready, none)] := by
  by_cases h : 16 * j + 16 ≤ n1
  · rw [show min 16 (n1 - 16 * j) = 16 by omega]
    exact chfc1 e hy l1 l2 h
  · exact chpc1 e hy l1 l2 (by omega) (by omega)
theorem rdc1 {z0 z1 z2 : List Int} {g0 n0 g1 n1 g2 n2 ga : Nat} {kx : List Int} (e : Exc z0 z1 z2 g0 n0 g1 n1 g2 n2 ga kx) {y : List Int} (hy : WpLaw y) (l1 l2 : Nat) {j : Nat} (hj : 16 * j < n1) :
    YWp eGh 31 11 [(l2, H2c1 z0 z1 z2 g0 n0 g1 n1 g2 n2 ga kx), (l1, H1c)] (roundOf 0 f81) [(0, .func (.yield l2) [] []), (1, .var 9 0), (2, .var 10 0), (4, .int .i64 ((16 * j : Nat) : Int))] (TNc1 z0 z1 z2 g0 n0 g1 n1 g2 n2 ga kx y l1) [(.ready, none), (.ready, none)] fun ex fm T σ => ex = .normal ∧ fm = [(0, .func (.yield l2) [] []), (1, .var 9 0), (2, .var 10 0), (4, .int .i64 ((16 * (j + 1) : Nat) : Int))] ∧ T = ((TNc1 z0 z1 z2 g0 n0 g1 n1 g2 n2 ga kx (mwLaw (xwLaw y (gwLaw (ckLaw z1 n1 j))) kx) l1) : Tab) ∧ σ = [(.ready, none), (.ready, none)] := by
  have hamb := ambc1 z0 z1 z2 g0 n0 g1 n1 g2 n2 ga kx l1 l2
  have hz := e.pz1
  have hm := e.pm1
  skip
  have er : (if (↑(subO n1 ((16 * j : Nat) : Int).toNat) : Int) < 16 then (↑(subO n1 ((16 * j : Nat) : Int).toNat) : Int) else 16) = ((min 16 (n1 - 16 * j) : Nat) : Int) := by
    rw [Int.toNat_natCast, subO_eq, min16]
  have e1 : ((16 * j : Nat) : Int).toNat = 16 * j := Int.toNat_natCast _
  have e2 : subO (((16 * j : Nat) : Int) + ((min 16 (n1 - 16 * j) : Nat) : Int)).toNat (16 * j) = min 16 (n1 - 16 * j) := by rw [subO_eq]; omega
  rw [split81]
  refine YWp.seq (YWp.ofTo (To.of (o := Hyc1 z0 z1 z2 g0 n0 g1 n1 g2 n2 ga kx y l1 l2 ((16 * j : Nat) : Int)) eGh_ok hmA (Nat.le_refl 11) OrcOk.nil rfl (Hyc1_ok ?_) Hyc1_ex Hyc1_fm Hyc1_tab) hamb ?_)
  · simp only [allP, Con.h, decide_eq_true_eq, eq_self, true_and, and_true]; omega
  refine YWp.seq (YWp.block (YWp.seq (YWp.ofTo (To.of (o := Msc1 z0 z1 z2 g0 n0 g1 n1 g2 n2 ga kx y l1 l2 ((16 * j : Nat) : Int)) (fm' := [(0, .func (.yield l2) [] []), (1, .var 9 0), (2, .var 10 0), (4, .int .i64 ((16 * j : Nat) : Int))] ++ [(5, .int .i64 ((min 16 (n1 - 16 * j) : Nat) : Int))]) eGh_ok hmA (Nat.le_refl 11) OrcOk.nil rfl (Msc1_ok ?_) Msc1_ex (by rw [Msc1_fm, er]; rfl) Msc1_tab) hamb ?_)))
  · simp only [allP, Con.h, eq_self, true_and, and_true]; omega
  refine YWp.seq (YWp.yieldRegion eGh_ok (l1 := ops81.toList.take 10) (l2 := ops81.toList.drop 11) (oy := ops81.toList.getD 10 default) (by kernel_rfl) (ds1 := []) (o1 := Yac1 z0 z1 z2 g0 n0 g1 n1 g2 n2 ga kx y l1 l2 ((16 * j : Nat) : Int) ((min 16 (n1 - 16 * j) : Nat) : Int)) (by kernel_rfl) (Yac1_ok ?_) (f := .tmp 19) (x := .tmp 28) (t := 29) (c := theCall (ops81.toList.getD 10 default)) (by kernel_rfl) (by kernel_rfl) (by kernel_rfl) (by kernel_rfl) (by kernel_rfl) (by decide) (i := 0) (l := l2) (H := H2c1 z0 z1 z2 g0 n0 g1 n1 g2 n2 ga kx) (by rw [Yac1_fm]; rfl) (v := .slice 1 2 g1 (16 * j) (min 16 (n1 - 16 * j)) (some (min 16 (n1 - 16 * j)))) (by rw [Yac1_fm, e1, e2]; rfl) rfl rfl (p := 14) rfl (show 14 < 30 by decide) (kk := 11) (Nat.le_refl _) (by rw [Yac1_fm]; exact fmIn_of rfl) hamb ?_)
  · simp only [allP, Con.h, eq_self, true_and, and_true]; omega
  rw [Yac1_tab]
  refine YWp.ofTo (To.of (o := Asc1 z0 z1 z2 g0 n0 g1 n1 g2 n2 ga kx y l1 l2 (16 * j) (min 16 (n1 - 16 * j))) eGh_ok hmA (Nat.le_refl 11) OrcOk.nil rfl (Asc1_ok trivial) Asc1_ex Asc1_fm Asc1_tab) hamb ⟨rfl, rfl, ?_⟩
  refine YWp.mono (chc1 e hy l1 l2 hj) fun ex fm T σ hP => ?_
  obtain ⟨rfl, rfl, rfl⟩ := hP
  refine ⟨by decide, [], Nuc1 z0 z1 z2 g0 n0 g1 n1 g2 n2 ga kx (mwLaw (xwLaw y (gwLaw (ckLaw z1 n1 j))) kx) l1 _, rfl, Nuc1_ok trivial, ?_⟩
  rw [Nuc1_fm, Nuc1_tab, Yac1_fm]
  show YWp eGh 31 11 [(l2, H2c1 z0 z1 z2 g0 n0 g1 n1 g2 n2 ga kx), (l1, H1c)] cnd81 _ _ _ _
  rw [cnd81_eq]
  refine YWp.cond (b := false) rfl (fun h => by cases h) (fun _ => YWp.skip hamb ?_)
  show YWp eGh 31 11 [(l2, H2c1 z0 z1 z2 g0 n0 g1 n1 g2 n2 ga kx), (l1, H1c)] r81 _ _ _ _
  refine YWp.sub (f := [(0, .func (.yield l2) [] []), (1, .var 9 0), (2, .var 10 0), (4, .int .i64 ((16 * j : Nat) : Int))]) ⟨rfl, rfl, rfl, rfl, trivial⟩ ?_
  refine YWp.ofTo (To.of (o := Rbc1 z0 z1 z2 g0 n0 g1 n1 g2 n2 ga kx _ l1 l2 ((16 * j : Nat) : Int)) eGh_ok hmA (Nat.le_refl 11) OrcOk.nil rfl (Rbc1_ok ?_) Rbc1_ex Rbc1_fm Rbc1_tab) hamb ⟨rfl, ?_, rfl, rfl⟩
  · simp only [allP, Con.h, and_true]; omega
  · rw [show ((16 * j : Nat) : Int) + 16 = ((16 * (j + 1) : Nat) : Int) by omega]
theorem inc1 {z0 z1 z2 : List Int} {g0 n0 g1 n1 g2 n2 ga : Nat} {kx : List Int} (e : Exc z0 z1 z2 g0 n0 g1 n1 g2 n2 ga kx) {y : List Int} (hy : WpLaw y) (l1 l2 : Nat) :
    YWp eGh 31 11 [(l2, H2c1 z0 z1 z2 g0 n0 g1 n1 g2 n2 ga kx), (l1, H1c)] (bodyOf f81) (argF ([] ++ (.func (.yield l2) [] [] :: [.var 9 0, .var 10 0])) 0) (TNc1 z0 z1 z2 g0 n0 g1 n1 g2 n2 ga kx y l1) [(.ready, none), (.ready, none)] fun ex fm' T' σ' =>
      (ex = .normal ∨ ex = .ret) ∧ (∃ cs us, aRes eGh fm' T' f81.results.toList = some (cs, us) ∧ allP cs) ∧ ∃ st σ2, σ' = st :: σ2 ∧ st.1 ≠ .busy ∧
        match st.2 with
        | none => AExit.normal = .normal ∧ [(1, .var 7 0), (2, .var 8 0), (6, .slice 1 0 ga 0 3 (some 3)), (7, .int .i64 3), (8, .int .i64 1), (13, .func (.func 81) [] [.var 9 0, .var 10 0])] = (H2c1 z0 z1 z2 g0 n0 g1 n1 g2 n2 ga kx).fm ∧ T' = (TNc1 z0 z1 z2 g0 n0 g1 n1 g2 n2 ga kx (hsLaw kx y z1 n1) l1) ∧ σ2 = [(.ready, none)]
        | some (.exit id) => AExit.exit id = .normal ∧ [(1, .var 7 0), (2, .var 8 0), (6, .slice 1 0 ga 0 3 (some 3)), (7, .int .i64 3), (8, .int .i64 1), (13, .func (.func 81) [] [.var 9 0, .var 10 0])] = (H2c1 z0 z1 z2 g0 n0 g1 n1 g2 n2 ga kx).fm ∧ T' = (TNc1 z0 z1 z2 g0 n0 g1 n1 g2 n2 ga kx (hsLaw kx y z1 n1) l1) ∧ σ2 = [(.ready, none)]
        | some .ret => AExit.ret = .normal ∧ [(1, .var 7 0), (2, .var 8 0), (6, .slice 1 0 ga 0 3 (some 3)), (7, .int .i64 3), (8, .int .i64 1), (13, .func (.func 81) [] [.var 9 0, .var 10 0])] = (H2c1 z0 z1 z2 g0 n0 g1 n1 g2 n2 ga kx).fm ∧ T' = (TNc1 z0 z1 z2 g0 n0 g1 n1 g2 n2 ga kx (hsLaw kx y z1 n1) l1) ∧ σ2 = [(.ready, none)]
        | _ => False := by
  have hamb := ambc1 z0 z1 z2 g0 n0 g1 n1 g2 n2 ga kx l1 l2
  rw [splitb81, res81]
  refine YWp.seq (YWp.ofTo (To.of (o := Zsc1 z0 z1 z2 g0 n0 g1 n1 g2 n2 ga kx y l1 l2) eGh_ok hmA (Nat.le_refl 11) OrcOk.nil rfl (Zsc1_ok trivial) Zsc1_ex Zsc1_fm Zsc1_tab) hamb ?_)
  refine YWp.block (YWp.loop (fun fm T σ μ => ∃ j, 16 * j < n1 + 16 ∧ μ = n1 + 16 - j ∧ fm = [(0, .func (.yield l2) [] []), (1, .var 9 0), (2, .var 10 0), (4, .int .i64 ((16 * j : Nat) : Int))] ∧ T = (TNc1 z0 z1 z2 g0 n0 g1 n1 g2 n2 ga kx (hyLaw kx y z1 n1 j) l1) ∧ σ = [(.ready, none), (.ready, none)]) (n1 + 16) ⟨0, by omega, rfl, rfl, rfl, rfl⟩ ?_)
  rintro fm T σ μ ⟨j, hj, rfl, rfl, rfl, rfl⟩
  by_cases h : 16 * j < n1
  · refine YWp.mono (rdc1 e (hy_wp hy e.pz1 e.pb1 j) l1 l2 h) fun ex fm T σ hP => ?_
    obtain ⟨rfl, rfl, rfl, rfl⟩ := hP
    exact ⟨n1 + 16 - (j + 1), by omega, j + 1, by omega, rfl, rfl, rfl, rfl⟩
  · rw [split81]
    refine YWp.seq (YWp.ofTo (To.of (o := Hnc1 z0 z1 z2 g0 n0 g1 n1 g2 n2 ga kx (hyLaw kx y z1 n1 j) l1 l2 ((16 * j : Nat) : Int)) eGh_ok hmA (Nat.le_refl 11) OrcOk.nil rfl (Hnc1_ok ?_) Hnc1_ex Hnc1_fm Hnc1_tab) hamb ?_)
    · simp only [allP, Con.h, decide_eq_false_iff_not, eq_self, true_and, and_true]; omega
    obtain rfl : j = (n1 + 15) / 16 := by omega
    exact ⟨.inl rfl, ⟨[], [], rfl, trivial⟩, (.ready, none), _, rfl, by decide, rfl, rfl, rfl, rfl⟩
theorem roc1 {z0 z1 z2 : List Int} {g0 n0 g1 n1 g2 n2 ga : Nat} {kx : List Int} (e : Exc z0 z1 z2 g0 n0 g1 n1 g2 n2 ga kx) {y : List Int} (hy : WpLaw y) (l1 : Nat) :
    YWp eGh 30 8 [(l1, H1c)] (roundOf 0 f79) [(1, .var 7 0), (2, .var 8 0), (6, .slice 1 0 ga 0 3 (some 3)), (7, .int .i64 3), (8, .int .i64 1)] (TPc z0 z1 z2 g0 n0 g1 n1 g2 n2 ga kx y l1) [(.ready, none)] fun ex fm T σ => ex = .normal ∧ fm = [(1, .var 7 0), (2, .var 8 0), (6, .slice 1 0 ga 0 3 (some 3)), (7, .int .i64 3), (8, .int .i64 2)] ∧ T = ((TPc z0 z1 z2 g0 n0 g1 n1 g2 n2 ga kx (hsLaw kx y z1 n1) l1) : Tab) ∧ σ = [(.ready, none)] := by
  have hamb : ambIn 8 [(l1, H1c)] := ambIn_one rfl
  rw [split79]
  refine YWp.seq (YWp.ofTo (To.base (by decide) (To.of (o := Hdc1 z0 z1 z2 g0 n0 g1 n1 g2 n2 ga kx y l1) eGh_ok hmA (Nat.le_refl 9) OrcOk.nil rfl (Hdc1_ok trivial) Hdc1_ex Hdc1_fm Hdc1_tab)) hamb ?_)
  refine YWp.seq ?_
  rw [c79_eq]
  refine YWp.cond (b := true) rfl (fun _ => YWp.skip hamb ?_) (fun h => by cases h)
  refine YWp.sub (f := [(1, .var 7 0), (2, .var 8 0), (6, .slice 1 0 ga 0 3 (some 3)), (7, .int .i64 3), (8, .int .i64 1)]) ⟨rfl, rfl, rfl, rfl, rfl, trivial⟩ ?_
  refine YWp.seq (YWp.block (YWp.seq (YWp.ofTo (To.base (by decide) (To.of (o := Pac1 z0 z1 z2 g0 n0 g1 n1 g2 n2 ga kx y l1) eGh_ok hmA (Nat.le_refl 9) OrcOk.nil rfl (Pac1_ok ⟨rfl, rfl, trivial⟩) Pac1_ex Pac1_fm Pac1_tab)) hamb ?_)))
  refine YWp.sub (f := ((4, .slice 1 2 g1 0 n1 none) :: [(1, .var 7 0), (2, .var 8 0), (6, .slice 1 0 ga 0 3 (some 3)), (7, .int .i64 3), (8, .int .i64 1)])) ⟨rfl, rfl, rfl, rfl, rfl, rfl, trivial⟩ ?_
  refine YWp.seq (YWp.ofTo (To.base (by decide) (To.of (k := 9) (o := Pbc1 z0 z1 z2 g0 n0 g1 n1 g2 n2 ga kx y l1) eGh_ok hmA (Nat.le_refl 9) OrcOk.nil rfl (Pbc1_ok ⟨rfl, trivial⟩) Pbc1_ex Pbc1_fm Pbc1_tab)) hamb ?_)
  refine YWp.block ?_
  rw [rf79_eq]
  refine YWp.mono (YWp.rangeFunc (post := fun ex fm T' σ' => ex = .normal ∧ fm = (H2c1 z0 z1 z2 g0 n0 g1 n1 g2 n2 ga kx).fm ∧ T' = (TNc1 z0 z1 z2 g0 n0 g1 n1 g2 n2 ga kx (hsLaw kx y z1 n1) l1) ∧ σ' = [(.ready, none)]) eGh_ok (gf := 81) (gfn := f81) (c := bodyOf f81) (first := []) (caps := [.var 9 0, .var 10 0]) rfl (by kernel_rfl) (by kernel_rfl) (by kernel_rfl) (kk := 11) (by decide) (fmIn_of rfl) (by kernel_rfl) (fun l2 => inc1 e hy l1 l2)) fun ex fm T σ hP => ?_
  obtain ⟨rfl, rfl, rfl, rfl⟩ := hP
  show YWp eGh 30 8 [(l1, H1c)] r79 _ _ _ _
  exact YWp.ofTo (To.base (by decide) (To.of (k := 9) (o := Rrc1 z0 z1 z2 g0 n0 g1 n1 g2 n2 ga kx (hsLaw kx y z1 n1) l1) eGh_ok hmA (Nat.le_refl 9) OrcOk.nil rfl (Rrc1_ok trivial) Rrc1_ex Rrc1_fm Rrc1_tab)) hamb ⟨rfl, rfl, rfl, rfl⟩
noncomputable def H2c2 (z0 z1 z2 : List Int) (g0 n0 g1 n1 g2 n2 ga : Nat) (kx : List Int) : Host := ⟨#[14], as79, bd79, [(1, .var 7 0), (2, .var 8 0), (6, .slice 1 0 ga 0 3 (some 3)), (7, .int .i64 3), (8, .int .i64 2), (13, .func (.func 81) [] [.var 9 0, .var 10 0])], 30⟩
theorem ambc2 (z0 z1 z2 : List Int) (g0 n0 g1 n1 g2 n2 ga : Nat) (kx : List Int) (l1 l2 : Nat) : ambIn 11 [(l2, H2c2 z0 z1 z2 g0 n0 g1 n1 g2 n2 ga kx), (l1, H1c)] := fun x hx => by
  rcases List.mem_cons.1 hx with rfl | hx
  · exact fmIn_of rfl
  · exact ambIn_one rfl x hx
theorem ambMc2 (z0 z1 z2 : List Int) (g0 n0 g1 n1 g2 n2 ga : Nat) (kx : List Int) (l1 l2 : Nat) : ambIn 12 [(l2, H2c2 z0 z1 z2 g0 n0 g1 n1 g2 n2 ga kx), (l1, H1c)] := fun x hx => by
  rcases List.mem_cons.1 hx with rfl | hx
  · exact fmIn_of rfl
  · exact ambIn_one rfl x hx
theorem chfc2 {z0 z1 z2 : List Int} {g0 n0 g1 n1 g2 n2 ga : Nat} {kx : List Int} (e : Exc z0 z1 z2 g0 n0 g1 n1 g2 n2 ga kx) {y : List Int} (hy : WpLaw y) (l1 l2 : Nat) {j : Nat} (hj : 16 * j + 16 ≤ n2) :
    YWp eGh 30 11 [(l2, H2c2 z0 z1 z2 g0 n0 g1 n1 g2 n2 ga kx), (l1, H1c)] bd79 [(2, .var 8 0), (5, .slice 1 3 g2 (16 * j) 16 (some 16))] (TNc2 z0 z1 z2 g0 n0 g1 n1 g2 n2 ga kx y l1) [(.busy, none), (.ready, none)] fun ex fm T σ => ex = .normal ∧ T = ((TNc2 z0 z1 z2 g0 n0 g1 n1 g2 n2 ga kx (mwLaw (xwLaw y (gwLaw (ckLaw z2 n2 j))) kx) l1) : Tab) ∧ σ = [(.busy, none), (.ready, none)] := by
  have hamb := ambc2 z0 z1 z2 g0 n0 g1 n1 g2 n2 ga kx l1 l2
  have hambM := ambMc2 z0 z1 z2 g0 n0 g1 n1 g2 n2 ga kx l1 l2
  have hz := e.pz2
  have hbz := e.pb2
  have hcl := ck_len hz j
  have hcb := ck_bytes hbz n2 j
  have eb : (subLaw z2 (addO (16 * j) 0) 16) = (ckLaw z2 n2 j) := by rw [addO_eq, Nat.add_zero, ck_full hj]
  have hw : WpLaw (gwLaw (subLaw z2 (addO (16 * j) 0) 16)) := by rw [eb]; exact .gw hcb hcl
  rw [bd79_eq]
  refine YWp.block (YWp.seq (YWp.yieldDrawn eGh_ok hmA (l1 := ops79.toList.take 12) (oy := ops79.toList.getD 12 default) (o2 := ops79.toList.getD 13 default) (by kernel_rfl) (ds1 := [some true]) (o1 := Dfc2 z0 z1 z2 g0 n0 g1 n1 g2 n2 ga kx y l1 l2 (16 * j)) (by kernel_rfl) (by kernel_rfl) (by kernel_rfl) (by kernel_rfl) (by kernel_rfl) (by kernel_rfl) (Dfc2_ok ?_) (f := .tmp 15) (x := .tmp 26) (t := 27) (c := theCall (ops79.toList.getD 12 default)) (by kernel_rfl) (by kernel_rfl) (by kernel_rfl) (by kernel_rfl) (by kernel_rfl) (by kernel_rfl) (by decide) (i := 1) (l := l1) (H := H1c) (by rw [Dfc2_fm]; rfl) (v := .ints .u64 (gwLaw (subLaw z2 (addO (16 * j) 0) 16))) (by rw [Dfc2_fm]; rfl) rfl rfl (p := 9) rfl (by decide) (kk := 11) (by decide) (by rw [Dfc2_fm]; exact fmIn_of rfl) hamb ?_))
  · simp only [allP, Con.h, addO_eq, Nat.add_zero, hbz, eq_self, true_and, and_true]
    omega
  rw [Dfc2_tab]
  refine YWp.ofTo (To.of (o := A6fc2 z0 z1 z2 g0 n0 g1 n1 g2 n2 ga kx y l1 (gwLaw (subLaw z2 (addO (16 * j) 0) 16))) eGh_ok hmA (Nat.le_refl 11) OrcOk.nil rfl (A6fc2_ok ⟨hw.len, trivial⟩) A6fc2_ex A6fc2_fm A6fc2_tab) hamb ⟨rfl, rfl, ?_⟩
  refine YWp.ofTo (To.of (o := B6fc2 z0 z1 z2 g0 n0 g1 n1 g2 n2 ga kx y l1 (gwLaw (subLaw z2 (addO (16 * j) 0) 16))) eGh_ok hmA (Nat.le_refl 11) OrcOk.nil rfl (B6fc2_ok ?_) B6fc2_ex B6fc2_fm B6fc2_tab) hamb ⟨by decide, [], Ntc2 z0 z1 z2 g0 n0 g1 n1 g2 n2 ga kx (mwLaw (xwLaw y (gwLaw (subLaw z2 (addO (16 * j) 0) 16))) kx) l1 _, rfl, Ntc2_ok trivial, ?_⟩
  · have h1 := hy.len
    have h2 := hw.len
    have h3 := e.pk.len
    have h4 := hy.xw hw
    simp only [allP, Con.h, h1, h2, h3, h4, hy, hw, e.pk, and_true, true_and]
  rw [Ntc2_fm, Ntc2_tab, eb]
  show YWp eGh 30 11 [(l2, H2c2 z0 z1 z2 g0 n0 g1 n1 g2 n2 ga kx), (l1, H1c)] cnd79 _ _ _ _
  rw [cnd79_eq]
  exact YWp.cond (b := false) rfl (fun h => by cases h) (fun _ => YWp.skip hamb ⟨rfl, rfl, rfl⟩)
theorem chpc2 {z0 z1 z2 : List Int} {g0 n0 g1 n1 g2 n2 ga : Nat} {kx : List Int} (e : Exc z0 z1 z2 g0 n0 g1 n1 g2 n2 ga kx) {y : List Int} (hy : WpLaw y) (l1 l2 : Nat) {j r : Nat} (hr : r < 16) (hj : 16 * j + r = n2) :
    YWp eGh 30 11 [(l2, H2c2 z0 z1 z2 g0 n0 g1 n1 g2 n2 ga kx), (l1, H1c)] bd79 [(2, .var 8 0), (5, .slice 1 3 g2 (16 * j) r (some r))] (TNc2 z0 z1 z2 g0 n0 g1 n1 g2 n2 ga kx y l1) [(.busy, none), (.ready, none)] fun ex fm T σ => ex = .normal ∧ T = ((TNc2 z0 z1 z2 g0 n0 g1 n1 g2 n2 ga kx (mwLaw (xwLaw y (gwLaw (ckLaw z2 n2 j))) kx) l1) : Tab) ∧ σ = [(.busy, none), (.ready, none)] := by
  have hamb := ambc2 z0 z1 z2 g0 n0 g1 n1 g2 n2 ga kx l1 l2
  have hambM := ambMc2 z0 z1 z2 g0 n0 g1 n1 g2 n2 ga kx l1 l2
  have hz := e.pz2
  have hbz := e.pb2
  have hcl := ck_len hz j
  have hcb := ck_bytes hbz n2 j
  have ex0 : (List.take r (dropO (addO (16 * j) 0) z2) ++ List.replicate (16 - (r : Int)).toNat 0) = (ckLaw z2 n2 j) := by
    rw [addO_eq, Nat.add_zero, dropO_eq, ck_part (by omega), show n2 - 16 * j = r by omega, show (16 - (r : Int)).toNat = 16 - r by omega]
  have eb : (subLaw (List.take r (dropO (addO (16 * j) 0) z2) ++ List.replicate (16 - (r : Int)).toNat 0) 0 16) = (ckLaw z2 n2 j) := by
    rw [ex0, take_sub, List.take_of_length_le (by omega)]
  have hw : WpLaw (gwLaw (subLaw (List.take r (dropO (addO (16 * j) 0) z2) ++ List.replicate (16 - (r : Int)).toNat 0) 0 16)) := by rw [eb]; exact .gw hcb hcl
  rw [bd79_eq]
  refine YWp.block (YWp.seq (YWp.yieldDrawn eGh_ok hmA (l1 := ops79.toList.take 12) (oy := ops79.toList.getD 12 default) (o2 := ops79.toList.getD 13 default) (by kernel_rfl) (ds1 := [some false]) (o1 := Dpc2 z0 z1 z2 g0 n0 g1 n1 g2 n2 ga kx y l1 l2 (16 * j) r) (by kernel_rfl) (by kernel_rfl) (by kernel_rfl) (by kernel_rfl) (by kernel_rfl) (by kernel_rfl) (Dpc2_ok ?_) (f := .tmp 15) (x := .tmp 26) (t := 27) (c := theCall (ops79.toList.getD 12 default)) (by kernel_rfl) (by kernel_rfl) (by kernel_rfl) (by kernel_rfl) (by kernel_rfl) (by kernel_rfl) (by decide) (i := 1) (l := l1) (H := H1c) (by rw [Dpc2_fm]; rfl) (v := .ints .u64 (gwLaw (subLaw (List.take r (dropO (addO (16 * j) 0) z2) ++ List.replicate (16 - (r : Int)).toNat 0) 0 16))) (by rw [Dpc2_fm]; rfl) rfl rfl (p := 9) rfl (by decide) (kk := 12) (by decide) (by rw [Dpc2_fm]; exact fmIn_of rfl) hamb ?_))
  · rw [ex0]
    simp only [allP, Con.h, addO_eq, Nat.add_zero, hcl, hcb, eq_self, true_and, and_true]
    omega
  rw [Dpc2_tab]
  refine YWp.ofTo (To.of (o := A6pc2 z0 z1 z2 g0 n0 g1 n1 g2 n2 ga kx y l1 (List.take r (dropO (addO (16 * j) 0) z2) ++ List.replicate (16 - (r : Int)).toNat 0) (gwLaw (subLaw (List.take r (dropO (addO (16 * j) 0) z2) ++ List.replicate (16 - (r : Int)).toNat 0) 0 16))) eGh_ok hmA (Nat.le_refl 12) OrcOk.nil rfl (A6pc2_ok ⟨hw.len, trivial⟩) A6pc2_ex A6pc2_fm A6pc2_tab) hambM ⟨rfl, rfl, ?_⟩
  refine YWp.ofTo (To.of (o := B6pc2 z0 z1 z2 g0 n0 g1 n1 g2 n2 ga kx y l1 (List.take r (dropO (addO (16 * j) 0) z2) ++ List.replicate (16 - (r : Int)).toNat 0) (gwLaw (subLaw (List.take r (dropO (addO (16 * j) 0) z2) ++ List.replicate (16 - (r : Int)).toNat 0) 0 16))) eGh_ok hmA (Nat.le_refl 12) OrcOk.nil rfl (B6pc2_ok ?_) B6pc2_ex B6pc2_fm B6pc2_tab) hambM ⟨by decide, [], Nqc2 z0 z1 z2 g0 n0 g1 n1 g2 n2 ga kx (mwLaw (xwLaw y (gwLaw (subLaw (List.take r (dropO (addO (16 * j) 0) z2) ++ List.replicate (16 - (r : Int)).toNat 0) 0 16))) kx) l1 (List.take r (dropO (addO (16 * j) 0) z2) ++ List.replicate (16 - (r : Int)).toNat 0) _, rfl, Nqc2_ok trivial, ?_⟩
  · have h1 := hy.len
    have h2 := hw.len
    have h3 := e.pk.len
    have h4 := hy.xw hw
    simp only [allP, Con.h, h1, h2, h3, h4, hy, hw, e.pk, and_true, true_and]
  rw [Nqc2_fm, Nqc2_tab, eb]
  show YWp eGh 30 11 [(l2, H2c2 z0 z1 z2 g0 n0 g1 n1 g2 n2 ga kx), (l1, H1c)] cnd79 _ _ _ _
  refine YWp.sub (f := [(28, .bool false)]) ⟨rfl, trivial⟩ ?_
  exact YWp.ofTo (To.of (k := 11) (o := Cpc2 z0 z1 z2 g0 n0 g1 n1 g2 n2 ga kx (mwLaw (xwLaw y (gwLaw (ckLaw z2 n2 j))) kx) l1 (List.take r (dropO (addO (16 * j) 0) z2) ++ List.replicate (16 - (r : Int)).toNat 0)) eGh_ok hmA (Nat.le_refl 11) OrcOk.nil rfl (Cpc2_ok trivial) Cpc2_ex Cpc2_fm Cpc2_tab) hamb ⟨rfl, rfl, rfl⟩
theorem chc2 {z0 z1 z2 : List Int} {g0 n0 g1 n1 g2 n2 ga : Nat} {kx : List Int} (e : Exc z0 z1 z2 g0 n0 g1 n1 g2 n2 ga kx) {y : List Int} (hy : WpLaw y) (l1 l2 : Nat) {j : Nat} (hj : 16 * j < n2) :
    YWp eGh 30 11 [(l2, H2c2 z0 z1 z2 g0 n0 g1 n1 g2 n2 ga kx), (l1, H1c)] bd79 [(2, .var 8 0), (5, .slice 1 3 g2 (16 * j) (min 16 (n2 - 16 * j)) (some (min 16 (n2 - 16 * j))))] (TNc2 z0 z1 z2 g0 n0 g1 n1 g2 n2 ga kx y l1) [(.busy, none), (.ready, none)] fun ex fm T σ => ex = .normal ∧ T = ((TNc2 z0 z1 z2 g0 n0 g1 n1 g2 n2 ga kx (mwLaw (xwLaw y (gwLaw (ckLaw z2 n2 j))) kx) l1) : Tab) ∧ σ = [(.busy, none), (.ready, none)] := by
  by_cases h : 16 * j + 16 ≤ n2
  · rw [show min 16 (n2 - 16 * j) = 16 by omega]
    exact chfc2 e hy l1 l2 h
  · exact chpc2 e hy l1 l2 (by omega) (by omega)
theorem rdc2 {z0 z1 z2 : List Int} {g0 n0 g1 n1 g2 n2 ga : Nat} {kx : List Int} (e : Exc z0 z1 z2 g0 n0 g1 n1 g2 n2 ga kx) {y : List Int} (hy : WpLaw y) (l1 l2 : Nat) {j : Nat} (hj : 16 * j < n2) :
    YWp eGh 31 11 [(l2, H2c2 z0 z1 z2 g0 n0 g1 n1 g2 n2 ga kx), (l1, H1c)] (roundOf 0 f81) [(0, .func (.yield l2) [] []), (1, .var 9 0), (2, .var 10 0), (4, .int .i64 ((16 * j : Nat) : Int))] (TNc2 z0 z1 z2 g0 n0 g1 n1 g2 n2 ga kx y l1) [(.ready, none), (.ready, none)] fun ex fm T σ => ex = .normal ∧ fm = [(0, .func (.yield l2) [] []), (1, .var 9 0), (2, .var 10 0), (4, .int .i64 ((16 * (j + 1) : Nat) : Int))] ∧ T = ((TNc2 z0 z1 z2 g0 n0 g1 n1 g2 n2 ga kx (mwLaw (xwLaw y (gwLaw (ckLaw z2 n2 j))) kx) l1) : Tab) ∧ σ = [(.ready, none), (.ready, none)] := by
  have hamb := ambc2 z0 z1 z2 g0 n0 g1 n1 g2 n2 ga kx l1 l2
  have hz := e.pz2
  have hm := e.pm2
  skip
  have er : (if (↑(subO n2 ((16 * j : Nat) : Int).toNat) : Int) < 16 then (↑(subO n2 ((16 * j : Nat) : Int).toNat) : Int) else 16) = ((min 16 (n2 - 16 * j) : Nat) : Int) := by
    rw [Int.toNat_natCast, subO_eq, min16]
  have e1 : ((16 * j : Nat) : Int).toNat = 16 * j := Int.toNat_natCast _
  have e2 : subO (((16 * j : Nat) : Int) + ((min 16 (n2 - 16 * j) : Nat) : Int)).toNat (16 * j) = min 16 (n2 - 16 * j) := by rw [subO_eq]; omega
  rw [split81]
  refine YWp.seq (YWp.ofTo (To.of (o := Hyc2 z0 z1 z2 g0 n0 g1 n1 g2 n2 ga kx y l1 l2 ((16 * j : Nat) : Int)) eGh_ok hmA (Nat.le_refl 11) OrcOk.nil rfl (Hyc2_ok ?_) Hyc2_ex Hyc2_fm Hyc2_tab) hamb ?_)
  · simp only [allP, Con.h, decide_eq_true_eq, eq_self, true_and, and_true]; omega
  refine YWp.seq (YWp.block (YWp.seq (YWp.ofTo (To.of (o := Msc2 z0 z1 z2 g0 n0 g1 n1 g2 n2 ga kx y l1 l2 ((16 * j : Nat) : Int)) (fm' := [(0, .func (.yield l2) [] []), (1, .var 9 0), (2, .var 10 0), (4, .int .i64 ((16 * j : Nat) : Int))] ++ [(5, .int .i64 ((min 16 (n2 - 16 * j) : Nat) : Int))]) eGh_ok hmA (Nat.le_refl 11) OrcOk.nil rfl (Msc2_ok ?_) Msc2_ex (by rw [Msc2_fm, er]; rfl) Msc2_tab) hamb ?_)))
  · simp only [allP, Con.h, eq_self, true_and, and_true]; omega
  refine YWp.seq (YWp.yieldRegion eGh_ok (l1 := ops81.toList.take 10) (l2 := ops81.toList.drop 11) (oy := ops81.toList.getD 10 default) (by kernel_rfl) (ds1 := []) (o1 := Yac2 z0 z1 z2 g0 n0 g1 n1 g2 n2 ga kx y l1 l2 ((16 * j : Nat) : Int) ((min 16 (n2 - 16 * j) : Nat) : Int)) (by kernel_rfl) (Yac2_ok ?_) (f := .tmp 19) (x := .tmp 28) (t := 29) (c := theCall (ops81.toList.getD 10 default)) (by kernel_rfl) (by kernel_rfl) (by kernel_rfl) (by kernel_rfl) (by kernel_rfl) (by decide) (i := 0) (l := l2) (H := H2c2 z0 z1 z2 g0 n0 g1 n1 g2 n2 ga kx) (by rw [Yac2_fm]; rfl) (v := .slice 1 3 g2 (16 * j) (min 16 (n2 - 16 * j)) (some (min 16 (n2 - 16 * j)))) (by rw [Yac2_fm, e1, e2]; rfl) rfl rfl (p := 14) rfl (show 14 < 30 by decide) (kk := 11) (Nat.le_refl _) (by rw [Yac2_fm]; exact fmIn_of rfl) hamb ?_)
  · simp only [allP, Con.h, eq_self, true_and, and_true]; omega
  rw [Yac2_tab]
  refine YWp.ofTo (To.of (o := Asc2 z0 z1 z2 g0 n0 g1 n1 g2 n2 ga kx y l1 l2 (16 * j) (min 16 (n2 - 16 * j))) eGh_ok hmA (Nat.le_refl 11) OrcOk.nil rfl (Asc2_ok trivial) Asc2_ex Asc2_fm Asc2_tab) hamb ⟨rfl, rfl, ?_⟩
  refine YWp.mono (chc2 e hy l1 l2 hj) fun ex fm T σ hP => ?_
  obtain ⟨rfl, rfl, rfl⟩ := hP
  refine ⟨by decide, [], Nuc2 z0 z1 z2 g0 n0 g1 n1 g2 n2 ga kx (mwLaw (xwLaw y (gwLaw (ckLaw z2 n2 j))) kx) l1 _, rfl, Nuc2_ok trivial, ?_⟩
  rw [Nuc2_fm, Nuc2_tab, Yac2_fm]
  show YWp eGh 31 11 [(l2, H2c2 z0 z1 z2 g0 n0 g1 n1 g2 n2 ga kx), (l1, H1c)] cnd81 _ _ _ _
  rw [cnd81_eq]
  refine YWp.cond (b := false) rfl (fun h => by cases h) (fun _ => YWp.skip hamb ?_)
  show YWp eGh 31 11 [(l2, H2c2 z0 z1 z2 g0 n0 g1 n1 g2 n2 ga kx), (l1, H1c)] r81 _ _ _ _
  refine YWp.sub (f := [(0, .func (.yield l2) [] []), (1, .var 9 0), (2, .var 10 0), (4, .int .i64 ((16 * j : Nat) : Int))]) ⟨rfl, rfl, rfl, rfl, trivial⟩ ?_
  refine YWp.ofTo (To.of (o := Rbc2 z0 z1 z2 g0 n0 g1 n1 g2 n2 ga kx _ l1 l2 ((16 * j : Nat) : Int)) eGh_ok hmA (Nat.le_refl 11) OrcOk.nil rfl (Rbc2_ok ?_) Rbc2_ex Rbc2_fm Rbc2_tab) hamb ⟨rfl, ?_, rfl, rfl⟩
  · simp only [allP, Con.h, and_true]; omega
  · rw [show ((16 * j : Nat) : Int) + 16 = ((16 * (j + 1) : Nat) : Int) by omega]
theorem inc2 {z0 z1 z2 : List Int} {g0 n0 g1 n1 g2 n2 ga : Nat} {kx : List Int} (e : Exc z0 z1 z2 g0 n0 g1 n1 g2 n2 ga kx) {y : List Int} (hy : WpLaw y) (l1 l2 : Nat) :
    YWp eGh 31 11 [(l2, H2c2 z0 z1 z2 g0 n0 g1 n1 g2 n2 ga kx), (l1, H1c)] (bodyOf f81) (argF ([] ++ (.func (.yield l2) [] [] :: [.var 9 0, .var 10 0])) 0) (TNc2 z0 z1 z2 g0 n0 g1 n1 g2 n2 ga kx y l1) [(.ready, none), (.ready, none)] fun ex fm' T' σ' =>
      (ex = .normal ∨ ex = .ret) ∧ (∃ cs us, aRes eGh fm' T' f81.results.toList = some (cs, us) ∧ allP cs) ∧ ∃ st σ2, σ' = st :: σ2 ∧ st.1 ≠ .busy ∧
        match st.2 with
        | none => AExit.normal = .normal ∧ [(1, .var 7 0), (2, .var 8 0), (6, .slice 1 0 ga 0 3 (some 3)), (7, .int .i64 3), (8, .int .i64 2), (13, .func (.func 81) [] [.var 9 0, .var 10 0])] = (H2c2 z0 z1 z2 g0 n0 g1 n1 g2 n2 ga kx).fm ∧ T' = (TNc2 z0 z1 z2 g0 n0 g1 n1 g2 n2 ga kx (hsLaw kx y z2 n2) l1) ∧ σ2 = [(.ready, none)]
        | some (.exit id) => AExit.exit id = .normal ∧ [(1, .var 7 0), (2, .var 8 0), (6, .slice 1 0 ga 0 3 (some 3)), (7, .int .i64 3), (8, .int .i64 2), (13, .func (.func 81) [] [.var 9 0, .var 10 0])] = (H2c2 z0 z1 z2 g0 n0 g1 n1 g2 n2 ga kx).fm ∧ T' = (TNc2 z0 z1 z2 g0 n0 g1 n1 g2 n2 ga kx (hsLaw kx y z2 n2) l1) ∧ σ2 = [(.ready, none)]
        | some .ret => AExit.ret = .normal ∧ [(1, .var 7 0), (2, .var 8 0), (6, .slice 1 0 ga 0 3 (some 3)), (7, .int .i64 3), (8, .int .i64 2), (13, .func (.func 81) [] [.var 9 0, .var 10 0])] = (H2c2 z0 z1 z2 g0 n0 g1 n1 g2 n2 ga kx).fm ∧ T' = (TNc2 z0 z1 z2 g0 n0 g1 n1 g2 n2 ga kx (hsLaw kx y z2 n2) l1) ∧ σ2 = [(.ready, none)]
        | _ => False := by
  have hamb := ambc2 z0 z1 z2 g0 n0 g1 n1 g2 n2 ga kx l1 l2
  rw [splitb81, res81]
  refine YWp.seq (YWp.ofTo (To.of (o := Zsc2 z0 z1 z2 g0 n0 g1 n1 g2 n2 ga kx y l1 l2) eGh_ok hmA (Nat.le_refl 11) OrcOk.nil rfl (Zsc2_ok trivial) Zsc2_ex Zsc2_fm Zsc2_tab) hamb ?_)
  refine YWp.block (YWp.loop (fun fm T σ μ => ∃ j, 16 * j < n2 + 16 ∧ μ = n2 + 16 - j ∧ fm = [(0, .func (.yield l2) [] []), (1, .var 9 0), (2, .var 10 0), (4, .int .i64 ((16 * j : Nat) : Int))] ∧ T = (TNc2 z0 z1 z2 g0 n0 g1 n1 g2 n2 ga kx (hyLaw kx y z2 n2 j) l1) ∧ σ = [(.ready, none), (.ready, none)]) (n2 + 16) ⟨0, by omega, rfl, rfl, rfl, rfl⟩ ?_)
  rintro fm T σ μ ⟨j, hj, rfl, rfl, rfl, rfl⟩
  by_cases h : 16 * j < n2
  · refine YWp.mono (rdc2 e (hy_wp hy e.pz2 e.pb2 j) l1 l2 h) fun ex fm T σ hP => ?_
    obtain ⟨rfl, rfl, rfl, rfl⟩ := hP
    exact ⟨n2 + 16 - (j + 1), by omega, j + 1, by omega, rfl, rfl, rfl, rfl⟩
  · rw [split81]
    refine YWp.seq (YWp.ofTo (To.of (o := Hnc2 z0 z1 z2 g0 n0 g1 n1 g2 n2 ga kx (hyLaw kx y z2 n2 j) l1 l2 ((16 * j : Nat) : Int)) eGh_ok hmA (Nat.le_refl 11) OrcOk.nil rfl (Hnc2_ok ?_) Hnc2_ex Hnc2_fm Hnc2_tab) hamb ?_)
    · simp only [allP, Con.h, decide_eq_false_iff_not, eq_self, true_and, and_true]; omega
    obtain rfl : j = (n2 + 15) / 16 := by omega
    exact ⟨.inl rfl, ⟨[], [], rfl, trivial⟩, (.ready, none), _, rfl, by decide, rfl, rfl, rfl, rfl⟩
theorem roc2 {z0 z1 z2 : List Int} {g0 n0 g1 n1 g2 n2 ga : Nat} {kx : List Int} (e : Exc z0 z1 z2 g0 n0 g1 n1 g2 n2 ga kx) {y : List Int} (hy : WpLaw y) (l1 : Nat) :
    YWp eGh 30 8 [(l1, H1c)] (roundOf 0 f79) [(1, .var 7 0), (2, .var 8 0), (6, .slice 1 0 ga 0 3 (some 3)), (7, .int .i64 3), (8, .int .i64 2)] (TPc z0 z1 z2 g0 n0 g1 n1 g2 n2 ga kx y l1) [(.ready, none)] fun ex fm T σ => ex = .normal ∧ fm = [(1, .var 7 0), (2, .var 8 0), (6, .slice 1 0 ga 0 3 (some 3)), (7, .int .i64 3), (8, .int .i64 3)] ∧ T = ((TPc z0 z1 z2 g0 n0 g1 n1 g2 n2 ga kx (hsLaw kx y z2 n2) l1) : Tab) ∧ σ = [(.ready, none)] := by
  have hamb : ambIn 8 [(l1, H1c)] := ambIn_one rfl
  rw [split79]
  refine YWp.seq (YWp.ofTo (To.base (by decide) (To.of (o := Hdc2 z0 z1 z2 g0 n0 g1 n1 g2 n2 ga kx y l1) eGh_ok hmA (Nat.le_refl 9) OrcOk.nil rfl (Hdc2_ok trivial) Hdc2_ex Hdc2_fm Hdc2_tab)) hamb ?_)
  refine YWp.seq ?_
  rw [c79_eq]
  refine YWp.cond (b := true) rfl (fun _ => YWp.skip hamb ?_) (fun h => by cases h)
  refine YWp.sub (f := [(1, .var 7 0), (2, .var 8 0), (6, .slice 1 0 ga 0 3 (some 3)), (7, .int .i64 3), (8, .int .i64 2)]) ⟨rfl, rfl, rfl, rfl, rfl, trivial⟩ ?_
  refine YWp.seq (YWp.block (YWp.seq (YWp.ofTo (To.base (by decide) (To.of (o := Pac2 z0 z1 z2 g0 n0 g1 n1 g2 n2 ga kx y l1) eGh_ok hmA (Nat.le_refl 9) OrcOk.nil rfl (Pac2_ok ⟨rfl, rfl, trivial⟩) Pac2_ex Pac2_fm Pac2_tab)) hamb ?_)))
  refine YWp.sub (f := ((4, .slice 1 3 g2 0 n2 none) :: [(1, .var 7 0), (2, .var 8 0), (6, .slice 1 0 ga 0 3 (some 3)), (7, .int .i64 3), (8, .int .i64 2)])) ⟨rfl, rfl, rfl, rfl, rfl, rfl, trivial⟩ ?_
  refine YWp.seq (YWp.ofTo (To.base (by decide) (To.of (k := 9) (o := Pbc2 z0 z1 z2 g0 n0 g1 n1 g2 n2 ga kx y l1) eGh_ok hmA (Nat.le_refl 9) OrcOk.nil rfl (Pbc2_ok ⟨rfl, trivial⟩) Pbc2_ex Pbc2_fm Pbc2_tab)) hamb ?_)
  refine YWp.block ?_
  rw [rf79_eq]
  refine YWp.mono (YWp.rangeFunc (post := fun ex fm T' σ' => ex = .normal ∧ fm = (H2c2 z0 z1 z2 g0 n0 g1 n1 g2 n2 ga kx).fm ∧ T' = (TNc2 z0 z1 z2 g0 n0 g1 n1 g2 n2 ga kx (hsLaw kx y z2 n2) l1) ∧ σ' = [(.ready, none)]) eGh_ok (gf := 81) (gfn := f81) (c := bodyOf f81) (first := []) (caps := [.var 9 0, .var 10 0]) rfl (by kernel_rfl) (by kernel_rfl) (by kernel_rfl) (kk := 11) (by decide) (fmIn_of rfl) (by kernel_rfl) (fun l2 => inc2 e hy l1 l2)) fun ex fm T σ hP => ?_
  obtain ⟨rfl, rfl, rfl, rfl⟩ := hP
  show YWp eGh 30 8 [(l1, H1c)] r79 _ _ _ _
  exact YWp.ofTo (To.base (by decide) (To.of (k := 9) (o := Rrc2 z0 z1 z2 g0 n0 g1 n1 g2 n2 ga kx (hsLaw kx y z2 n2) l1) eGh_ok hmA (Nat.le_refl 9) OrcOk.nil rfl (Rrc2_ok trivial) Rrc2_ex Rrc2_fm Rrc2_tab)) hamb ⟨rfl, rfl, rfl, rfl⟩
theorem outc {z0 z1 z2 : List Int} {g0 n0 g1 n1 g2 n2 ga : Nat} {kx : List Int} (e : Exc z0 z1 z2 g0 n0 g1 n1 g2 n2 ga kx) (l1 : Nat) : YWp eGh 30 8 [(l1, H1c)] (bodyOf f79) (argF ([] ++ (.func (.yield l1) [] [] :: [.var 7 0])) 0) (TBc z0 z1 z2 g0 n0 g1 n1 g2 n2 ga kx [0, 0]) [(.ready, none)] fun ex fm' T' σ' =>
      (ex = .normal ∨ ex = .ret) ∧ (∃ cs us, aRes eGh fm' T' f79.results.toList = some (cs, us) ∧ allP cs) ∧ ∃ st σ2, σ' = st :: σ2 ∧ st.1 ≠ .busy ∧
        match st.2 with
        | none => (AExit.normal = .normal ∨ AExit.normal = .exit 0) ∧ [(2, .var 4 0), (4, .var 5 0), (5, .var 6 0), (8, .func (.func 79) [] [.var 7 0])] = H1c.fm ∧ T' = (TBc z0 z1 z2 g0 n0 g1 n1 g2 n2 ga kx (hsLaw kx (hsLaw kx (hsLaw kx [0, 0] z0 n0) z1 n1) z2 n2))
        | some (.exit id) => (AExit.exit id = .normal ∨ AExit.exit id = .exit 0) ∧ [(2, .var 4 0), (4, .var 5 0), (5, .var 6 0), (8, .func (.func 79) [] [.var 7 0])] = H1c.fm ∧ T' = (TBc z0 z1 z2 g0 n0 g1 n1 g2 n2 ga kx (hsLaw kx (hsLaw kx (hsLaw kx [0, 0] z0 n0) z1 n1) z2 n2))
        | some .ret => (AExit.ret = .normal ∨ AExit.ret = .exit 0) ∧ [(2, .var 4 0), (4, .var 5 0), (5, .var 6 0), (8, .func (.func 79) [] [.var 7 0])] = H1c.fm ∧ T' = (TBc z0 z1 z2 g0 n0 g1 n1 g2 n2 ga kx (hsLaw kx (hsLaw kx (hsLaw kx [0, 0] z0 n0) z1 n1) z2 n2))
        | _ => False := by
  have hamb : ambIn 8 [(l1, H1c)] := ambIn_one rfl
  have w0 := WpLaw.zero
  have w1 := hs_wp (h := kx) w0 e.pz0 e.pb0
  have w2 := hs_wp (h := kx) w1 e.pz1 e.pb1
  have w3 := hs_wp (h := kx) w2 e.pz2 e.pb2
  rw [splitb79, res79]
  refine YWp.seq (YWp.ofTo (To.of (k := 8) (o := Sac z0 z1 z2 g0 n0 g1 n1 g2 n2 ga kx l1) eGh_ok hmA (Nat.le_refl 8) OrcOk.nil rfl (Sac_ok trivial) Sac_ex Sac_fm Sac_tab) hamb ?_)
  refine YWp.seq (YWp.ofTo (To.base (by decide) (To.of (k := 9) (o := Sbc z0 z1 z2 g0 n0 g1 n1 g2 n2 ga kx l1) eGh_ok hmA (Nat.le_refl 9) OrcOk.nil rfl (Sbc_ok ⟨rfl, trivial⟩) Sbc_ex Sbc_fm Sbc_tab)) hamb ?_)
  refine YWp.block (YWp.loop (fun fm T σ μ => σ = [(.ready, none)] ∧ ((μ = 3 ∧ fm = [(1, .var 7 0), (2, .var 8 0), (6, .slice 1 0 ga 0 3 (some 3)), (7, .int .i64 3), (8, .int .i64 0)] ∧ T = (TPc z0 z1 z2 g0 n0 g1 n1 g2 n2 ga kx [0, 0] l1)) ∨ (μ = 2 ∧ fm = [(1, .var 7 0), (2, .var 8 0), (6, .slice 1 0 ga 0 3 (some 3)), (7, .int .i64 3), (8, .int .i64 1)] ∧ T = (TPc z0 z1 z2 g0 n0 g1 n1 g2 n2 ga kx (hsLaw kx [0, 0] z0 n0) l1)) ∨ (μ = 1 ∧ fm = [(1, .var 7 0), (2, .var 8 0), (6, .slice 1 0 ga 0 3 (some 3)), (7, .int .i64 3), (8, .int .i64 2)] ∧ T = (TPc z0 z1 z2 g0 n0 g1 n1 g2 n2 ga kx (hsLaw kx (hsLaw kx [0, 0] z0 n0) z1 n1) l1)) ∨ (μ = 0 ∧ fm = [(1, .var 7 0), (2, .var 8 0), (6, .slice 1 0 ga 0 3 (some 3)), (7, .int .i64 3), (8, .int .i64 3)] ∧ T = (TPc z0 z1 z2 g0 n0 g1 n1 g2 n2 ga kx (hsLaw kx (hsLaw kx (hsLaw kx [0, 0] z0 n0) z1 n1) z2 n2) l1)))) 3 ⟨rfl, .inl ⟨rfl, rfl, rfl⟩⟩ ?_)
  rintro fm T σ μ ⟨rfl, hI⟩
  rcases hI with ⟨rfl, rfl, rfl⟩ | ⟨rfl, rfl, rfl⟩ | ⟨rfl, rfl, rfl⟩ | ⟨rfl, rfl, rfl⟩
  · refine YWp.mono (roc0 e w0 l1) fun ex fm T σ hP => ?_
    obtain ⟨rfl, rfl, rfl, rfl⟩ := hP
    exact ⟨2, by decide, rfl, .inr (.inl ⟨rfl, rfl, rfl⟩)⟩
  · refine YWp.mono (roc1 e w1 l1) fun ex fm T σ hP => ?_
    obtain ⟨rfl, rfl, rfl, rfl⟩ := hP
    exact ⟨1, by decide, rfl, .inr (.inr (.inl ⟨rfl, rfl, rfl⟩))⟩
  · refine YWp.mono (roc2 e w2 l1) fun ex fm T σ hP => ?_
    obtain ⟨rfl, rfl, rfl, rfl⟩ := hP
    exact ⟨0, by decide, rfl, .inr (.inr (.inr (⟨rfl, rfl, rfl⟩)))⟩
  · rw [split79]
    refine YWp.seq (YWp.ofTo (To.of (k := 8) (o := Hdc3 z0 z1 z2 g0 n0 g1 n1 g2 n2 ga kx (hsLaw kx (hsLaw kx (hsLaw kx [0, 0] z0 n0) z1 n1) z2 n2) l1) eGh_ok hmA (Nat.le_refl 8) OrcOk.nil rfl (Hdc3_ok trivial) Hdc3_ex Hdc3_fm Hdc3_tab) hamb ?_)
    refine YWp.seq ?_
    rw [c79_eq]
    refine YWp.cond (b := false) rfl (fun h => by cases h) (fun _ => YWp.exit hamb ?_)
    exact ⟨.inl rfl, ⟨[], [], rfl, trivial⟩, (.ready, none), _, rfl, by decide, .inl rfl, rfl, rfl⟩
theorem blk63c {z0 z1 z2 : List Int} {g0 n0 g1 n1 g2 n2 ga : Nat} {kx : List Int} (e : Exc z0 z1 z2 g0 n0 g1 n1 g2 n2 ga kx) : To eGh 16 8 (.block 0 rf63) [(2, .var 4 0), (4, .var 5 0), (5, .var 6 0), (8, .func (.func 79) [] [.var 7 0])] (TBc z0 z1 z2 g0 n0 g1 n1 g2 n2 ga kx [0, 0]) .normal [(2, .var 4 0), (4, .var 5 0), (5, .var 6 0), (8, .func (.func 79) [] [.var 7 0])] (TBc z0 z1 z2 g0 n0 g1 n1 g2 n2 ga kx (hsLaw kx (hsLaw kx (hsLaw kx [0, 0] z0 n0) z1 n1) z2 n2)) := by
  refine AWp.block (AWp.ofY ?_)
  rw [rf63_eq]
  refine YWp.mono (YWp.rangeFunc (post := fun ex fm T' σ' => (ex = .normal ∨ ex = .exit 0) ∧ fm = H1c.fm ∧ T' = (TBc z0 z1 z2 g0 n0 g1 n1 g2 n2 ga kx (hsLaw kx (hsLaw kx (hsLaw kx [0, 0] z0 n0) z1 n1) z2 n2))) eGh_ok (gf := 79) (gfn := f79) (c := bodyOf f79) (first := []) (caps := [.var 7 0]) rfl (by kernel_rfl) (by kernel_rfl) (by kernel_rfl) (kk := 8) (Nat.le_refl _) (fmIn_of rfl) (by kernel_rfl) (fun l => outc e l)) fun ex fm T σ hP => ?_
  obtain ⟨h1, rfl, rfl⟩ := hP
  rcases h1 with rfl | rfl
  · exact ⟨rfl, rfl, rfl⟩
  · exact ⟨rfl, rfl, rfl⟩
noncomputable def g63cc (vs : List AVal) (T : Tab) (z0 : List Int) (z1 : List Int) (z2 : List Int) (g0 : Nat) (n0 : Nat) (g1 : Nat) (n1 : Nat) (g2 : Nat) (n2 : Nat) (ga : Nat) (kx : List Int) : Out := ⟨[.tab T [some ⟨.agg [.slice 1 1 g0 0 n0 none, .slice 1 2 g1 0 n1 none, .slice 1 3 g2 0 n2 none], ga, false, 25⟩, some ⟨.ints .u8 z0, g0, false, 5⟩, some ⟨.ints .u8 z1, g1, false, 5⟩, some ⟨.ints .u8 z2, g2, false, 5⟩, some ⟨.ints .u64 kx, 0, true, 65⟩, some ⟨.ints .u64 [0, 0], 0, true, 65⟩, some ⟨.ints .u64 [0, 0], 0, true, 65⟩, some ⟨.agg [.slice 1 0 ga 0 3 (some 3)], 0, true, 81⟩], .val (.tuple vs) (.tuple [.var 4 0, .var 5 0, .var 6 0, .func (.func 79) [] [.var 7 0]]), .leN n0 z0.length, .leN n0 140737488352000, .p (Bytes z0), .leN n1 z1.length, .leN n1 140737488352000, .p (Bytes z1), .leN n2 z2.length, .leN n2 140737488352000, .p (Bytes z2), .p (WpLaw kx)], .normal, [(2, .var 4 0), (4, .var 5 0), (5, .var 6 0), (8, .func (.func 79) [] [.var 7 0])], [some ⟨.agg [.slice 1 1 g0 0 n0 none, .slice 1 2 g1 0 n1 none, .slice 1 3 g2 0 n2 none], ga, false, 25⟩, some ⟨.ints .u8 z0, g0, false, 5⟩, some ⟨.ints .u8 z1, g1, false, 5⟩, some ⟨.ints .u8 z2, g2, false, 5⟩, some ⟨.ints .u64 kx, 0, true, 65⟩, some ⟨.ints .u64 [0, 0], 0, true, 65⟩, some ⟨.ints .u64 (hsLaw kx (hsLaw kx (hsLaw kx [0, 0] z0 n0) z1 n1) z2 n2), 0, true, 65⟩, some ⟨.agg [.slice 1 0 ga 0 3 (some 3)], 0, true, 81⟩], []⟩
theorem g63cc_ok {vs : List AVal} {T : Tab} {z0 : List Int} {z1 : List Int} {z2 : List Int} {g0 : Nat} {n0 : Nat} {g1 : Nat} {n1 : Nat} {g2 : Nat} {n2 : Nat} {ga : Nat} {kx : List Int} (h : Ok (g63cc vs T z0 z1 z2 g0 n0 g1 n1 g2 n2 ga kx)) : To eGh 16 8 (.block 0 rf63) (zipF [2,4,5,8] vs) T (g63cc vs T z0 z1 z2 g0 n0 g1 n1 g2 n2 ga kx).ex (g63cc vs T z0 z1 z2 g0 n0 g1 n1 g2 n2 ga kx).fm (g63cc vs T z0 z1 z2 g0 n0 g1 n1 g2 n2 ga kx).tab := by
  obtain ⟨hT, hv, h1, h2, h3, h4, h5, h6, h7, h8, h9, h10, _⟩ := h.h
  simp only [Con.h] at hT hv h1 h2 h3 h4 h5 h6 h7 h8 h9 h10
  injection hv with hv
  subst hT hv
  exact blk63c ⟨h1, h2, h3, h4, h5, h6, h7, h8, h9, h10⟩
noncomputable def g63c : List AVal → Tab → Out := fun vs T => g63cc vs T (xsAt T 1) (xsAt T 2) (xsAt T 3) (gAt T 1) (lenOf (cAt T 0 0)) (gAt T 2) (lenOf (cAt T 0 1)) (gAt T 3) (lenOf (cAt T 0 2)) (gAt T 0) (xsAt T 4)
theorem g63c_ok : BlkOk eGh f63 0 rf63 (blkS 8 [2,4,5,8] g63c) := blkS_ok fun vs T h => g63cc_ok h
noncomputable def orc63c : OrcL := [(0, blkS 8 [2,4,5,8] g63c)]
theorem orc63c_ok : FnOrc eGh f63 orc63c := FnOrc.cons g63c_ok (by kernel_rfl) FnOrc.nil
noncomputable def R63c (z0 z1 z2 : List Int) (g0 n0 g1 n1 g2 n2 ga : Nat) (kx : List Int) : Res := resG 4 [0, 1, 2, 3] (runF eGh f63 orc63c 400 [.ints .u64 kx, .slice 1 0 ga 0 3 (some 3)] [some ⟨.agg [.slice 1 1 g0 0 n0 none, .slice 1 2 g1 0 n1 none, .slice 1 3 g2 0 n2 none], ga, false, 25⟩, some ⟨.ints .u8 z0, g0, false, 5⟩, some ⟨.ints .u8 z1, g1, false, 5⟩, some ⟨.ints .u8 z2, g2, false, 5⟩] [])
theorem R63c_ok {z0 z1 z2 : List Int} {g0 n0 g1 n1 g2 n2 ga : Nat} {kx : List Int} (h : allP [.eqN ga ga, .eqN g0 g0, .eqN g1 g1, .eqN g2 g2, .leN n0 z0.length, .leN n0 140737488352000, .p (Bytes z0), .leN n1 z1.length, .leN n1 140737488352000, .p (Bytes z1), .leN n2 z2.length, .leN n2 140737488352000, .p (Bytes z2), .p (WpLaw kx), .eqN (hsLaw kx (hsLaw kx (hsLaw kx [0, 0] z0 n0) z1 n1) z2
 n2).length 2, .eqN (hsLaw kx (hsLaw kx (hsLaw kx [0, 0] z0 n0) z1 n1) z2 n2).length 2, .eqN (hsLaw kx (hsLaw kx (hsLaw kx [0, 0] z0 n0) z1 n1) z2 n2).length 2]) : OkR (R63c z0 z1 z2 g0 n0 g1 n1 g2 n2 ga kx) := OkR.dem (fl := bitsF 24 7667712) (by kernel_rfl) (by kernel_rfl) (by kernel_rfl) h
theorem R63c_val {z0 z1 z2 : List Int} {g0 n0 g1 n1 g2 n2 ga : Nat} {kx : List Int} : (R63c z0 z1 z2 g0 n0 g1 n1 g2 n2 ga kx).val = .ints .u64 (hsLaw kx (hsLaw kx (hsLaw kx [0, 0] z0 n0) z1 n1) z2 n2) := by kernel_rfl
theorem R63c_tab {z0 z1 z2 : List Int} {g0 n0 g1 n1 g2 n2 ga : Nat} {kx : List Int} : (R63c z0 z1 z2 g0 n0 g1 n1 g2 n2 ga kx).tab = [some ⟨.agg [.slice 1 1 g0 0 n0 none, .slice 1 2 g1 0 n1 none, .slice 1 3 g2 0 n2 none], ga, false, 25⟩, some ⟨.ints .u8 z0, g0, false, 5⟩, some ⟨.ints .u8 z1, g1, false, 5⟩, some ⟨.ints .u8 z2, g2, false, 5⟩] := by kernel_rfl
noncomputable def sm63cc (args : List AVal) (T : Tab) (z0 : List Int) (z1 : List Int) (z2 : List Int) (g0 : Nat) (n0 : Nat) (g1 : Nat) (n1 : Nat) (g2 : Nat) (n2 : Nat) (ga : Nat) (kx : List Int) : Res := ⟨[.tab T [some ⟨.agg [.slice 1 1 g0 0 n0 none, .slice 1 2 g1 0 n1 none, .slice 1 3 g2 0 n2 none], ga, false, 25⟩, some ⟨.ints .u8 z0, g0, false, 5⟩, some ⟨.ints .u8 z1, g1, false, 5⟩, some ⟨.ints .u8 z2, g2, false, 5⟩], .val (.tuple args) (.tuple [.ints .u64 kx, .slice 1 0 ga 0 3 (some 3)]), .leN n0 z0.length, .leN n0 140737488352000, .p (Bytes z0), .leN n1 z1.length, .leN n1 140737488352000, .p (Bytes z1), .leN n2 z2.length, .leN n2 140737488352000, .p (Bytes z2), .p (WpLaw kx)], .ints .u64 (hsLaw kx (hsLaw kx (hsLaw kx [0, 0] z0 n0) z1 n1) z2 n2), [some ⟨.agg [.slice 1 1 g0 0 n0 none, .slice 1 2 g1 0 n1 none, .slice 1 3 g2 0 n2 none], ga, false, 25⟩, some ⟨.ints .u8 z0, g0, false, 5⟩, some ⟨.ints .u8 z1, g1, false, 5⟩, some ⟨.ints .u8 z2, g2, false, 5⟩]⟩
theorem sm63cc_ok {args : List AVal} {T : Tab} {z0 : List Int} {z1 : List Int} {z2 : List Int} {g0 : Nat} {n0 : Nat} {g1 : Nat} {n1 : Nat} {g2 : Nat} {n2 : Nat} {ga : Nat} {kx : List Int} (h : allP (sm63cc args T z0 z1 z2 g0 n0 g1 n1 g2 n2 ga kx).cs) : Small prog (fun _ => none) 63 args T (sm63cc args T z0 z1 z2 g0 n0 g1 n1 g2 n2 ga kx).val (sm63cc args T z0 z1 z2 g0 n0 g1 n1 g2 n2 ga kx).tab := by
  obtain ⟨hT, hv, h1, h2, h3, h4, h5, h6, h7, h8, h9, h10, _⟩ := h
  simp only [Con.h] at hT hv h1 h2 h3 h4 h5 h6 h7 h8 h9 h10
  injection hv with hv
  subst hT hv
  have w0 := WpLaw.zero
  have w1 := hs_wp (h := kx) w0 h1 h3
  have w2 := hs_wp (h := kx) w1 h4 h6
  have w3 := hs_wp (h := kx) w2 h7 h9
  refine small_ofG (R := R63c z0 z1 z2 g0 n0 g1 n1 g2 n2 ga kx) (keep := [0, 1, 2, 3]) eGh_ok hmA (f := 63) (fn := f63) (by kernel_rfl) (by kernel_rfl) orc63c_ok rfl (R63c_ok ?_) R63c_val R63c_tab
  have hl := w3.len
  have hk := h10.len
  simp only [allP, Con.h, hl, hk, h1, h2, h3, h4, h5, h6, h7, h8, h9, h10, eq_self, true_and, and_true]
noncomputable def sm63c : Summary := fun args T => sm63cc args T (xsAt T 1) (xsAt T 2) (xsAt T 3) (gAt T 1) (lenOf (cAt T 0 0)) (gAt T 2) (lenOf (cAt T 0 1)) (gAt T 3) (lenOf (cAt T 0 2)) (gAt T 0) (xsOf (vAt args 0))
theorem sm63c_ok : SmOk prog (fun _ => none) 63 sm63c := fun args T h => sm63cc_ok h
noncomputable def S63c : Summary := callR sm63c []
theorem S63c_ok : SumOk prog (fun _ => none) 63 S63c := callR_ok sm63c_ok []
end Go.Abs

set_option linter.unusedVariables false
set_option linter.unusedSimpArgs false
set_option maxRecDepth 8000
namespace Go.Abs
open Go.Proofs.Try
/-! ### turn, the whole -/
def tnLaw (K N xs : List Int) : Nat → List Int
  | 0 => xs
  | j + 1 => xkLaw (ctLaw K N (2 + (j : Int))) (tnLaw K N xs j) (16 * j)
def turnLaw (K N xs : List Int) : List Int := tnLaw K N xs ((xs.length + 15) / 16)
theorem tn_len (K N xs : List Int) : ∀ j, (tnLaw K N xs j).length = xs.length
  | 0 => rfl
  | j + 1 => by rw [tnLaw, xkLaw, bx_len, tn_len K N xs j]
theorem tn_bytes {K N xs : List Int} (hk : Bytes K) (hn : Bytes N) (hx : Bytes xs) : ∀ j, Bytes (tnLaw K N xs j)
  | 0 => hx
  | j + 1 => bx_bytes (ct_bytes hk hn _) (tn_bytes hk hn hx j) _ _
theorem turn_len (K N xs : List Int) : (turnLaw K N xs).length = xs.length := tn_len K N xs _
theorem turn_bytes {K N xs : List Int} (hk : Bytes K) (hn : Bytes N) (hx : Bytes xs) : Bytes (turnLaw K N xs) := tn_bytes hk hn hx _
theorem loop54o {zs ns : List Int} {gk gn : Nat} {cpk cpn : Option Nat} {ts : List Int} {gt : Nat} {owt : Bool} {n : Nat} {xs : List Int} (h1 : 16 ≤ zs.length) (h2 : 12 ≤ ns.length) (h3 : Bytes zs) (h4 : Bytes ns) (hn : n = xs.length) (hb : n ≤ 140737488352000) (hx : Bytes xs) : To eGt 45 5 (.block 0 (.loop (roundOf 0 f54))) [(2, .var 3 0), (5, .slice 1 4 1 0 n none), (6, .int .i64 0)] [some ⟨.ints .u8 zs, gk, false, 5⟩, some ⟨.ints .u8 ns, gn, false, 5⟩, some ⟨.ints .u8 ts, gt, owt, 5⟩, some ⟨.agg [.slice 1 0 gk 0 16 cpk, .slice 1 1 gn 0 12 cpn], 0, true, 60⟩, some ⟨.ints .u8 xs, 1, true, 5⟩] .normal [(5, .slice 1 4 1 0 n none)] [some ⟨.ints .u8 zs, gk, false, 5⟩, some ⟨.ints .u8 ns, gn, false, 5⟩, some ⟨.ints .u8 ts, gt, owt, 5⟩, some ⟨.agg [.slice 1 0 gk 0 16 cpk, .slice 1 1 gn 0 12 cpn], 0, true, 60⟩, some ⟨.ints .u8 (turnLaw (subLaw zs 0 16) (subLaw ns 0 12) xs), 1, true, 5⟩] := by
  have b1 := sub_bytes h3 0 16
  have b2 := sub_bytes h4 0 12
  unfold turnLaw
  refine To.rounds (fun j : Nat => [(2, .var 3 0), (5, .slice 1 4 1 0 n none), (6, .int .i64 ((16 * j : Nat) : Int))]) (fun j => [some ⟨.ints .u8 zs, gk, false, 5⟩, some ⟨.ints .u8 ns, gn, false, 5⟩, some ⟨.ints .u8 ts, gt, owt, 5⟩, some ⟨.agg [.slice 1 0 gk 0 16 cpk, .slice 1 1 gn 0 12 cpn], 0, true, 60⟩, some ⟨.ints .u8 (tnLaw (subLaw zs 0 16) (subLaw ns 0 12) xs j), 1, true, 5⟩]) ((xs.length + 15) / 16) (fun j hj => ?_) (To.of (o := E54 zs ns gk gn cpk cpn ts gt owt n (tnLaw (subLaw zs 0 16) (subLaw ns 0 12) xs ((xs.length + 15) / 16)) ((16 * ((xs.length + 15) / 16) : Nat) : Int)) eGt_ok hmA (Nat.le_refl 5) OrcOk.nil rfl (E54_ok ?_) E54_ex E54_fm E54_tab)
  · have e1 : ((16 * j : Nat) : Int).tdiv 16 = (j : Int) := by rw [Int.tdiv_eq_ediv_of_nonneg (by omega)]; omega
    have hl := tn_len (subLaw zs 0 16) (subLaw ns 0 12) xs j
    have hbb := tn_bytes b1 b2 hx j
    have hcb := ct_bytes b1 b2 (2 + (j : Int))
    have e2 : ((16 * j : Nat) : Int) = (((16 * j : Nat) : Int).toNat : Int) := by omega
    refine To.of (o := O54 zs ns gk gn cpk cpn ts gt owt n (tnLaw (subLaw zs 0 16) (subLaw ns 0 12) xs j) ((16 * j : Nat) : Int)) eGt_ok hmA (Nat.le_refl 5) (OrcOk.cons (fn := f54) g54i_ok (by kernel_rfl) OrcOk.nil) rfl (O54_ok ?_) O54_ex ?_ ?_
    · rw [e1]
      simp only [allP, Con.h, h1, h2, h3, h4, hl, hbb, hcb, Int.toNat_natCast, decide_eq_true_eq, eq_self, true_and, and_true]
      omega
    · rw [O54_fm, show ((16 * j : Nat) : Int) + 16 = ((16 * (j + 1) : Nat) : Int) by omega]
    · rw [O54_tab, e1, Int.toNat_natCast]; rfl
  · simp only [allP, Con.h, decide_eq_false_iff_not, and_true]
    omega
noncomputable def g54c (vs : List AVal) (T : Tab) (zs : List Int) (ns : List Int) (gk : Nat) (gn : Nat) (cpk : Option Nat) (cpn : Option Nat) (ts : List Int) (gt : Nat) (owt : Bool) (n : Nat) (xs : List Int) : Out := ⟨[.tab T [some ⟨.ints .u8 zs, gk, false, 5⟩, some ⟨.ints .u8 ns, gn, false, 5⟩, some ⟨.ints .u8 ts, gt, owt, 5⟩, some ⟨.agg [.slice 1 0 gk 0 16 cpk, .slice 1 1 gn 0 12 cpn], 0, true, 60⟩, some ⟨.ints .u8 xs, 1, true, 5⟩], .val (.tuple vs) (.tuple [.var 3 0, .slice 1 4 1 0 n none, .int .i64 0]), .leN 16 zs.length, .leN 12 ns.length, .p (Bytes zs), .p (Bytes ns), .eqN n xs.length, .leN n 140737488352000, .p (Bytes xs)], .normal, [(5, .slice 1 4 1 0 n none)], [some ⟨.ints .u8 zs, gk, false, 5⟩, some ⟨.ints .u8 ns, gn, false, 5⟩, some ⟨.ints .u8 ts, gt, owt, 5⟩, some ⟨.agg [.slice 1 0 gk 0 16 cpk, .slice 1 1 gn 0 12 cpn], 0, true, 60⟩, some ⟨.ints .u8 (turnLaw (subLaw zs 0 16) (subLaw ns 0 12) xs), 1, true, 5⟩], []⟩
theorem g54c_ok {vs : List AVal} {T : Tab} {zs : List Int} {ns : List Int} {gk : Nat} {gn : Nat} {cpk : Option Nat} {cpn : Option Nat} {ts : List Int} {gt : Nat} {owt : Bool} {n : Nat} {xs : List Int} (h : Ok (g54c vs T zs ns gk gn cpk cpn ts gt owt n xs)) : To eGt 45 5 (.block 0 (.loop (roundOf 0 f54))) (zipF [2,5,6] vs) T (g54c vs T zs ns gk gn cpk cpn ts gt owt n xs).ex (g54c vs T zs ns gk gn cpk cpn ts gt owt n xs).fm (g54c vs T zs ns gk gn cpk cpn ts gt owt n xs).tab := by
  obtain ⟨hT, hv, h1, h2, h3, h4, h5, h6, h7, _⟩ := h.h
  simp only [Con.h] at hT hv h1 h2 h3 h4 h5 h6 h7
  injection hv with hv
  subst hT hv
  exact loop54o h1 h2 h3 h4 h5 h6 h7
noncomputable def g54 : List AVal → Tab → Out := fun vs T => g54c vs T (xsAt T 0) (xsAt T 1) (gAt T 0) (gAt T 1) (capOf (cAt T 3 0)) (capOf (cAt T 3 1)) (xsAt T 2) (gAt T 2) (owAt T 2) (lenOf (vAt vs 1)) (xsAt T 4)
theorem g54_ok : BlkOk eGt f54 0 (.loop (roundOf 0 f54)) (blkS 5 [2,5,6] g54) := blkS_ok fun vs T h => g54c_ok h
noncomputable def orc54 : OrcL := [(0, blkS 5 [2,5,6] g54)]
theorem orc54_ok : FnOrc eGt f54 orc54 := FnOrc.cons g54_ok (by kernel_rfl) FnOrc.nil
noncomputable def R54 (zs ns : List Int) (gk gn : Nat) (cpk cpn : Option Nat) (ts : List Int) (gt : Nat) (owt : Bool) (n : Nat) (cp : Option Nat) : Res := resG 3 [0,1,2,4] (runF eGt f54 orc54 400 [.agg [.slice 1 0 gk 0 16 cpk, .slice 1 1 gn 0 12 cpn], .slice 1 2 gt 0 n cp] [some ⟨.ints .u8 zs, gk, false, 5⟩, some ⟨.ints .u8 ns, gn, false, 5⟩, some ⟨.ints .u8 ts, gt, owt, 5⟩] [])
theorem R54_ok {zs ns : List Int} {gk gn : Nat} {cpk cpn : Option Nat} {ts : List Int} {gt : Nat} {owt : Bool} {n : Nat} {cp : Option Nat} (h : allP [.eqN gt gt, .leN (0 + n) ts.length, .leN n 140737488355000, .leN 16 zs.length, .leN 12 ns.length, .p (Bytes zs), .p (Bytes ns), .eqN n (subLaw ts 0 n).length, .leN n 140737488352000, .p (Bytes (subLaw ts 0 n))]) : OkR (R54 zs ns gk gn cpk cpn ts gt
 owt n cp) := OkR.dem (fl := bitsF 14 0) (by kernel_rfl) (by kernel_rfl) (by kernel_rfl) h
theorem R54_val {zs ns : List Int} {gk gn : Nat} {cpk cpn : Option Nat} {ts : List Int} {gt : Nat} {owt : Bool} {n : Nat} {cp : Option Nat} : (R54 zs ns gk gn cpk cpn ts gt owt n cp).val = .slice 1 3 1 0 n none := by kernel_rfl
theorem R54_tab {zs ns : List Int} {gk gn : Nat} {cpk cpn : Option Nat} {ts : List Int} {gt : Nat} {owt : Bool} {n : Nat} {cp : Option Nat} : (R54 zs ns gk gn cpk cpn ts gt owt n cp).tab = [some ⟨.ints .u8 zs, gk, false, 5⟩, some ⟨.ints .u8 ns, gn, false, 5⟩, some ⟨.ints .u8 ts, gt, owt, 5⟩, some ⟨.ints .u8 (turnLaw (subLaw zs 0 16) (subLaw ns 0 12) (subLaw ts 0 n)), 1, true, 5⟩] := by kernel_rfl
noncomputable def sm54c (args : List AVal) (T : Tab) (zs : List Int) (ns : List Int) (gk : Nat) (gn : Nat) (cpk : Option Nat) (cpn : Option Nat) (ts : List Int) (gt : Nat) (owt : Bool) (n : Nat) (cp : Option Nat) : Res := ⟨[.tab T [some ⟨.ints .u8 zs, gk, false, 5⟩, some ⟨.ints .u8 ns, gn, false, 5⟩, some ⟨.ints .u8 ts, gt, owt, 5⟩], .val (.tuple args) (.tuple [.agg [.slice 1 0 gk 0 16 cpk, .slice 1 1 gn 0 12 cpn], .slice 1 2 gt 0 n cp]), .leN 16 zs.length, .leN 12 ns.length, .p (Bytes zs), .p (Bytes ns), .leN n ts.length, .leN n 140737488352000, .p (Bytes ts)], .slice 1 3 1 0 n none, [some ⟨.ints .u8 zs, gk, false, 5⟩, some ⟨.ints .u8 ns, gn, false, 5⟩, some ⟨.ints .u8 ts, gt, owt, 5⟩, some ⟨.ints .u8 (turnLaw (subLaw zs 0 16) (subLaw ns 0 12) (subLaw ts 0 n)), 1, true, 5⟩]⟩
theorem sm54c_ok {args : List AVal} {T : Tab} {zs : List Int} {ns : List Int} {gk : Nat} {gn : Nat} {cpk : Option Nat} {cpn : Option Nat} {ts : List Int} {gt : Nat} {owt : Bool} {n : Nat} {cp : Option Nat} (h : allP (sm54c args T zs ns gk gn cpk cpn ts gt owt n cp).cs) : Small prog (fun _ => none) 54 args T (sm54c args T zs ns gk gn cpk cpn ts gt owt n cp).val (sm54c args T zs ns gk gn cpk cpn ts gt owt n cp).tab := by
  obtain ⟨hT, hv, h1, h2, h3, h4, h5, h6, h7, _⟩ := h
  simp only [Con.h] at hT hv h1 h2 h3 h4 h5 h6 h7
  injection hv with hv
  subst hT hv
  have l1 : (subLaw ts 0 n).length = n := subLaw_len (by omega)
  have b1 := sub_bytes h7 0 n
  refine small_ofG (R := R54 zs ns gk gn cpk cpn ts gt owt n cp) (keep := [0,1,2,4]) eGt_ok hmA (f := 54) (fn := f54) (by kernel_rfl) (by kernel_rfl) orc54_ok rfl (R54_ok ?_) R54_val R54_tab
  simp only [allP, Con.h, l1, b1, h1, h2, h3, h4, h5, h6, Nat.zero_add, eq_self, true_and, and_true]
  try omega
noncomputable def sm54 : Summary := fun args T => sm54c args T (xsAt T 0) (xsAt T 1) (gAt T 0) (gAt T 1) (capOf (vAt (vsOf (vAt args 0)) 0)) (capOf (vAt (vsOf (vAt args 0)) 1)) (xsAt T 2) (gAt T 2) (owAt T 2) (lenOf (vAt args 1)) (capOf (vAt args 1))
theorem sm54_ok : SmOk prog (fun _ => none) 54 sm54 := fun args T h => sm54c_ok h
noncomputable def S54 : Summary := callR sm54 []
theorem S54_ok : SumOk prog (fun _ => none) 54 S54 := callR_ok sm54_ok []
/-! ### tag -/
noncomputable def S72 : Summary := sumI modeO (eA []) f72 [] 100 [] []
theorem S72_ok : SumOk prog (fun _ => none) 72 S72 := sumI_ok eA0_ok hmA (fn := f72) (by kernel_rfl) (by kernel_rfl) [] FnOrc.nil 100 [] []
noncomputable def eGg : Env := eA [(23, S23), (59, S59), (61, S61), (63, S63c), (71, S71), (72, S72), (73, S73)]
theorem eGg_ok : EnvOk eGg := envOf_ok tysA_ok (SumsOk.cons (fn := f23) S23_ok (by kernel_rfl) (by kernel_rfl) (by kernel_rfl) (SumsOk.cons (fn := f59) S59_ok (by kernel_rfl) (by kernel_rfl) (by kernel_rfl) (SumsOk.cons (fn := f61) S61_ok (by kernel_rfl) (by kernel_rfl) (by kernel_rfl) (SumsOk.cons (fn := f63) S63c_ok (by kernel_rfl) (by kernel_rfl) (by kernel_rfl) (SumsOk.cons (fn := f71) S71_ok (by kernel_rfl) (by kernel_rfl) (by kernel_rfl) (SumsOk.cons (fn := f72) S72_ok (by kernel_rfl) (by kernel_rfl) (by kernel_rfl) (SumsOk.cons (fn := f73) S73_ok (by kernel_rfl) (by kernel_rfl) (by kernel_rfl) trivial)))))))
noncomputable def R55 (zs ns : List Int) (gk gn : Nat) (cpk cpn : Option Nat) (ms ts : List Int) (gm gt n m : Nat) : Res := resG 4 [0,1,2,3,11] (runF eGg f55 [] 400 [.agg [.slice 1 0 gk 0 16 cpk, .slice 1 1 gn 0 12 cpn], .slice 1 2 gm 0 m none, .slice 1 3 gt 0 n none] [some ⟨.ints .u8 zs, gk, false, 5⟩, some ⟨.ints .u8 ns, gn, false, 5⟩, some ⟨.ints .u8 ms, gm, false, 5⟩, some ⟨.ints .u8 ts, gt, false, 5⟩] [])
theorem R55_ok {zs ns : List Int} {gk gn : Nat} {cpk cpn : Option Nat} {ms ts : List Int} {gm gt n m : Nat} (h : allP [.eqN gk gk, .eqN gk gk, .leN 16 zs.length, .p (Bytes (subLaw zs 0 16)), .p (Bytes (subLaw [0, 0, 0, 0, 0, 0, 0, 0, 0, 0, 0, 0, 0, 0, 0, 0] 0 16)), .eqN gm gm, .eqN gm gm, .rng 0 (↑m : Int) 18446744073709551615, .eqN gt gt, .eqN gt gt, .rng 0 (↑n : Int) 18446744073709551615, .p
 (Bytes (blockLaw (ksLaw (subLaw zs 0 16) 176) (subLaw [0, 0, 0, 0, 0, 0, 0, 0, 0, 0, 0, 0, 0, 0, 0, 0] 0 16))), .p (WpLaw [8 * (↑m : Int) % 18446744073709551616, 8 * (↑n : Int) % 18446744073709551616]), .eqN gm gm, .eqN gt gt, .leN m ms.length, .leN m 140737488352000, .p (Bytes ms), .leN n ts.length, .leN n 140737488352000, .p (Bytes ts), .p (Bytes (ptLaw [8 * (↑m : Int) % 18446744073709551616, 8 *
 (↑n : Int) % 18446744073709551616])), .p (WpLaw (gwLaw (subLaw (blockLaw (ksLaw (subLaw zs 0 16) 176) (subLaw [0, 0, 0, 0, 0, 0, 0, 0, 0, 0, 0, 0, 0, 0, 0, 0] 0 16)) 0 16))), .eqN gk gk, .eqN gn gn, .leN 16 zs.length, .leN 12 ns.length, .p (Bytes zs), .p (Bytes ns), .p (Bytes (ctLaw (subLaw zs 0 16) (subLaw ns 0 12) (OfNat.ofNat 1))), .p (WpLaw (hsLaw (gwLaw (subLaw (blockLaw (ksLaw (subLaw zs 0
 16) 176) (subLaw [0, 0, 0, 0, 0, 0, 0, 0, 0, 0, 0, 0, 0, 0, 0, 0] 0 16)) 0 16)) (hsLaw (gwLaw (subLaw (blockLaw (ksLaw (subLaw zs 0 16) 176) (subLaw [0, 0, 0, 0, 0, 0, 0, 0, 0, 0, 0, 0, 0, 0, 0, 0] 0 16)) 0 16)) (hsLaw (gwLaw (subLaw (blockLaw (ksLaw (subLaw zs 0 16) 176) (subLaw [0, 0, 0, 0, 0, 0, 0, 0, 0, 0, 0, 0, 0, 0, 0, 0] 0 16)) 0 16)) [0, 0] ms m) ts n) (ptLaw [8 * (↑m : Int) %
 18446744073709551616, 8 * (↑n : Int) % 18446744073709551616]) 16)), .p (WpLaw (gwLaw (subLaw (ctLaw (subLaw zs 0 16) (subLaw ns 0 12) (OfNat.ofNat 1)) 0 16))), .p (WpLaw (xwLaw (hsLaw (gwLaw (subLaw (blockLaw (ksLaw (subLaw zs 0 16) 176) (subLaw [0, 0, 0, 0, 0, 0, 0, 0, 0, 0, 0, 0, 0, 0, 0, 0] 0 16)) 0 16)) (hsLaw (gwLaw (subLaw (blockLaw (ksLaw (subLaw zs 0 16) 176) (subLaw [0, 0, 0, 0, 0, 0, 0,
 0, 0, 0, 0, 0, 0, 0, 0, 0] 0 16)) 0 16)) (hsLaw (gwLaw (subLaw (blockLaw (ksLaw (subLaw zs 0 16) 176) (subLaw [0, 0, 0, 0, 0, 0, 0, 0, 0, 0, 0, 0, 0, 0, 0, 0] 0 16)) 0 16)) [0, 0] ms m) ts n) (ptLaw [8 * (↑m : Int) % 18446744073709551616, 8 * (↑n : Int) % 18446744073709551616]) 16) (gwLaw (subLaw (ctLaw (subLaw zs 0 16) (subLaw ns 0 12) (OfNat.ofNat 1)) 0 16))))]) : OkR (R55 zs ns gk gn cpk cpn ms
 ts gm gt n m) := OkR.dem (fl := bitsF 115 26145559319512187383476048123134) (by kernel_rfl) (by kernel_rfl) (by kernel_rfl) h
theorem R55_val {zs ns : List Int} {gk gn : Nat} {cpk cpn : Option Nat} {ms ts : List Int} {gm gt n m : Nat} : (R55 zs ns gk gn cpk cpn ms ts gm gt n m).val = .slice 1 4 15 0 16 none := by kernel_rfl
theorem R55_tab {zs ns : List Int} {gk gn : Nat} {cpk cpn : Option Nat} {ms ts : List Int} {gm gt n m : Nat} : (R55 zs ns gk gn cpk cpn ms ts gm gt n m).tab = [some ⟨.ints .u8 zs, gk, false, 5⟩, some ⟨.ints .u8 ns, gn, false, 5⟩, some ⟨.ints .u8 ms, gm, false, 5⟩, some ⟨.ints .u8 ts, gt, false, 5⟩, some ⟨.ints .u8 (ptLaw (xwLaw (hsLaw (gwLaw (subLaw (blockLaw (ksLaw (subLaw zs 0 16) 176) (subLaw
 [0, 0, 0, 0, 0, 0, 0, 0, 0, 0, 0, 0, 0, 0, 0, 0] 0 16)) 0 16)) (hsLaw (gwLaw (subLaw (blockLaw (ksLaw (subLaw zs 0 16) 176) (subLaw [0, 0, 0, 0, 0, 0, 0, 0, 0, 0, 0, 0, 0, 0, 0, 0] 0 16)) 0 16)) (hsLaw (gwLaw (subLaw (blockLaw (ksLaw (subLaw zs 0 16) 176) (subLaw [0, 0, 0, 0, 0, 0, 0, 0, 0, 0, 0, 0, 0, 0, 0, 0] 0 16)) 0 16)) [0, 0] ms m) ts n) (ptLaw [8 * (↑m : Int) % 18446744073709551616, 8 * (↑n
 : Int) % 18446744073709551616]) 16) (gwLaw (subLaw (ctLaw (subLaw zs 0 16) (subLaw ns 0 12) (OfNat.ofNat 1)) 0 16)))), 15, true, 5⟩] := by kernel_rfl
end Go.Abs

set_option linter.unusedVariables false
set_option linter.unusedSimpArgs false
set_option maxRecDepth 8000
namespace Go.Abs
open Go.Proofs.Try
/-! ### tag -/
def zLaw16 : List Int := List.replicate 16 0
def hkLaw (K : List Int) : List Int := gwLaw (blockLaw (ksLaw K 176) zLaw16)
def lenLaw (m n : Nat) : List Int := [8 * (m : Int) % 18446744073709551616, 8 * (n : Int) % 18446744073709551616]
def tagLaw (K N M : List Int) (m : Nat) (X : List Int) (n : Nat) : List Int := ptLaw (xwLaw (hsLaw (hkLaw K) (hsLaw (hkLaw K) (hsLaw (hkLaw K) [0, 0] M m) X n) (ptLaw (lenLaw m n)) 16) (gwLaw (ctLaw K N 1)))
theorem WpLaw.mk {a b : Int} (ha : 0 ≤ a ∧ a < 18446744073709551616) (hb : 0 ≤ b ∧ b < 18446744073709551616) : WpLaw [a, b] := by
  refine ⟨a.toNat * 2 ^ 64 + b.toNat, by omega, ?_⟩
  unfold wN
  rw [Nat.shiftRight_eq_div_pow]
  congr 1
  · omega
  · congr 1; omega
theorem len_wp (m n : Nat) : WpLaw (lenLaw m n) := .mk (by omega) (by omega)
theorem z16_bytes : Bytes zLaw16 := Bytes.zer 16
theorem hk_wp {K : List Int} (h : Bytes K) : WpLaw (hkLaw K) := .gw (enc_bytes (ksLaw_bytes h 176) z16_bytes 10) rfl
theorem tag_bytes (K N M : List Int) (m : Nat) (X : List Int) (n : Nat) : Bytes (tagLaw K N M m X n) := pt_bytes _
theorem tag_len (K N M : List Int) (m : Nat) (X : List Int) (n : Nat) : (tagLaw K N M m X n).length = 16 := rfl
noncomputable def sm55c (args : List AVal) (T : Tab) (zs : List Int) (ns : List Int) (gk : Nat) (gn : Nat) (cpk : Option Nat) (cpn : Option Nat) (ms : List Int) (ts : List Int) (gm : Nat) (gt : Nat) (n : Nat) (m : Nat) : Res := ⟨[.tab T [some ⟨.ints .u8 zs, gk, false, 5⟩, some ⟨.ints .u8 ns, gn, false, 5⟩, some ⟨.ints .u8 ms, gm, false, 5⟩, some ⟨.ints .u8 ts, gt, false, 5⟩], .val (.tuple args) (.tuple [.agg [.slice 1 0 gk 0 16 cpk, .slice 1 1 gn 0 12 cpn], .slice 1 2 gm 0 m none, .slice 1 3 gt 0 n none]), .leN 16 zs.length, .leN 12 ns.length, .p (Bytes zs), .p (Bytes ns), .leN m ms.length, .leN m 140737488352000, .p (Bytes ms), .leN n ts.length, .leN n 140737488352000, .p (Bytes ts)], .slice 1 4 15 0 16 none, [some ⟨.ints .u8 zs, gk, false, 5⟩, some ⟨.ints .u8 ns, gn, false, 5⟩, some ⟨.ints .u8 ms, gm, false, 5⟩, some ⟨.ints .u8 ts, gt, false, 5⟩, some ⟨.ints .u8 (tagLaw (subLaw zs 0 16) (subLaw ns 0 12) ms m ts n), 15, true, 5⟩]⟩
theorem sm55c_ok {args : List AVal} {T : Tab} {zs : List Int} {ns : List Int} {gk : Nat} {gn : Nat} {cpk : Option Nat} {cpn : Option Nat} {ms : List Int} {ts : List Int} {gm : Nat} {gt : Nat} {n : Nat} {m : Nat} (h : allP (sm55c args T zs ns gk gn cpk cpn ms ts gm gt n m).cs) : Small prog (fun _ => none) 55 args T (sm55c args T zs ns gk gn cpk cpn ms ts gm gt n m).val (sm55c args T zs ns gk gn cpk cpn ms ts gm gt n m).tab := by
  obtain ⟨hT, hv, h1, h2, h3, h4, h5, h6, h7, h8, h9, h10, _⟩ := h
  simp only [Con.h] at hT hv h1 h2 h3 h4 h5 h6 h7 h8 h9 h10
  injection hv with hv
  subst hT hv
  have b1 := sub_bytes h3 0 16
  have b2 := sub_bytes h4 0 12
  have e1 : subLaw [0, 0, 0, 0, 0, 0, 0, 0, 0, 0, 0, 0, 0, 0, 0, 0] 0 16 = zLaw16 := rfl
  have e2 : subLaw (blockLaw (ksLaw (subLaw zs 0 16) 176) zLaw16) 0 16 = blockLaw (ksLaw (subLaw zs 0 16) 176) zLaw16 := sub_n rfl
  have e3 : subLaw (ctLaw (subLaw zs 0 16) (subLaw ns 0 12) 1) 0 16 = ctLaw (subLaw zs 0 16) (subLaw ns 0 12) 1 := sub_n rfl
  have e4 : [8 * (m : Int) % 18446744073709551616, 8 * (n : Int) % 18446744073709551616] = lenLaw m n := rfl
  have e5 : gwLaw (blockLaw (ksLaw (subLaw zs 0 16) 176) zLaw16) = hkLaw (subLaw zs 0 16) := rfl
  have c1 := enc_bytes (ksLaw_bytes b1 176) z16_bytes 10
  have c2 : Bytes (blockLaw (ksLaw (subLaw zs 0 16) 176) zLaw16) := c1
  have c3 := ct_bytes b1 b2 1
  have w0 := WpLaw.zero
  have wk := hk_wp b1
  have w1 := hs_wp (h := hkLaw (subLaw zs 0 16)) w0 h5 h7
  have w2 := hs_wp (h := hkLaw (subLaw zs 0 16)) w1 h8 h10
  have pb := pt_bytes (lenLaw m n)
  have pl := pt_len (lenLaw m n)
  have w3 := hs_wp (h := hkLaw (subLaw zs 0 16)) w2 (z := ptLaw (lenLaw m n)) (n := 16) (by omega) pb
  have w4 : WpLaw (gwLaw (ctLaw (subLaw zs 0 16) (subLaw ns 0 12) 1)) := .gw c3 rfl
  have w5 := w3.xw w4
  have lw := len_wp m n
  have k1 : (1 : Int) = OfNat.ofNat 1 := rfl
  refine small_ofG (R := R55 zs ns gk gn cpk cpn ms ts gm gt n m) (keep := [0,1,2,3,11]) eGg_ok hmA (f := 55) (fn := f55) (by kernel_rfl) (by kernel_rfl) FnOrc.nil rfl (R55_ok ?_) R55_val (by rw [R55_tab]; simp only [e1, e2, e3, e4, e5]; rfl)
  simp only [allP, Con.h, e1, e2, e3, e4, e5, c2, c3, wk, w3, w4, w5, lw, pb, pl, h1, h2, h3, h4, h5, h6, h7, h8, h9, h10, b1, z16_bytes, eq_self, true_and, and_true]
  first | omega | exact ⟨by omega, by omega, by decide, by decide⟩ | skip
noncomputable def sm55 : Summary := fun args T => sm55c args T (xsAt T 0) (xsAt T 1) (gAt T 0) (gAt T 1) (capOf (vAt (vsOf (vAt args 0)) 0)) (capOf (vAt (vsOf (vAt args 0)) 1)) (xsAt T 2) (xsAt T 3) (gAt T 2) (gAt T 3) (lenOf (vAt args 2)) (lenOf (vAt args 1))
theorem sm55_ok : SmOk prog (fun _ => none) 55 sm55 := fun args T h => sm55c_ok h
noncomputable def S55 : Summary := callR sm55 []
theorem S55_ok : SumOk prog (fun _ => none) 55 S55 := callR_ok sm55_ok []
end Go.Abs

set_option linter.unusedVariables false
set_option linter.unusedSimpArgs false
set_option maxRecDepth 8000
namespace Go.Abs
open Go.Proofs.Try
structure Exa (z0 : List Int) (g0 n0 ga : Nat) (kx : List Int) : Prop where
  pz0 : n0 ≤ z0.length
  pm0 : n0 ≤ 140737488352000
  pb0 : Bytes z0
  pk : WpLaw kx
noncomputable def H1a : Host := ⟨#[9], as63, bd63, [(2, .var 2 0), (4, .var 3 0), (5, .var 4 0), (8, .func (.func 79) [] [.var 5 0])], 16⟩
noncomputable def H2a0 (z0 : List Int) (g0 n0 ga : Nat) (kx : List Int) : Host := ⟨#[14], as79, bd79, [(1, .var 5 0), (2, .var 6 0), (6, .slice 1 0 ga 0 1 (some 1)), (7, .int .i64 1), (8, .int .i64 0), (13, .func (.func 81) [] [.var 7 0, .var 8 0])], 30⟩
theorem amba0 (z0 : List Int) (g0 n0 ga : Nat) (kx : List Int) (l1 l2 : Nat) : ambIn 9 [(l2, H2a0 z0 g0 n0 ga kx), (l1, H1a)] := fun x hx => by
  rcases List.mem_cons.1 hx with rfl | hx
  · exact fmIn_of rfl
  · exact ambIn_one rfl x hx
theorem ambMa0 (z0 : List Int) (g0 n0 ga : Nat) (kx : List Int) (l1 l2 : Nat) : ambIn 10 [(l2, H2a0 z0 g0 n0 ga kx), (l1, H1a)] := fun x hx => by
  rcases List.mem_cons.1 hx with rfl | hx
  · exact fmIn_of rfl
  · exact ambIn_one rfl x hx
theorem chfa0 {z0 : List Int} {g0 n0 ga : Nat} {kx : List Int} (e : Exa z0 g0 n0 ga kx) {y : List Int} (hy : WpLaw y) (l1 l2 : Nat) {j : Nat} (hj : 16 * j + 16 ≤ n0) :
    YWp eGh 30 9 [(l2, H2a0 z0 g0 n0 ga kx), (l1, H1a)] bd79 [(2, .var 6 0), (5, .slice 1 1 g0 (16 * j) 16 (some 16))] (TNa0 z0 g0 n0 ga kx y l1) [(.busy, none), (.ready, none)] fun ex fm T σ => ex = .normal ∧ T = ((TNa0 z0 g0 n0 ga kx (mwLaw (xwLaw y (gwLaw (ckLaw z0 n0 j))) kx) l1) : Tab) ∧ σ = [(.busy, none), (.ready, none)] := by
  have hamb := amba0 z0 g0 n0 ga kx l1 l2
  have hambM := ambMa0 z0 g0 n0 ga kx l1 l2
  have hz := e.pz0
  have hbz := e.pb0
  have hcl := ck_len hz j
  have hcb := ck_bytes hbz n0 j
  have eb : (subLaw z0 (addO (16 * j) 0) 16) = (ckLaw z0 n0 j) := by rw [addO_eq, Nat.add_zero, ck_full hj]
  have hw : WpLaw (gwLaw (subLaw z0 (addO (16 * j) 0) 16)) := by rw [eb]; exact .gw hcb hcl
  rw [bd79_eq]
  refine YWp.block (YWp.seq (YWp.yieldDrawn eGh_ok hmA (l1 := ops79.toList.take 12) (oy := ops79.toList.getD 12 default) (o2 := ops79.toList.getD 13 default) (by kernel_rfl) (ds1 := [some true]) (o1 := Dfa0 z0 g0 n0 ga kx y l1 l2 (16 * j)) (by kernel_rfl) (by kernel_rfl) (by kernel_rfl) (by kernel_rfl) (by kernel_rfl) (by kernel_rfl) (Dfa0_ok ?_) (f := .tmp 15) (x := .tmp 26) (t := 27) (c := theCall (ops79.toList.getD 12 default)) (by kernel_rfl) (by kernel_rfl) (by kernel_rfl) (by kernel_rfl) (by kernel_rfl) (by kernel_rfl) (by decide) (i := 1) (l := l1) (H := H1a) (by rw [Dfa0_fm]; rfl) (v := .ints .u64 (gwLaw (subLaw z0 (addO (16 * j) 0) 16))) (by rw [Dfa0_fm]; rfl) rfl rfl (p := 9) rfl (by decide) (kk := 9) (by decide) (by rw [Dfa0_fm]; exact fmIn_of rfl) hamb ?_))
  · simp only [allP, Con.h, addO_eq, Nat.add_zero, hbz, eq_self, true_and, and_true]
    omega
  rw [Dfa0_tab]
  refine YWp.ofTo (To.of (o := A6fa0 z0 g0 n0 ga kx y l1 (gwLaw (subLaw z0 (addO (16 * j) 0) 16))) eGh_ok hmA (Nat.le_refl 9) OrcOk.nil rfl (A6fa0_ok ⟨hw.len, trivial⟩) A6fa0_ex A6fa0_fm A6fa0_tab) hamb ⟨rfl, rfl, ?_⟩
  refine YWp.ofTo (To.of (o := B6fa0 z0 g0 n0 ga kx y l1 (gwLaw (subLaw z0 (addO (16 * j) 0) 16))) eGh_ok hmA (Nat.le_refl 9) OrcOk.nil rfl (B6fa0_ok ?_) B6fa0_ex B6fa0_fm B6fa0_tab) hamb ⟨by decide, [], Nta0 z0 g0 n0 ga kx (mwLaw (xwLaw y (gwLaw (subLaw z0 (addO (16 * j) 0) 16))) kx) l1 _, rfl, Nta0_ok trivial, ?_⟩
  · have h1 := hy.len
    have h2 := hw.len
    have h3 := e.pk.len
    have h4 := hy.xw hw
    simp only [allP, Con.h, h1, h2, h3, h4, hy, hw, e.pk, and_true, true_and]
  rw [Nta0_fm, Nta0_tab, eb]
  show YWp eGh 30 9 [(l2, H2a0 z0 g0 n0 ga kx), (l1, H1a)] cnd79 _ _ _ _
  rw [cnd79_eq]
  exact YWp.cond (b := false) rfl (fun h => by cases h) (fun _ => YWp.skip hamb ⟨rfl, rfl, rfl⟩)
theorem chpa0 {z0 : List Int} {g0 n0 ga : Nat} {kx : List Int} (e : Exa z0 g0 n0 ga kx) {y : List Int} (hy : WpLaw y) (l1 l2 : Nat) {j r : Nat} (hr : r < 16) (hj : 16 * j + r = n0) :
    YWp eGh 30 9 [(l2, H2a0 z0 g0 n0 ga kx), (l1, H1a)] bd79 [(2, .var 6 0), (5, .slice 1 1 g0 (16 * j) r (some r))] (TNa0 z0 g0 n0 ga kx y l1) [(.busy, none), (.ready, none)] fun ex fm T σ => ex = .normal ∧ T = ((TNa0 z0 g0 n0 ga kx (mwLaw (xwLaw y (gwLaw (ckLaw z0 n0 j))) kx) l1) : Tab) ∧ σ = [(.busy, none), (.ready, none)] := by
  have hamb := amba0 z0 g0 n0 ga kx l1 l2
  have hambM := ambMa0 z0 g0 n0 ga kx l1 l2
  have hz := e.pz0
  have hbz := e.pb0
  have hcl := ck_len hz j
  have hcb := ck_bytes hbz n0 j
  have ex0 : (List.take r (dropO (addO (16 * j) 0) z0) ++ List.replicate (16 - (r : Int)).toNat 0) = (ckLaw z0 n0 j) := by
    rw [addO_eq, Nat.add_zero, dropO_eq, ck_part (by omega), show n0 - 16 * j = r by omega, show (16 - (r : Int)).toNat = 16 - r by omega]
  have eb : (subLaw (List.take r (dropO (addO (16 * j) 0) z0) ++ List.replicate (16 - (r : Int)).toNat 0) 0 16) = (ckLaw z0 n0 j) := by
    rw [ex0, take_sub, List.take_of_length_le (by omega)]
  have hw : WpLaw (gwLaw (subLaw (List.take r (dropO (addO (16 * j) 0) z0) ++ List.replicate (16 - (r : Int)).toNat 0) 0 16)) := by rw [eb]; exact .gw hcb hcl
  rw [bd79_eq]
  refine YWp.block (YWp.seq (YWp.yieldDrawn eGh_ok hmA (l1 := ops79.toList.take 12) (oy := ops79.toList.getD 12 default) (o2 := ops79.toList.getD 13 default) (by kernel_rfl) (ds1 := [some false]) (o1 := Dpa0 z0 g0 n0 ga kx y l1 l2 (16 * j) r) (by kernel_rfl) (by kernel_rfl) (by kernel_rfl) (by kernel_rfl) (by kernel_rfl) (by kernel_rfl) (Dpa0_ok ?_) (f := .tmp 15) (x := .tmp 26) (t := 27) (c := theCall (ops79.toList.getD 12 default)) (by kernel_rfl) (by kernel_rfl) (by kernel_rfl) (by kernel_rfl) (by kernel_rfl) (by kernel_rfl) (by decide) (i := 1) (l := l1) (H := H1a) (by rw [Dpa0_fm]; rfl) (v := .ints .u64 (gwLaw (subLaw (List.take r (dropO (addO (16 * j) 0) z0) ++ List.replicate (16 - (r : Int)).toNat 0) 0 16))) (by rw [Dpa0_fm]; rfl) rfl rfl (p := 9) rfl (by decide) (kk := 10) (by decide) (by rw [Dpa0_fm]; exact fmIn_of rfl) hamb ?_))
  · rw [ex0]
    simp only [allP, Con.h, addO_eq, Nat.add_zero, hcl, hcb, eq_self, true_and, and_true]
    omega
  rw [Dpa0_tab]
  refine YWp.ofTo (To.of (o := A6pa0 z0 g0 n0 ga kx y l1 (List.take r (dropO (addO (16 * j) 0) z0) ++ List.replicate (16 - (r : Int)).toNat 0) (gwLaw (subLaw (List.take r (dropO (addO (16 * j) 0) z0) ++ List.replicate (16 - (r : Int)).toNat 0) 0 16))) eGh_ok hmA (Nat.le_refl 10) OrcOk.nil rfl (A6pa0_ok ⟨hw.len, trivial⟩) A6pa0_ex A6pa0_fm A6pa0_tab) hambM ⟨rfl, rfl, ?_⟩
  refine YWp.ofTo (To.of (o := B6pa0 z0 g0 n0 ga kx y l1 (List.take r (dropO (addO (16 * j) 0) z0) ++ List.replicate (16 - (r : Int)).toNat 0) (gwLaw (subLaw (List.take r (dropO (addO (16 * j) 0) z0) ++ List.replicate (16 - (r : Int)).toNat 0) 0 16))) eGh_ok hmA (Nat.le_refl 10) OrcOk.nil rfl (B6pa0_ok ?_) B6pa0_ex B6pa0_fm B6pa0_tab) hambM ⟨by decide, [], Nqa0 z0 g0 n0 ga kx (mwLaw (xwLaw y (gwLaw (subLaw (List.take r (dropO (addO (16 * j) 0) z0) ++ List.replicate (16 - (r : Int)).toNat 0) 0 16))) kx) l1 (List.take r (dropO (addO (16 * j) 0) z0) ++ List.replicate (16 - (r : Int)).toNat 0) _, rfl, Nqa0_ok trivial, ?_⟩
  · have h1 := hy.len
    have h2 := hw.len
    have h3 := e.pk.len
    have h4 := hy.xw hw
    simp only [allP, Con.h, h1, h2, h3, h4, hy, hw, e.pk, and_true, true_and]
  rw [Nqa0_fm, Nqa0_tab, eb]
  show YWp eGh 30 9 [(l2, H2a0 z0 g0 n0 ga kx), (l1, H1a)] cnd79 _ _ _ _
  refine YWp.sub (f := [(28, .bool false)]) ⟨rfl, trivial⟩ ?_
  exact YWp.ofTo (To.of (k := 9) (o := Cpa0 z0 g0 n0 ga kx (mwLaw (xwLaw y (gwLaw (ckLaw z0 n0 j))) kx) l1 (List.take r (dropO (addO (16 * j) 0) z0) ++ List.replicate (16 - (r : Int)).toNat 0)) eGh_ok hmA (Nat.le_refl 9) OrcOk.nil rfl (Cpa0_ok trivial) Cpa0_ex Cpa0_fm Cpa0_tab) hamb ⟨rfl, rfl, rfl⟩
theorem cha0 {z0 : List Int} {g0 n0 ga : Nat} {kx : List Int} (e : Exa z0 g0 n0 ga kx) {y : List Int} (hy : WpLaw y) (l1 l2 : Nat) {j : Nat} (hj : 16 * j < n0) :
    YWp eGh 30 9 [(l2, H2a0 z0 g0 n0 ga kx), (l1, H1a)] bd79 [(2, .var 6 0), (5, .slice 1 1 g0 (16 * j) (min 16 (n0 - 16 * j)) (some (min 16 (n0 - 16 * j))))] (TNa0 z0 g0 n0 ga kx y l1) [(.busy, none), (.ready, none)] fun ex fm T σ => ex = .normal ∧ T = ((TNa0 z0 g0 n0 ga kx (mwLaw (xwLaw y (gwLaw (ckLaw z0 n0 j))) kx) l1) : Tab) ∧ σ = [(.busy, none), (.ready, none)] := by
  by_cases h : 16 * j + 16 ≤ n0
  · rw [show min 16 (n0 - 16 * j) = 16 by omega]
    exact chfa0 e hy l1 l2 h
  · exact chpa0 e hy l1 l2 (by omega) (by omega)
theorem rda0 {z0 : List Int} {g0 n0 ga : Nat} {kx : List Int} (e : Exa z0 g0 n0 ga kx) {y : List Int} (hy : WpLaw y) (l1 l2 : Nat) {j : Nat} (hj : 16 * j < n0) :
    YWp eGh 31 9 [(l2, H2a0 z0 g0 n0 ga kx), (l1, H1a)] (roundOf 0 f81) [(0, .func (.yield l2) [] []), (1, .var 7 0), (2, .var 8 0), (4, .int .i64 ((16 * j : Nat) : Int))] (TNa0 z0 g0 n0 ga kx y l1) [(.ready, none), (.ready, none)] fun ex fm T σ => ex = .normal ∧ fm = [(0, .func (.yield l2) [] []), (1, .var 7 0), (2, .var 8 0), (4, .int .i64 ((16 * (j + 1) : Nat) : Int))] ∧ T = ((TNa0 z0 g0 n0 ga kx (mwLaw (xwLaw y (gwLaw (ckLaw z0 n0 j))) kx) l1) : Tab) ∧ σ = [(.ready, none), (.ready, none)] := by
  have hamb := amba0 z0 g0 n0 ga kx l1 l2
  have hz := e.pz0
  have hm := e.pm0
  skip
  have er : (if (↑(subO n0 ((16 * j : Nat) : Int).toNat) : Int) < 16 then (↑(subO n0 ((16 * j : Nat) : Int).toNat) : Int) else 16) = ((min 16 (n0 - 16 * j) : Nat) : Int) := by
    rw [Int.toNat_natCast, subO_eq, min16]
  have e1 : ((16 * j : Nat) : Int).toNat = 16 * j := Int.toNat_natCast _
  have e2 : subO (((16 * j : Nat) : Int) + ((min 16 (n0 - 16 * j) : Nat) : Int)).toNat (16 * j) = min 16 (n0 - 16 * j) := by rw [subO_eq]; omega
  rw [split81]
  refine YWp.seq (YWp.ofTo (To.of (o := Hya0 z0 g0 n0 ga kx y l1 l2 ((16 * j : Nat) : Int)) eGh_ok hmA (Nat.le_refl 9) OrcOk.nil rfl (Hya0_ok ?_) Hya0_ex Hya0_fm Hya0_tab) hamb ?_)
  · simp only [allP, Con.h, decide_eq_true_eq, eq_self, true_and, and_true]; omega
  refine YWp.seq (YWp.block (YWp.seq (YWp.ofTo (To.of (o := Msa0 z0 g0 n0 ga kx y l1 l2 ((16 * j : Nat) : Int)) (fm' := [(0, .func (.yield l2) [] []), (1, .var 7 0), (2, .var 8 0), (4, .int .i64 ((16 * j : Nat) : Int))] ++ [(5, .int .i64 ((min 16 (n0 - 16 * j) : Nat) : Int))]) eGh_ok hmA (Nat.le_refl 9) OrcOk.nil rfl (Msa0_ok ?_) Msa0_ex (by rw [Msa0_fm, er]; rfl) Msa0_tab) hamb ?_)))
  · simp only [allP, Con.h, eq_self, true_and, and_true]; omega
  refine YWp.seq (YWp.yieldRegion eGh_ok (l1 := ops81.toList.take 10) (l2 := ops81.toList.drop 11) (oy := ops81.toList.getD 10 default) (by kernel_rfl) (ds1 := []) (o1 := Yaa0 z0 g0 n0 ga kx y l1 l2 ((16 * j : Nat) : Int) ((min 16 (n0 - 16 * j) : Nat) : Int)) (by kernel_rfl) (Yaa0_ok ?_) (f := .tmp 19) (x := .tmp 28) (t := 29) (c := theCall (ops81.toList.getD 10 default)) (by kernel_rfl) (by kernel_rfl) (by kernel_rfl) (by kernel_rfl) (by kernel_rfl) (by decide) (i := 0) (l := l2) (H := H2a0 z0 g0 n0 ga kx) (by rw [Yaa0_fm]; rfl) (v := .slice 1 1 g0 (16 * j) (min 16 (n0 - 16 * j)) (some (min 16 (n0 - 16 * j)))) (by rw [Yaa0_fm, e1, e2]; rfl) rfl rfl (p := 14) rfl (show 14 < 30 by decide) (kk := 9) (Nat.le_refl _) (by rw [Yaa0_fm]; exact fmIn_of rfl) hamb ?_)
  · simp only [allP, Con.h, eq_self, true_and, and_true]; omega
  rw [Yaa0_tab]
  refine YWp.ofTo (To.of (o := Asa0 z0 g0 n0 ga kx y l1 l2 (16 * j) (min 16 (n0 - 16 * j))) eGh_ok hmA (Nat.le_refl 9) OrcOk.nil rfl (Asa0_ok trivial) Asa0_ex Asa0_fm Asa0_tab) hamb ⟨rfl, rfl, ?_⟩
  refine YWp.mono (cha0 e hy l1 l2 hj) fun ex fm T σ hP => ?_
  obtain ⟨rfl, rfl, rfl⟩ := hP
  refine ⟨by decide, [], Nua0 z0 g0 n0 ga kx (mwLaw (xwLaw y (gwLaw (ckLaw z0 n0 j))) kx) l1 _, rfl, Nua0_ok trivial, ?_⟩
  rw [Nua0_fm, Nua0_tab, Yaa0_fm]
  show YWp eGh 31 9 [(l2, H2a0 z0 g0 n0 ga kx), (l1, H1a)] cnd81 _ _ _ _
  rw [cnd81_eq]
  refine YWp.cond (b := false) rfl (fun h => by cases h) (fun _ => YWp.skip hamb ?_)
  show YWp eGh 31 9 [(l2, H2a0 z0 g0 n0 ga kx), (l1, H1a)] r81 _ _ _ _
  refine YWp.sub (f := [(0, .func (.yield l2) [] []), (1, .var 7 0), (2, .var 8 0), (4, .int .i64 ((16 * j : Nat) : Int))]) ⟨rfl, rfl, rfl, rfl, trivial⟩ ?_
  refine YWp.ofTo (To.of (o := Rba0 z0 g0 n0 ga kx _ l1 l2 ((16 * j : Nat) : Int)) eGh_ok hmA (Nat.le_refl 9) OrcOk.nil rfl (Rba0_ok ?_) Rba0_ex Rba0_fm Rba0_tab) hamb ⟨rfl, ?_, rfl, rfl⟩
  · simp only [allP, Con.h, and_true]; omega
  · rw [show ((16 * j : Nat) : Int) + 16 = ((16 * (j + 1) : Nat) : Int) by omega]
theorem ina0 {z0 : List Int} {g0 n0 ga : Nat} {kx : List Int} (e : Exa z0 g0 n0 ga kx) {y : List Int} (hy : WpLaw y) (l1 l2 : Nat) :
    YWp eGh 31 9 [(l2, H2a0 z0 g0 n0 ga kx), (l1, H1a)] (bodyOf f81) (argF ([] ++ (.func (.yield l2) [] [] :: [.var 7 0, .var 8 0])) 0) (TNa0 z0 g0 n0 ga kx y l1) [(.ready, none), (.ready, none)] fun ex fm' T' σ' =>
      (ex = .normal ∨ ex = .ret) ∧ (∃ cs us, aRes eGh fm' T' f81.results.toList = some (cs, us) ∧ allP cs) ∧ ∃ st σ2, σ' = st :: σ2 ∧ st.1 ≠ .busy ∧
        match st.2 with
        | none => AExit.normal = .normal ∧ [(1, .var 5 0), (2, .var 6 0), (6, .slice 1 0 ga 0 1 (some 1)), (7, .int .i64 1), (8, .int .i64 0), (13, .func (.func 81) [] [.var 7 0, .var 8 0])] = (H2a0 z0 g0 n0 ga kx).fm ∧ T' = (TNa0 z0 g0 n0 ga kx (hsLaw kx y z0 n0) l1) ∧ σ2 = [(.ready, none)]
        | some (.exit id) => AExit.exit id = .normal ∧ [(1, .var 5 0), (2, .var 6 0), (6, .slice 1 0 ga 0 1 (some 1)), (7, .int .i64 1), (8, .int .i64 0), (13, .func (.func 81) [] [.var 7 0, .var 8 0])] = (H2a0 z0 g0 n0 ga kx).fm ∧ T' = (TNa0 z0 g0 n0 ga kx (hsLaw kx y z0 n0) l1) ∧ σ2 = [(.ready, none)]
        | some .ret => AExit.ret = .normal ∧ [(1, .var 5 0), (2, .var 6 0), (6, .slice 1 0 ga 0 1 (some 1)), (7, .int .i64 1), (8, .int .i64 0), (13, .func (.func 81) [] [.var 7 0, .var 8 0])] = (H2a0 z0 g0 n0 ga kx).fm ∧ T' = (TNa0 z0 g0 n0 ga kx (hsLaw kx y z0 n0) l1) ∧ σ2 = [(.ready, none)]
        | _ => False := by
  have hamb := amba0 z0 g0 n0 ga kx l1 l2
  rw [splitb81, res81]
  refine YWp.seq (YWp.ofTo (To.of (o := Zsa0 z0 g0 n0 ga kx y l1 l2) eGh_ok hmA (Nat.le_refl 9) OrcOk.nil rfl (Zsa0_ok trivial) Zsa0_ex Zsa0_fm Zsa0_tab) hamb ?_)
  refine YWp.block (YWp.loop (fun fm T σ μ => ∃ j, 16 * j < n0 + 16 ∧ μ = n0 + 16 - j ∧ fm = [(0, .func (.yield l2) [] []), (1, .var 7 0), (2, .var 8 0), (4, .int .i64 ((16 * j : Nat) : Int))] ∧ T = (TNa0 z0 g0 n0 ga kx (hyLaw kx y z0 n0 j) l1) ∧ σ = [(.ready, none), (.ready, none)]) (n0 + 16) ⟨0, by omega, rfl, rfl, rfl, rfl⟩ ?_)
  rintro fm T σ μ ⟨j, hj, rfl, rfl, rfl, rfl⟩
  by_cases h : 16 * j < n0
  · refine YWp.mono (rda0 e (hy_wp hy e.pz0 e.pb0 j) l1 l2 h) fun ex fm T σ hP => ?_
    obtain ⟨rfl, rfl, rfl, rfl⟩ := hP
    exact ⟨n0 + 16 - (j + 1), by omega, j + 1, by omega, rfl, rfl, rfl, rfl⟩
  · rw [split81]
    refine YWp.seq (YWp.ofTo (To.of (o := Hna0 z0 g0 n0 ga kx (hyLaw kx y z0 n0 j) l1 l2 ((16 * j : Nat) : Int)) eGh_ok hmA (Nat.le_refl 9) OrcOk.nil rfl (Hna0_ok ?_) Hna0_ex Hna0_fm Hna0_tab) hamb ?_)
    · simp only [allP, Con.h, decide_eq_false_iff_not, eq_self, true_and, and_true]; omega
    obtain rfl : j = (n0 + 15) / 16 := by omega
    exact ⟨.inl rfl, ⟨[], [], rfl, trivial⟩, (.ready, none), _, rfl, by decide, rfl, rfl, rfl, rfl⟩
theorem roa0 {z0 : List Int} {g0 n0 ga : Nat} {kx : List Int} (e : Exa z0 g0 n0 ga kx) {y : List Int} (hy : WpLaw y) (l1 : Nat) :
    YWp eGh 30 6 [(l1, H1a)] (roundOf 0 f79) [(1, .var 5 0), (2, .var 6 0), (6, .slice 1 0 ga 0 1 (some 1)), (7, .int .i64 1), (8, .int .i64 0)] (TPa z0 g0 n0 ga kx y l1) [(.ready, none)] fun ex fm T σ => ex = .normal ∧ fm = [(1, .var 5 0), (2, .var 6 0), (6, .slice 1 0 ga 0 1 (some 1)), (7, .int .i64 1), (8, .int .i64 1)] ∧ T = ((TPa z0 g0 n0 ga kx (hsLaw kx y z0 n0) l1) : Tab) ∧ σ = [(.ready, none)] := by
  have hamb : ambIn 6 [(l1, H1a)] := ambIn_one rfl
  rw [split79]
  refine YWp.seq (YWp.ofTo (To.base (by decide) (To.of (o := Hda0 z0 g0 n0 ga kx y l1) eGh_ok hmA (Nat.le_refl 7) OrcOk.nil rfl (Hda0_ok trivial) Hda0_ex Hda0_fm Hda0_tab)) hamb ?_)
  refine YWp.seq ?_
  rw [c79_eq]
  refine YWp.cond (b := true) rfl (fun _ => YWp.skip hamb ?_) (fun h => by cases h)
  refine YWp.sub (f := [(1, .var 5 0), (2, .var 6 0), (6, .slice 1 0 ga 0 1 (some 1)), (7, .int .i64 1), (8, .int .i64 0)]) ⟨rfl, rfl, rfl, rfl, rfl, trivial⟩ ?_
  refine YWp.seq (YWp.block (YWp.seq (YWp.ofTo (To.base (by decide) (To.of (o := Paa0 z0 g0 n0 ga kx y l1) eGh_ok hmA (Nat.le_refl 7) OrcOk.nil rfl (Paa0_ok ⟨rfl, rfl, trivial⟩) Paa0_ex Paa0_fm Paa0_tab)) hamb ?_)))
  refine YWp.sub (f := ((4, .slice 1 1 g0 0 n0 none) :: [(1, .var 5 0), (2, .var 6 0), (6, .slice 1 0 ga 0 1 (some 1)), (7, .int .i64 1), (8, .int .i64 0)])) ⟨rfl, rfl, rfl, rfl, rfl, rfl, trivial⟩ ?_
  refine YWp.seq (YWp.ofTo (To.base (by decide) (To.of (k := 7) (o := Pba0 z0 g0 n0 ga kx y l1) eGh_ok hmA (Nat.le_refl 7) OrcOk.nil rfl (Pba0_ok ⟨rfl, trivial⟩) Pba0_ex Pba0_fm Pba0_tab)) hamb ?_)
  refine YWp.block ?_
  rw [rf79_eq]
  refine YWp.mono (YWp.rangeFunc (post := fun ex fm T' σ' => ex = .normal ∧ fm = (H2a0 z0 g0 n0 ga kx).fm ∧ T' = (TNa0 z0 g0 n0 ga kx (hsLaw kx y z0 n0) l1) ∧ σ' = [(.ready, none)]) eGh_ok (gf := 81) (gfn := f81) (c := bodyOf f81) (first := []) (caps := [.var 7 0, .var 8 0]) rfl (by kernel_rfl) (by kernel_rfl) (by kernel_rfl) (kk := 9) (by decide) (fmIn_of rfl) (by kernel_rfl) (fun l2 => ina0 e hy l1 l2)) fun ex fm T σ hP => ?_
  obtain ⟨rfl, rfl, rfl, rfl⟩ := hP
  show YWp eGh 30 6 [(l1, H1a)] r79 _ _ _ _
  exact YWp.ofTo (To.base (by decide) (To.of (k := 7) (o := Rra0 z0 g0 n0 ga kx (hsLaw kx y z0 n0) l1) eGh_ok hmA (Nat.le_refl 7) OrcOk.nil rfl (Rra0_ok trivial) Rra0_ex Rra0_fm Rra0_tab)) hamb ⟨rfl, rfl, rfl, rfl⟩
theorem outa {z0 : List Int} {g0 n0 ga : Nat} {kx : List Int} (e : Exa z0 g0 n0 ga kx) (l1 : Nat) : YWp eGh 30 6 [(l1, H1a)] (bodyOf f79) (argF ([] ++ (.func (.yield l1) [] [] :: [.var 5 0])) 0) (TBa z0 g0 n0 ga kx [0, 0]) [(.ready, none)] fun ex fm' T' σ' =>
      (ex = .normal ∨ ex = .ret) ∧ (∃ cs us, aRes eGh fm' T' f79.results.toList = some (cs, us) ∧ allP cs) ∧ ∃ st σ2, σ' = st :: σ2 ∧ st.1 ≠ .busy ∧
        match st.2 with
        | none => (AExit.normal = .normal ∨ AExit.normal = .exit 0) ∧ [(2, .var 2 0), (4, .var 3 0), (5, .var 4 0), (8, .func (.func 79) [] [.var 5 0])] = H1a.fm ∧ T' = (TBa z0 g0 n0 ga kx (hsLaw kx [0, 0] z0 n0))
        | some (.exit id) => (AExit.exit id = .normal ∨ AExit.exit id = .exit 0) ∧ [(2, .var 2 0), (4, .var 3 0), (5, .var 4 0), (8, .func (.func 79) [] [.var 5 0])] = H1a.fm ∧ T' = (TBa z0 g0 n0 ga kx (hsLaw kx [0, 0] z0 n0))
        | some .ret => (AExit.ret = .normal ∨ AExit.ret = .exit 0) ∧ [(2, .var 2 0), (4, .var 3 0), (5, .var 4 0), (8, .func (.func 79) [] [.var 5 0])] = H1a.fm ∧ T' = (TBa z0 g0 n0 ga kx (hsLaw kx [0, 0] z0 n0))
        | _ => False := by
  have hamb : ambIn 6 [(l1, H1a)] := ambIn_one rfl
  have w0 := WpLaw.zero
  have w1 := hs_wp (h := kx) w0 e.pz0 e.pb0
  rw [splitb79, res79]
  refine YWp.seq (YWp.ofTo (To.of (k := 6) (o := Saa z0 g0 n0 ga kx l1) eGh_ok hmA (Nat.le_refl 6) OrcOk.nil rfl (Saa_ok trivial) Saa_ex Saa_fm Saa_tab) hamb ?_)
  refine YWp.seq (YWp.ofTo (To.base (by decide) (To.of (k := 7) (o := Sba z0 g0 n0 ga kx l1) eGh_ok hmA (Nat.le_refl 7) OrcOk.nil rfl (Sba_ok ⟨rfl, trivial⟩) Sba_ex Sba_fm Sba_tab)) hamb ?_)
  refine YWp.block (YWp.loop (fun fm T σ μ => σ = [(.ready, none)] ∧ ((μ = 1 ∧ fm = [(1, .var 5 0), (2, .var 6 0), (6, .slice 1 0 ga 0 1 (some 1)), (7, .int .i64 1), (8, .int .i64 0)] ∧ T = (TPa z0 g0 n0 ga kx [0, 0] l1)) ∨ (μ = 0 ∧ fm = [(1, .var 5 0), (2, .var 6 0), (6, .slice 1 0 ga 0 1 (some 1)), (7, .int .i64 1), (8, .int .i64 1)] ∧ T = (TPa z0 g0 n0 ga kx (hsLaw kx [0, 0] z0 n0) l1)))) 1 ⟨rfl, .inl ⟨rfl, rfl, rfl⟩⟩ ?_)
  rintro fm T σ μ ⟨rfl, hI⟩
  rcases hI with ⟨rfl, rfl, rfl⟩ | ⟨rfl, rfl, rfl⟩
  · refine YWp.mono (roa0 e w0 l1) fun ex fm T σ hP => ?_
    obtain ⟨rfl, rfl, rfl, rfl⟩ := hP
    exact ⟨0, by decide, rfl, .inr (⟨rfl, rfl, rfl⟩)⟩
  · rw [split79]
    refine YWp.seq (YWp.ofTo (To.of (k := 6) (o := Hda1 z0 g0 n0 ga kx (hsLaw kx [0, 0] z0 n0) l1) eGh_ok hmA (Nat.le_refl 6) OrcOk.nil rfl (Hda1_ok trivial) Hda1_ex Hda1_fm Hda1_tab) hamb ?_)
    refine YWp.seq ?_
    rw [c79_eq]
    refine YWp.cond (b := false) rfl (fun h => by cases h) (fun _ => YWp.exit hamb ?_)
    exact ⟨.inl rfl, ⟨[], [], rfl, trivial⟩, (.ready, none), _, rfl, by decide, .inl rfl, rfl, rfl⟩
theorem blk63a {z0 : List Int} {g0 n0 ga : Nat} {kx : List Int} (e : Exa z0 g0 n0 ga kx) : To eGh 16 6 (.block 0 rf63) [(2, .var 2 0), (4, .var 3 0), (5, .var 4 0), (8, .func (.func 79) [] [.var 5 0])] (TBa z0 g0 n0 ga kx [0, 0]) .normal [(2, .var 2 0), (4, .var 3 0), (5, .var 4 0), (8, .func (.func 79) [] [.var 5 0])] (TBa z0 g0 n0 ga kx (hsLaw kx [0, 0] z0 n0)) := by
  refine AWp.block (AWp.ofY ?_)
  rw [rf63_eq]
  refine YWp.mono (YWp.rangeFunc (post := fun ex fm T' σ' => (ex = .normal ∨ ex = .exit 0) ∧ fm = H1a.fm ∧ T' = (TBa z0 g0 n0 ga kx (hsLaw kx [0, 0] z0 n0))) eGh_ok (gf := 79) (gfn := f79) (c := bodyOf f79) (first := []) (caps := [.var 5 0]) rfl (by kernel_rfl) (by kernel_rfl) (by kernel_rfl) (kk := 6) (Nat.le_refl _) (fmIn_of rfl) (by kernel_rfl) (fun l => outa e l)) fun ex fm T σ hP => ?_
  obtain ⟨h1, rfl, rfl⟩ := hP
  rcases h1 with rfl | rfl
  · exact ⟨rfl, rfl, rfl⟩
  · exact ⟨rfl, rfl, rfl⟩
noncomputable def g63ac (vs : List AVal) (T : Tab) (z0 : List Int) (g0 : Nat) (n0 : Nat) (ga : Nat) (kx : List Int) : Out := ⟨[.tab T [some ⟨.agg [.slice 1 1 g0 0 n0 none], ga, false, 25⟩, some ⟨.ints .u8 z0, g0, false, 5⟩, some ⟨.ints .u64 kx, 0, true, 65⟩, some ⟨.ints .u64 [0, 0], 0, true, 65⟩, some ⟨.ints .u64 [0, 0], 0, true, 65⟩, some ⟨.agg [.slice 1 0 ga 0 1 (some 1)], 0, true, 81⟩], .val (.tuple vs) (.tuple [.var 2 0, .var 3 0, .var 4 0, .func (.func 79) [] [.var 5 0]]), .leN n0 z0.length, .leN n0 140737488352000, .p (Bytes z0), .p (WpLaw kx)], .normal, [(2, .var 2 0), (4, .var 3 0), (5, .var 4 0), (8, .func (.func 79) [] [.var 5 0])], [some ⟨.agg [.slice 1 1 g0 0 n0 none], ga, false, 25⟩, some ⟨.ints .u8 z0, g0, false, 5⟩, some ⟨.ints .u64 kx, 0, true, 65⟩, some ⟨.ints .u64 [0, 0], 0, true, 65⟩, some ⟨.ints .u64 (hsLaw kx [0, 0] z0 n0), 0, true, 65⟩, some ⟨.agg [.slice 1 0 ga 0 1 (some 1)], 0, true, 81⟩], []⟩
theorem g63ac_ok {vs : List AVal} {T : Tab} {z0 : List Int} {g0 : Nat} {n0 : Nat} {ga : Nat} {kx : List Int} (h : Ok (g63ac vs T z0 g0 n0 ga kx)) : To eGh 16 6 (.block 0 rf63) (zipF [2,4,5,8] vs) T (g63ac vs T z0 g0 n0 ga kx).ex (g63ac vs T z0 g0 n0 ga kx).fm (g63ac vs T z0 g0 n0 ga kx).tab := by
  obtain ⟨hT, hv, h1, h2, h3, h4, _⟩ := h.h
  simp only [Con.h] at hT hv h1 h2 h3 h4
  injection hv with hv
  subst hT hv
  exact blk63a ⟨h1, h2, h3, h4⟩
noncomputable def g63a : List AVal → Tab → Out := fun vs T => g63ac vs T (xsAt T 1) (gAt T 1) (lenOf (cAt T 0 0)) (gAt T 0) (xsAt T 2)
theorem g63a_ok : BlkOk eGh f63 0 rf63 (blkS 6 [2,4,5,8] g63a) := blkS_ok fun vs T h => g63ac_ok h
noncomputable def orc63a : OrcL := [(0, blkS 6 [2,4,5,8] g63a)]
theorem orc63a_ok : FnOrc eGh f63 orc63a := FnOrc.cons g63a_ok (by kernel_rfl) FnOrc.nil
noncomputable def R63a (z0 : List Int) (g0 n0 ga : Nat) (kx : List Int) : Res := resG 2 [0, 1] (runF eGh f63 orc63a 400 [.ints .u64 kx, .slice 1 0 ga 0 1 (some 1)] [some ⟨.agg [.slice 1 1 g0 0 n0 none], ga, false, 25⟩, some ⟨.ints .u8 z0, g0, false, 5⟩] [])
theorem R63a_ok {z0 : List Int} {g0 n0 ga : Nat} {kx : List Int} (h : allP [.eqN ga ga, .eqN g0 g0, .leN n0 z0.length, .leN n0 140737488352000, .p (Bytes z0), .p (WpLaw kx), .eqN (hsLaw kx [0, 0] z0 n0).length 2, .eqN (hsLaw kx [0, 0] z0 n0).length 2, .eqN (hsLaw kx [0, 0] z0 n0).length 2]) : OkR (R63a z0 g0 n0 ga kx) := OkR.dem (fl := bitsF 16 29952) (by kernel_rfl) (by kernel_rfl) (by kernel_rfl)
 h
theorem R63a_val {z0 : List Int} {g0 n0 ga : Nat} {kx : List Int} : (R63a z0 g0 n0 ga kx).val = .ints .u64 (hsLaw kx [0, 0] z0 n0) := by kernel_rfl
theorem R63a_tab {z0 : List Int} {g0 n0 ga : Nat} {kx : List Int} : (R63a z0 g0 n0 ga kx).tab = [some ⟨.agg [.slice 1 1 g0 0 n0 none], ga, false, 25⟩, some ⟨.ints .u8 z0, g0, false, 5⟩] := by kernel_rfl
noncomputable def sm63ac (args : List AVal) (T : Tab) (z0 : List Int) (g0 : Nat) (n0 : Nat) (ga : Nat) (kx : List Int) : Res := ⟨[.tab T [some ⟨.agg [.slice 1 1 g0 0 n0 none], ga, false, 25⟩, some ⟨.ints .u8 z0, g0, false, 5⟩], .val (.tuple args) (.tuple [.ints .u64 kx, .slice 1 0 ga 0 1 (some 1)]), .leN n0 z0.length, .leN n0 140737488352000, .p (Bytes z0), .p (WpLaw kx)], .ints .u64 (hsLaw kx [0, 0] z0 n0), [some ⟨.agg [.slice 1 1 g0 0 n0 none], ga, false, 25⟩, some ⟨.ints .u8 z0, g0, false, 5⟩]⟩
theorem sm63ac_ok {args : List AVal} {T : Tab} {z0 : List Int} {g0 : Nat} {n0 : Nat} {ga : Nat} {kx : List Int} (h : allP (sm63ac args T z0 g0 n0 ga kx).cs) : Small prog (fun _ => none) 63 args T (sm63ac args T z0 g0 n0 ga kx).val (sm63ac args T z0 g0 n0 ga kx).tab := by
  obtain ⟨hT, hv, h1, h2, h3, h4, _⟩ := h
  simp only [Con.h] at hT hv h1 h2 h3 h4
  injection hv with hv
  subst hT hv
  have w0 := WpLaw.zero
  have w1 := hs_wp (h := kx) w0 h1 h3
  refine small_ofG (R := R63a z0 g0 n0 ga kx) (keep := [0, 1]) eGh_ok hmA (f := 63) (fn := f63) (by kernel_rfl) (by kernel_rfl) orc63a_ok rfl (R63a_ok ?_) R63a_val R63a_tab
  have hl := w1.len
  have hk := h4.len
  simp only [allP, Con.h, hl, hk, h1, h2, h3, h4, eq_self, true_and, and_true]
noncomputable def sm63a : Summary := fun args T => sm63ac args T (xsAt T 1) (gAt T 1) (lenOf (cAt T 0 0)) (gAt T 0) (xsOf (vAt args 0))
theorem sm63a_ok : SmOk prog (fun _ => none) 63 sm63a := fun args T h => sm63ac_ok h
end Go.Abs

set_option linter.unusedVariables false
set_option linter.unusedSimpArgs false
set_option maxRecDepth 8000
namespace Go.Abs
open Go.Proofs.Try
/-! ### what the program offers: Times, Hash, Seal, Open -/
noncomputable def sm63 : Summary := fun args T => match lenOf (vAt args 1) with
  | 1 => sm63a args T
  | _ => sm63c args T
theorem sm63_ok : SmOk prog (fun _ => none) 63 sm63 := fun args T h => by
  unfold sm63 at h ⊢
  split at h
  · exact sm63a_ok args T h
  · exact sm63c_ok args T h
noncomputable def S63 : Summary := callR sm63 []
theorem S63_ok : SumOk prog (fun _ => none) 63 S63 := callR_ok sm63_ok []
noncomputable def S58 : Summary := sumI modeO (eA []) f58 [] 100 [] []
theorem S58_ok : SumOk prog (fun _ => none) 58 S58 := sumI_ok eA0_ok hmA (fn := f58) (by kernel_rfl) (by kernel_rfl) [] FnOrc.nil 100 [] []
noncomputable def eGp : Env := eA [(54, S54), (55, S55), (59, S59), (60, S60), (61, S61), (63, S63), (58, S58)]
theorem eGp_ok : EnvOk eGp := envOf_ok tysA_ok (SumsOk.cons (fn := f54) S54_ok (by kernel_rfl) (by kernel_rfl) (by kernel_rfl) (SumsOk.cons (fn := f55) S55_ok (by kernel_rfl) (by kernel_rfl) (by kernel_rfl) (SumsOk.cons (fn := f59) S59_ok (by kernel_rfl) (by kernel_rfl) (by kernel_rfl) (SumsOk.cons (fn := f60) S60_ok (by kernel_rfl) (by kernel_rfl) (by kernel_rfl) (SumsOk.cons (fn := f61) S61_ok (by kernel_rfl) (by kernel_rfl) (by kernel_rfl) (SumsOk.cons (fn := f63) S63_ok (by kernel_rfl) (by kernel_rfl) (by kernel_rfl) (SumsOk.cons (fn := f58) S58_ok (by kernel_rfl) (by kernel_rfl) (by kernel_rfl) trivial)))))))
noncomputable def R35ns (zs bs : List Int) (g0 g1 : Nat) : Res := resG 2 [0,1,2] (runF eGp f35 [] 400 [.slice 1 0 g0 0 16 none, .slice 1 1 g1 0 16 (some 16)] [some ⟨.ints .u8 zs, g0, false, 5⟩, some ⟨.ints .u8 bs, g1, false, 5⟩] [some false, some false])
theorem R35ns_ok {zs bs : List Int} {g0 g1 : Nat} (h : allP [.eqN g0 g0, .p (false = false), .eqN g1 g1, .p (false = false), .eqN g0 g0, .leN 16 zs.length, .p (Bytes zs), .eqN g1 g1, .leN 16 bs.length, .p (Bytes bs), .p (WpLaw (gwLaw (subLaw zs 0 16))), .p (WpLaw (gwLaw (subLaw bs 0 16))), .p (WpLaw (mwLaw (gwLaw (subLaw zs 0 16)) (gwLaw (subLaw bs 0 16))))]) : OkR (R35ns zs bs g0 g1) := OkR.dem
 (fl := bitsF 23 33280) (by kernel_rfl) (by kernel_rfl) (by kernel_rfl) h
theorem R35ns_val {zs bs : List Int} {g0 g1 : Nat} : (R35ns zs bs g0 g1).val = .tuple [.slice 1 2 15 0 16 none, .int .i64 0] := by kernel_rfl
theorem R35ns_tab {zs bs : List Int} {g0 g1 : Nat} : (R35ns zs bs g0 g1).tab = [some ⟨.ints .u8 zs, g0, false, 5⟩, some ⟨.ints .u8 bs, g1, false, 5⟩, some ⟨.ints .u8 (ptLaw (mwLaw (gwLaw (subLaw zs 0 16)) (gwLaw (subLaw bs 0 16)))), 15, true, 5⟩] := by kernel_rfl
noncomputable def R35sn (zs bs : List Int) (g0 g1 : Nat) : Res := resG 2 [0,1,2] (runF eGp f35 [] 400 [.slice 1 0 g0 0 16 (some 16), .slice 1 1 g1 0 16 none] [some ⟨.ints .u8 zs, g0, false, 5⟩, some ⟨.ints .u8 bs, g1, false, 5⟩] [some false, some false])
theorem R35sn_ok {zs bs : List Int} {g0 g1 : Nat} (h : allP [.eqN g0 g0, .p (false = false), .eqN g1 g1, .p (false = false), .eqN g0 g0, .leN 16 zs.length, .p (Bytes zs), .eqN g1 g1, .leN 16 bs.length, .p (Bytes bs), .p (WpLaw (gwLaw (subLaw zs 0 16))), .p (WpLaw (gwLaw (subLaw bs 0 16))), .p (WpLaw (mwLaw (gwLaw (subLaw zs 0 16)) (gwLaw (subLaw bs 0 16))))]) : OkR (R35sn zs bs g0 g1) := OkR.dem
 (fl := bitsF 23 33280) (by kernel_rfl) (by kernel_rfl) (by kernel_rfl) h
theorem R35sn_val {zs bs : List Int} {g0 g1 : Nat} : (R35sn zs bs g0 g1).val = .tuple [.slice 1 2 15 0 16 none, .int .i64 0] := by kernel_rfl
theorem R35sn_tab {zs bs : List Int} {g0 g1 : Nat} : (R35sn zs bs g0 g1).tab = [some ⟨.ints .u8 zs, g0, false, 5⟩, some ⟨.ints .u8 bs, g1, false, 5⟩, some ⟨.ints .u8 (ptLaw (mwLaw (gwLaw (subLaw zs 0 16)) (gwLaw (subLaw bs 0 16)))), 15, true, 5⟩] := by kernel_rfl
noncomputable def R35ss (zs bs : List Int) (g0 g1 : Nat) : Res := resG 2 [0,1,2] (runF eGp f35 [] 400 [.slice 1 0 g0 0 16 (some 16), .slice 1 1 g1 0 16 (some 16)] [some ⟨.ints .u8 zs, g0, false, 5⟩, some ⟨.ints .u8 bs, g1, false, 5⟩] [some false, some false])
theorem R35ss_ok {zs bs : List Int} {g0 g1 : Nat} (h : allP [.eqN g0 g0, .p (false = false), .eqN g1 g1, .p (false = false), .eqN g0 g0, .leN 16 zs.length, .p (Bytes zs), .eqN g1 g1, .leN 16 bs.length, .p (Bytes bs), .p (WpLaw (gwLaw (subLaw zs 0 16))), .p (WpLaw (gwLaw (subLaw bs 0 16))), .p (WpLaw (mwLaw (gwLaw (subLaw zs 0 16)) (gwLaw (subLaw bs 0 16))))]) : OkR (R35ss zs bs g0 g1) := OkR.dem
 (fl := bitsF 23 33280) (by kernel_rfl) (by kernel_rfl) (by kernel_rfl) h
theorem R35ss_val {zs bs : List Int} {g0 g1 : Nat} : (R35ss zs bs g0 g1).val = .tuple [.slice 1 2 15 0 16 none, .int .i64 0] := by kernel_rfl
theorem R35ss_tab {zs bs : List Int} {g0 g1 : Nat} : (R35ss zs bs g0 g1).tab = [some ⟨.ints .u8 zs, g0, false, 5⟩, some ⟨.ints .u8 bs, g1, false, 5⟩, some ⟨.ints .u8 (ptLaw (mwLaw (gwLaw (subLaw zs 0 16)) (gwLaw (subLaw bs 0 16)))), 15, true, 5⟩] := by kernel_rfl
noncomputable def R37s (zs bs : List Int) (g0 g1 n1 : Nat) : Res := resG 3 [0,1,2,4] (runF eGp f37 [] 400 [.slice 1 0 g0 0 16 (some 16), .slice 1 2 g1 0 n1 none] [some ⟨.ints .u8 zs, g0, false, 5⟩, some ⟨.ints .u8 bs, g1, false, 5⟩, some ⟨.ints .u8 (List.take n1 bs), g1, false, 5⟩] [some false])
theorem R37s_ok {zs bs : List Int} {g0 g1 n1 : Nat} (h : allP [.eqN g0 g0, .p (false = false), .eqN g0 g0, .leN 16 zs.length, .p (Bytes zs), .eqN g1 g1, .leN n1 (List.take n1 bs).length, .leN n1 140737488352000, .p (Bytes (List.take n1 bs)), .p (WpLaw (gwLaw (subLaw zs 0 16))), .p (WpLaw (hsLaw (gwLaw (subLaw zs 0 16)) [0, 0] (List.take n1 bs) n1))]) : OkR (R37s zs bs g0 g1 n1) := OkR.dem (fl :=
 bitsF 22 3968) (by kernel_rfl) (by kernel_rfl) (by kernel_rfl) h
theorem R37s_val {zs bs : List Int} {g0 g1 n1 : Nat} : (R37s zs bs g0 g1 n1).val = .tuple [.slice 1 3 15 0 16 none, .int .i64 0] := by kernel_rfl
theorem R37s_tab {zs bs : List Int} {g0 g1 n1 : Nat} : (R37s zs bs g0 g1 n1).tab = [some ⟨.ints .u8 zs, g0, false, 5⟩, some ⟨.ints .u8 bs, g1, false, 5⟩, some ⟨.ints .u8 (List.take n1 bs), g1, false, 5⟩, some ⟨.ints .u8 (ptLaw (hsLaw (gwLaw (subLaw zs 0 16)) [0, 0] (List.take n1 bs) n1)), 15, true, 5⟩] := by kernel_rfl
noncomputable def R28A (zs ns : List Int) (gk gn : Nat) (cpk cpn : Option Nat) (ms ts : List Int) (gm gt n m : Nat) : Res := resG 4 [0,1,2,3,5] (runF eGp f28 [] 400 [.slice 1 0 gk 0 16 cpk, .slice 1 1 gn 0 12 cpn, .slice 1 2 gm 0 m none, .slice 1 3 gt 0 n none] [some ⟨.ints .u8 zs, gk, false, 5⟩, some ⟨.ints .u8 ns, gn, false, 5⟩, some ⟨.ints .u8 ms, gm, false, 5⟩, some ⟨.ints .u8 ts, gt, false, 5⟩] [some false, some false, some false, some false])
theorem R28A_ok {zs ns : List Int} {gk gn : Nat} {cpk cpn : Option Nat} {ms ts : List Int} {gm gt n m : Nat} (h : allP [.eqN gk gk, .p (false = false), .eqN gn gn, .p (false = false), .eqN gm gm, .p (decide (65536 < (↑m : Int)) = false), .eqN gt gt, .p (decide (65536 < (↑n : Int)) = false), .eqN gk gk, .eqN gn gn, .eqN gt gt, .leN 16 zs.length, .leN 12 ns.length, .p (Bytes zs), .p (Bytes ns), .leN
 n ts.length, .leN n 140737488352000, .p (Bytes ts), .eqN gk gk, .eqN gn gn, .eqN gm gm, .leN 16 zs.length, .leN 12 ns.length, .p (Bytes zs), .p (Bytes ns), .leN m ms.length, .leN m 140737488352000, .p (Bytes ms), .leN n (turnLaw (subLaw zs 0 16) (subLaw ns 0 12) (subLaw ts 0 n)).length, .leN n 140737488352000, .p (Bytes (turnLaw (subLaw zs 0 16) (subLaw ns 0 12) (subLaw ts 0 n))), .leN (0 + n)
 (turnLaw (subLaw zs 0 16) (subLaw ns 0 12) (subLaw ts 0 n)).length, .leN (addO n 16) 140737488355328]) : OkR (R28A zs ns gk gn cpk cpn ms ts gm gt n m) := OkR.dem (fl := bitsF 54 16044111253733120) (by kernel_rfl) (by kernel_rfl) (by kernel_rfl) h
theorem R28A_val {zs ns : List Int} {gk gn : Nat} {cpk cpn : Option Nat} {ms ts : List Int} {gm gt n m : Nat} : (R28A zs ns gk gn cpk cpn ms ts gm gt n m).val = .tuple [.slice 1 4 2 0 (addO n 16) none, .int .i64 0] := by kernel_rfl
theorem R28A_tab {zs ns : List Int} {gk gn : Nat} {cpk cpn : Option Nat} {ms ts : List Int} {gm gt n m : Nat} : (R28A zs ns gk gn cpk cpn ms ts gm gt n m).tab = [some ⟨.ints .u8 zs, gk, false, 5⟩, some ⟨.ints .u8 ns, gn, false, 5⟩, some ⟨.ints .u8 ms, gm, false, 5⟩, some ⟨.ints .u8 ts, gt, false, 5⟩, some ⟨.ints .u8 (List.take n (turnLaw (subLaw zs 0 16) (subLaw ns 0 12) (subLaw ts 0 n)) ++
 List.take 16 (tagLaw (subLaw zs 0 16) (subLaw ns 0 12) ms m (turnLaw (subLaw zs 0 16) (subLaw ns 0 12) (subLaw ts 0 n)) n)), 2, true, 5⟩] := by kernel_rfl
noncomputable def R28B (zs ns : List Int) (gk gn : Nat) (cpk cpn : Option Nat) (ts : List Int) (gt n : Nat) : Res := resG 4 [0,1,2,3,5] (runF eGp f28 [] 400 [.slice 1 0 gk 0 16 cpk, .slice 1 1 gn 0 12 cpn, .slice 1 3 0 0 0 none, .slice 1 2 gt 0 n none] [some ⟨.ints .u8 zs, gk, false, 5⟩, some ⟨.ints .u8 ns, gn, false, 5⟩, some ⟨.ints .u8 ts, gt, false, 5⟩, some ⟨.ints .u8 [], 0, true, 5⟩] [some false, some false, none, some false])
theorem R28B_ok {zs ns : List Int} {gk gn : Nat} {cpk cpn : Option Nat} {ts : List Int} {gt n : Nat} (h : allP [.eqN gk gk, .p (false = false), .eqN gn gn, .p (false = false), .eqN gt gt, .p (decide (65536 < (↑n : Int)) = false), .eqN gk gk, .eqN gn gn, .eqN gt gt, .leN 16 zs.length, .leN 12 ns.length, .p (Bytes zs), .p (Bytes ns), .leN n ts.length, .leN n 140737488352000, .p (Bytes ts), .eqN gk
 gk, .eqN gn gn, .leN 16 zs.length, .leN 12 ns.length, .p (Bytes zs), .p (Bytes ns), .p (Bytes []), .leN n (turnLaw (subLaw zs 0 16) (subLaw ns 0 12) (subLaw ts 0 n)).length, .leN n 140737488352000, .p (Bytes (turnLaw (subLaw zs 0 16) (subLaw ns 0 12) (subLaw ts 0 n))), .leN (0 + n) (turnLaw (subLaw zs 0 16) (subLaw ns 0 12) (subLaw ts 0 n)).length, .leN (addO n 16) 140737488355328]) : OkR (R28B zs
 ns gk gn cpk cpn ts gt n) := OkR.dem (fl := bitsF 53 8028661286567824) (by kernel_rfl) (by kernel_rfl) (by kernel_rfl) h
theorem R28B_val {zs ns : List Int} {gk gn : Nat} {cpk cpn : Option Nat} {ts : List Int} {gt n : Nat} : (R28B zs ns gk gn cpk cpn ts gt n).val = .tuple [.slice 1 4 2 0 (addO n 16) none, .int .i64 0] := by kernel_rfl
theorem R28B_tab {zs ns : List Int} {gk gn : Nat} {cpk cpn : Option Nat} {ts : List Int} {gt n : Nat} : (R28B zs ns gk gn cpk cpn ts gt n).tab = [some ⟨.ints .u8 zs, gk, false, 5⟩, some ⟨.ints .u8 ns, gn, false, 5⟩, some ⟨.ints .u8 ts, gt, false, 5⟩, some ⟨.ints .u8 [], 0, true, 5⟩, some ⟨.ints .u8 (List.take n (turnLaw (subLaw zs 0 16) (subLaw ns 0 12) (subLaw ts 0 n)) ++ List.take 16 (tagLaw
 (subLaw zs 0 16) (subLaw ns 0 12) [] 0 (turnLaw (subLaw zs 0 16) (subLaw ns 0 12) (subLaw ts 0 n)) n)), 2, true, 5⟩] := by kernel_rfl
noncomputable def R28C (zs ns : List Int) (gk gn : Nat) (cpk cpn : Option Nat) : Res := resG 3 [0,1,2,4] (runF eGp f28 [] 400 [.slice 1 0 gk 0 16 cpk, .slice 1 1 gn 0 12 cpn, .slice 1 2 0 0 0 none, .slice 1 2 0 0 0 none] [some ⟨.ints .u8 zs, gk, false, 5⟩, some ⟨.ints .u8 ns, gn, false, 5⟩, some ⟨.ints .u8 [], 0, true, 5⟩] [some false, some false])
theorem R28C_ok {zs ns : List Int} {gk gn : Nat} {cpk cpn : Option Nat} (h : allP [.eqN gk gk, .p (false = false), .eqN gn gn, .p (false = false), .eqN gk gk, .eqN gn gn, .leN 16 zs.length, .leN 12 ns.length, .p (Bytes zs), .p (Bytes ns), .p (Bytes []), .eqN gk gk, .eqN gn gn, .leN 16 zs.length, .leN 12 ns.length, .p (Bytes zs), .p (Bytes ns), .p (Bytes []), .p (Bytes (turnLaw (subLaw zs 0 16)
 (subLaw ns 0 12) (subLaw [] 0 0)))]) : OkR (R28C zs ns gk gn cpk cpn) := OkR.dem (fl := bitsF 52 4462931488342000) (by kernel_rfl) (by kernel_rfl) (by kernel_rfl) h
theorem R28C_val {zs ns : List Int} {gk gn : Nat} {cpk cpn : Option Nat} : (R28C zs ns gk gn cpk cpn).val = .tuple [.slice 1 3 2 0 16 none, .int .i64 0] := by kernel_rfl
theorem R28C_tab {zs ns : List Int} {gk gn : Nat} {cpk cpn : Option Nat} : (R28C zs ns gk gn cpk cpn).tab = [some ⟨.ints .u8 zs, gk, false, 5⟩, some ⟨.ints .u8 ns, gn, false, 5⟩, some ⟨.ints .u8 [], 0, true, 5⟩, some ⟨.ints .u8 (List.take 0 (turnLaw (subLaw zs 0 16) (subLaw ns 0 12) (subLaw [] 0 0)) ++ List.take 16 (tagLaw (subLaw zs 0 16) (subLaw ns 0 12) [] 0 (turnLaw (subLaw zs 0 16) (subLaw ns
 0 12) (subLaw [] 0 0)) 0)), 2, true, 5⟩] := by kernel_rfl
noncomputable def R32C (zs ns : List Int) (gk gn : Nat) (cpk cpn : Option Nat) (ts t2 : List Int) (gt n : Nat) : Res := resG 5 [0,1,2,3,4] (runF eGp f32 [] 400 [.slice 1 0 gk 0 16 cpk, .slice 1 1 gn 0 12 cpn, .slice 1 3 0 0 0 none, .slice 1 4 gt 0 n none] [some ⟨.ints .u8 zs, gk, false, 5⟩, some ⟨.ints .u8 ns, gn, false, 5⟩, some ⟨.ints .u8 ts, gt, false, 5⟩, some ⟨.ints .u8 [], 0, true, 5⟩, some ⟨.ints .u8 t2, gt, false, 5⟩] [some false, some false, none, some false, some false, some false])
theorem R32C_ok {zs ns : List Int} {gk gn : Nat} {cpk cpn : Option Nat} {ts t2 : List Int} {gt n : Nat} (h : allP [.eqN gk gk, .p (false = false), .eqN gn gn, .p (false = false), .eqN gt gt, .p (decide (65552 < (↑n : Int)) = false), .eqN gt gt, .p (decide ((↑n : Int) < 16) = false), .eqN gt gt, .rng (-9223372036854775808) ((↑n : Int) - 16) 9223372036854775807, .leI 0 ((↑n : Int) - 16), .eqN gt gt,
 .leN 0 ((↑n : Int) - 16).toNat, .orN ((↑n : Int) - 16).toNat n (0 + ((↑n : Int) - 16).toNat) t2.length, .eqN gt gt, .rng (-9223372036854775808) ((↑n : Int) - 16) 9223372036854775807, .leI 0 ((↑n : Int) - 16), .eqN gt gt, .leN ((↑n : Int) - 16).toNat n, .eqN gk gk, .eqN gn gn, .eqN gt gt, .leN 16 zs.length, .leN 12 ns.length, .p (Bytes zs), .p (Bytes ns), .p (Bytes []), .leN ((↑n : Int) - 16).toNat
 t2.length, .leN ((↑n : Int) - 16).toNat 140737488352000, .p (Bytes t2), .eqN gt gt, .eqN gt gt, .leN (((↑n : Int) - 16).toNat + subO n ((↑n : Int) - 16).toNat) t2.length, .p ((List.map byteOf (List.take 16 (tagLaw (subLaw zs 0 16) (subLaw ns 0 12) [] 0 t2 ((↑n : Int) - 16).toNat)) == List.map byteOf (List.take (subO n ((↑n : Int) - 16).toNat) (dropO ((↑n : Int) - 16).toNat t2))) = false)]) : OkR
 (R32C zs ns gk gn cpk cpn ts t2 gt n) := OkR.dem (fl := bitsF 54 1836194619063824) (by kernel_rfl) (by kernel_rfl) (by kernel_rfl) h
theorem R32C_val {zs ns : List Int} {gk gn : Nat} {cpk cpn : Option Nat} {ts t2 : List Int} {gt n : Nat} : (R32C zs ns gk gn cpk cpn ts t2 gt n).val = .tuple [.nilSlice, .int .i64 32] := by kernel_rfl
theorem R32C_tab {zs ns : List Int} {gk gn : Nat} {cpk cpn : Option Nat} {ts t2 : List Int} {gt n : Nat} : (R32C zs ns gk gn cpk cpn ts t2 gt n).tab = [some ⟨.ints .u8 zs, gk, false, 5⟩, some ⟨.ints .u8 ns, gn, false, 5⟩, some ⟨.ints .u8 ts, gt, false, 5⟩, some ⟨.ints .u8 [], 0, true, 5⟩, some ⟨.ints .u8 t2, gt, false, 5⟩] := by kernel_rfl
end Go.Abs

set_option linter.unusedVariables false
set_option linter.unusedSimpArgs false
set_option maxRecDepth 8000
namespace Go.Abs
open Go.Proofs.Try
/-! ### contracts of what the program offers -/
theorem gByte_inj {a b : Int} (ha : 0 ≤ a ∧ a < 256) (hb : 0 ≤ b ∧ b < 256) (h : byteOf a = byteOf b) : a = b := by
  have := congrArg UInt8.toNat h
  simp only [byteOf, UInt8.toNat_ofNat'] at this
  omega
theorem gBytes_inj : ∀ {l l' : List Int}, Bytes l → Bytes l' → List.map byteOf l = List.map byteOf l' → l = l'
  | [], [], _, _, _ => rfl
  | [], b :: l', _, _, h => by simp at h
  | a :: l, [], _, _, h => by simp at h
  | a :: l, b :: l', h1, h2, h => by
    simp only [List.map_cons, List.cons.injEq] at h
    have e : a = b := gByte_inj (h1.get 0) (h2.get 0) h.1
    rw [e, gBytes_inj (l := l) (l' := l') (fun i hi => h1.get (i + 1)) (fun i hi => h2.get (i + 1)) h.2]
theorem gBytes_ne {l l' : List Int} (h1 : Bytes l) (h2 : Bytes l') (h : l ≠ l') : (List.map byteOf l == List.map byteOf l') = false := by
  rw [beq_eq_false_iff_ne]
  exact fun e => h (gBytes_inj h1 h2 e)
def sealLaw (K N M : List Int) (m : Nat) (X : List Int) (n : Nat) : List Int := turnLaw K N X ++ tagLaw K N M m (turnLaw K N X) n
noncomputable def sm28Ac (args : List AVal) (T : Tab) (zs : List Int) (ns : List Int) (gk : Nat) (gn : Nat) (cpk : Option Nat) (cpn : Option Nat) (ms : List Int) (ts : List Int) (gm : Nat) (gt : Nat) (n : Nat) (m : Nat) : Res := ⟨[.tab T [some ⟨.ints .u8 zs, gk, false, 5⟩, some ⟨.ints .u8 ns, gn, false, 5⟩, some ⟨.ints .u8 ms, gm, false, 5⟩, some ⟨.ints .u8 ts, gt, false, 5⟩], .val (.tuple args) (.tuple [.slice 1 0 gk 0 16 cpk, .slice 1 1 gn 0 12 cpn, .slice 1 2 gm 0 m none, .slice 1 3 gt 0 n none]), .leN 16 zs.length, .leN 12 ns.length, .p (Bytes zs), .p (Bytes ns), .leN m ms.length, .leN m 65536, .p (Bytes ms), .leN n ts.length, .leN n 65536, .p (Bytes ts)], .tuple [.slice 1 4 2 0 (n + 16) none, .int .i64 0], [some ⟨.ints .u8 zs, gk, false, 5⟩, some ⟨.ints .u8 ns, gn, false, 5⟩, some ⟨.ints .u8 ms, gm, false, 5⟩, some ⟨.ints .u8 ts, gt, false, 5⟩, some ⟨.ints .u8 (sealLaw (subLaw zs 0 16) (subLaw ns 0 12) ms m (subLaw ts 0 n) n), 2, true, 5⟩]⟩
theorem sm28Ac_ok {args : List AVal} {T : Tab} {zs : List Int} {ns : List Int} {gk : Nat} {gn : Nat} {cpk : Option Nat} {cpn : Option Nat} {ms : List Int} {ts : List Int} {gm : Nat} {gt : Nat} {n : Nat} {m : Nat} (h : allP (sm28Ac args T zs ns gk gn cpk cpn ms ts gm gt n m).cs) : Small prog (fun _ => none) 28 args T (sm28Ac args T zs ns gk gn cpk cpn ms ts gm gt n m).val (sm28Ac args T zs ns gk gn cpk cpn ms ts gm gt n m).tab := by
  obtain ⟨hT, hv, h1, h2, h3, h4, h5, h6, h7, h8, h9, h10, _⟩ := h
  simp only [Con.h] at hT hv h1 h2 h3 h4 h5 h6 h7 h8 h9 h10
  injection hv with hv
  subst hT hv
  have b1 := sub_bytes h3 0 16
  have b2 := sub_bytes h4 0 12
  have lx : (subLaw ts 0 n).length = n := subLaw_len (by omega)
  have lt : (turnLaw (subLaw zs 0 16) (subLaw ns 0 12) (subLaw ts 0 n)).length = n := by rw [turn_len, lx]
  have bx := sub_bytes h10 0 n
  have bt := turn_bytes b1 b2 bx
  refine small_ofG (R := R28A zs ns gk gn cpk cpn ms ts gm gt n m) (keep := [0,1,2,3,5]) eGp_ok hmA (f := 28) (fn := f28) (by kernel_rfl) (by kernel_rfl) FnOrc.nil rfl (R28A_ok ?_) (by rw [R28A_val, addO_eq]; rfl) (by rw [R28A_tab, take_n lt, take_n (tag_len _ _ _ _ _ _)]; rfl)
  simp only [allP, Con.h, lx, lt, bt, addO_eq, h1, h2, h3, h4, h5, h7, h8, h10, decide_eq_false_iff_not, eq_self, true_and, and_true]
  omega
noncomputable def sm28A : Summary := fun args T => sm28Ac args T (xsAt T 0) (xsAt T 1) (gAt T 0) (gAt T 1) (capOf (vAt args 0)) (capOf (vAt args 1)) (xsAt T 2) (xsAt T 3) (gAt T 2) (gAt T 3) (lenOf (vAt args 3)) (lenOf (vAt args 2))
theorem sm28A_ok : SmOk prog (fun _ => none) 28 sm28A := fun args T h => sm28Ac_ok h
noncomputable def sm28Bc (args : List AVal) (T : Tab) (zs : List Int) (ns : List Int) (gk : Nat) (gn : Nat) (cpk : Option Nat) (cpn : Option Nat) (ts : List Int) (gt : Nat) (n : Nat) : Res := ⟨[.tab T [some ⟨.ints .u8 zs, gk, false, 5⟩, some ⟨.ints .u8 ns, gn, false, 5⟩, some ⟨.ints .u8 ts, gt, false, 5⟩], .val (.tuple args) (.tuple [.slice 1 0 gk 0 16 cpk, .slice 1 1 gn 0 12 cpn, .nilSlice, .slice 1 2 gt 0 n none]), .leN 16 zs.length, .leN 12 ns.length, .p (Bytes zs), .p (Bytes ns), .leN n ts.length, .leN n 65536, .p (Bytes ts)], .tuple [.slice 1 4 2 0 (n + 16) none, .int .i64 0], [some ⟨.ints .u8 zs, gk, false, 5⟩, some ⟨.ints .u8 ns, gn, false, 5⟩, some ⟨.ints .u8 ts, gt, false, 5⟩, some ⟨.ints .u8 [], 0, true, 5⟩, some ⟨.ints .u8 (sealLaw (subLaw zs 0 16) (subLaw ns 0 12) [] 0 (subLaw ts 0 n) n), 2, true, 5⟩]⟩
theorem sm28Bc_ok {args : List AVal} {T : Tab} {zs : List Int} {ns : List Int} {gk : Nat} {gn : Nat} {cpk : Option Nat} {cpn : Option Nat} {ts : List Int} {gt : Nat} {n : Nat} (h : allP (sm28Bc args T zs ns gk gn cpk cpn ts gt n).cs) : Small prog (fun _ => none) 28 args T (sm28Bc args T zs ns gk gn cpk cpn ts gt n).val (sm28Bc args T zs ns gk gn cpk cpn ts gt n).tab := by
  obtain ⟨hT, hv, h1, h2, h3, h4, h5, h6, h7, _⟩ := h
  simp only [Con.h] at hT hv h1 h2 h3 h4 h5 h6 h7
  injection hv with hv
  subst hT hv
  have b1 := sub_bytes h3 0 16
  have b2 := sub_bytes h4 0 12
  have lx : (subLaw ts 0 n).length = n := subLaw_len (by omega)
  have lt : (turnLaw (subLaw zs 0 16) (subLaw ns 0 12) (subLaw ts 0 n)).length = n := by rw [turn_len, lx]
  have bx := sub_bytes h7 0 n
  have bt := turn_bytes b1 b2 bx
  have b0 : Bytes [] := fun i hi => absurd hi (Nat.not_lt_zero i)
  refine small_fill (args2 := [.slice 1 0 gk 0 16 cpk, .slice 1 1 gn 0 12 cpn, .slice 1 3 0 0 0 none, .slice 1 2 gt 0 n none]) (T2 := [some ⟨.ints .u8 zs, gk, false, 5⟩, some ⟨.ints .u8 ns, gn, false, 5⟩, some ⟨.ints .u8 ts, gt, false, 5⟩, some ⟨.ints .u8 [], 0, true, 5⟩]) rfl rfl ?_
  refine small_ofG (R := R28B zs ns gk gn cpk cpn ts gt n) (keep := [0,1,2,3,5]) eGp_ok hmA (f := 28) (fn := f28) (by kernel_rfl) (by kernel_rfl) FnOrc.nil rfl (R28B_ok ?_) (by rw [R28B_val, addO_eq]; rfl) (by rw [R28B_tab, take_n lt, take_n (tag_len _ _ _ _ _ _)]; rfl)
  simp only [allP, Con.h, lx, lt, bt, b0, addO_eq, h1, h2, h3, h4, h5, h7, decide_eq_false_iff_not, eq_self, true_and, and_true]
  omega
noncomputable def sm28B : Summary := fun args T => sm28Bc args T (xsAt T 0) (xsAt T 1) (gAt T 0) (gAt T 1) (capOf (vAt args 0)) (capOf (vAt args 1)) (xsAt T 2) (gAt T 2) (lenOf (vAt args 3))
theorem sm28B_ok : SmOk prog (fun _ => none) 28 sm28B := fun args T h => sm28Bc_ok h
noncomputable def sm28Cc (args : List AVal) (T : Tab) (zs : List Int) (ns : List Int) (gk : Nat) (gn : Nat) (cpk : Option Nat) (cpn : Option Nat) : Res := ⟨[.tab T [some ⟨.ints .u8 zs, gk, false, 5⟩, some ⟨.ints .u8 ns, gn, false, 5⟩], .val (.tuple args) (.tuple [.slice 1 0 gk 0 16 cpk, .slice 1 1 gn 0 12 cpn, .nilSlice, .nilSlice]), .leN 16 zs.length, .leN 12 ns.length, .p (Bytes zs), .p (Bytes ns)], .tuple [.slice 1 3 2 0 16 none, .int .i64 0], [some ⟨.ints .u8 zs, gk, false, 5⟩, some ⟨.ints .u8 ns, gn, false, 5⟩, some ⟨.ints .u8 [], 0, true, 5⟩, some ⟨.ints .u8 (tagLaw (subLaw zs 0 16) (subLaw ns 0 12) [] 0 [] 0), 2, true, 5⟩]⟩
theorem sm28Cc_ok {args : List AVal} {T : Tab} {zs : List Int} {ns : List Int} {gk : Nat} {gn : Nat} {cpk : Option Nat} {cpn : Option Nat} (h : allP (sm28Cc args T zs ns gk gn cpk cpn).cs) : Small prog (fun _ => none) 28 args T (sm28Cc args T zs ns gk gn cpk cpn).val (sm28Cc args T zs ns gk gn cpk cpn).tab := by
  obtain ⟨hT, hv, h1, h2, h3, h4, _⟩ := h
  simp only [Con.h] at hT hv h1 h2 h3 h4
  injection hv with hv
  subst hT hv
  have b1 := sub_bytes h3 0 16
  have b2 := sub_bytes h4 0 12
  have b0 : Bytes [] := fun i hi => absurd hi (Nat.not_lt_zero i)
  have e0 : subLaw [] 0 0 = [] := rfl
  have e1 : turnLaw (subLaw zs 0 16) (subLaw ns 0 12) [] = [] := rfl
  refine small_fill (args2 := [.slice 1 0 gk 0 16 cpk, .slice 1 1 gn 0 12 cpn, .slice 1 2 0 0 0 none, .slice 1 2 0 0 0 none]) (T2 := [some ⟨.ints .u8 zs, gk, false, 5⟩, some ⟨.ints .u8 ns, gn, false, 5⟩, some ⟨.ints .u8 [], 0, true, 5⟩]) rfl rfl ?_
  refine small_ofG (R := R28C zs ns gk gn cpk cpn) (keep := [0,1,2,4]) eGp_ok hmA (f := 28) (fn := f28) (by kernel_rfl) (by kernel_rfl) FnOrc.nil rfl (R28C_ok ?_) R28C_val (by rw [R28C_tab, e0, e1, take_n (tag_len _ _ _ _ _ _)]; rfl)
  rw [e0, e1]
  simp only [allP, Con.h, b0, h1, h2, h3, h4, eq_self, true_and, and_true]
noncomputable def sm28C : Summary := fun args T => sm28Cc args T (xsAt T 0) (xsAt T 1) (gAt T 0) (gAt T 1) (capOf (vAt args 0)) (capOf (vAt args 1))
theorem sm28C_ok : SmOk prog (fun _ => none) 28 sm28C := fun args T h => sm28Cc_ok h
noncomputable def sm28 : Summary := fun args T => match vAt args 2, vAt args 3 with
  | .nilSlice, .nilSlice => sm28C args T
  | .nilSlice, _ => sm28B args T
  | _, _ => sm28A args T
theorem sm28_ok : SmOk prog (fun _ => none) 28 sm28 := fun args T h => by
  unfold sm28 at h ⊢
  split at h
  · exact sm28C_ok args T h
  · exact sm28B_ok args T h
  · exact sm28A_ok args T h
noncomputable def S28 : Summary := callR sm28 []
theorem S28_ok : SumOk prog (fun _ => none) 28 S28 := callR_ok sm28_ok []
noncomputable def sm32Cc (args : List AVal) (T : Tab) (zs : List Int) (ns : List Int) (gk : Nat) (gn : Nat) (cpk : Option Nat) (cpn : Option Nat) (ts : List Int) (gt : Nat) (n : Nat) (c : Nat) : Res := ⟨[.tab T [some ⟨.ints .u8 zs, gk, false, 5⟩, some ⟨.ints .u8 ns, gn, false, 5⟩, some ⟨.ints .u8 ts, gt, false, 5⟩], .val (.tuple args) (.tuple [.slice 1 0 gk 0 16 cpk, .slice 1 1 gn 0 12 cpn, .nilSlice, .slice 1 2 gt 0 n (some c)]), .leN 16 zs.length, .leN 12 ns.length, .p (Bytes zs), .p (Bytes ns), .eqN n ts.length, .leN n 65552, .p (Bytes ts), .leN 16 n, .p (tagLaw (subLaw zs 0 16) (subLaw ns 0 12) [] 0 ts (n - 16) ≠ subLaw ts (n - 16) 16)], .tuple [.nilSlice, .int .i64 32], [some ⟨.ints .u8 zs, gk, false, 5⟩, some ⟨.ints .u8 ns, gn, false, 5⟩, some ⟨.ints .u8 ts, gt, false, 5⟩, some ⟨.ints .u8 [], 0, true, 5⟩, some ⟨.ints .u8 ts, gt, false, 5⟩]⟩
theorem sm32Cc_ok {args : List AVal} {T : Tab} {zs : List Int} {ns : List Int} {gk : Nat} {gn : Nat} {cpk : Option Nat} {cpn : Option Nat} {ts : List Int} {gt : Nat} {n : Nat} {c : Nat} (h : allP (sm32Cc args T zs ns gk gn cpk cpn ts gt n c).cs) : Small prog (fun _ => none) 32 args T (sm32Cc args T zs ns gk gn cpk cpn ts gt n c).val (sm32Cc args T zs ns gk gn cpk cpn ts gt n c).tab := by
  obtain ⟨hT, hv, h1, h2, h3, h4, h5, h6, h7, h8, h9, _⟩ := h
  simp only [Con.h] at hT hv h1 h2 h3 h4 h5 h6 h7 h8 h9
  injection hv with hv
  subst hT hv
  have e1 : ((n : Int) - 16).toNat = n - 16 := by omega
  have e2 : subO n (n - 16) = 16 := by rw [subO_eq]; omega
  have e3 : List.take 16 (dropO (n - 16) ts) = subLaw ts (n - 16) 16 := by rw [dropO_eq]; rfl
  have b0 : Bytes [] := fun i hi => absurd hi (Nat.not_lt_zero i)
  have et : List.take n ts = ts := List.take_of_length_le (by omega)
  refine small_fill (args2 := [.slice 1 0 gk 0 16 cpk, .slice 1 1 gn 0 12 cpn, .slice 1 3 0 0 0 none, .slice 1 2 gt 0 n (some c)]) (T2 := [some ⟨.ints .u8 zs, gk, false, 5⟩, some ⟨.ints .u8 ns, gn, false, 5⟩, some ⟨.ints .u8 ts, gt, false, 5⟩, some ⟨.ints .u8 [], 0, true, 5⟩]) rfl rfl ?_
  refine small_cap 3 2 gt n c ts 5 rfl rfl (by omega) rfl (T2 := [some ⟨.ints .u8 zs, gk, false, 5⟩, some ⟨.ints .u8 ns, gn, false, 5⟩, some ⟨.ints .u8 ts, gt, false, 5⟩, some ⟨.ints .u8 [], 0, true, 5⟩, some ⟨.ints .u8 ts, gt, false, 5⟩]) (by rw [et]; rfl) ?_
  refine small_ofG (R := R32C zs ns gk gn cpk cpn ts ts gt n) (keep := [0,1,2,3,4]) eGp_ok hmA (f := 32) (fn := f32) (by kernel_rfl) (by kernel_rfl) FnOrc.nil rfl (R32C_ok ?_) R32C_val R32C_tab
  have ne := gBytes_ne (tag_bytes (subLaw zs 0 16) (subLaw ns 0 12) [] 0 ts (n - 16)) (sub_bytes h7 (n - 16) 16) h9
  rw [e1, e2, e3, take_n (tag_len _ _ _ _ _ _), ne]
  simp only [allP, Con.h, b0, h1, h2, h3, h4, h7, decide_eq_false_iff_not, eq_self, true_and, and_true]
  omega
noncomputable def sm32C : Summary := fun args T => sm32Cc args T (xsAt T 0) (xsAt T 1) (gAt T 0) (gAt T 1) (capOf (vAt args 0)) (capOf (vAt args 1)) (xsAt T 2) (gAt T 2) (lenOf (vAt args 3)) ((capOf (vAt args 3)).getD 0)
theorem sm32C_ok : SmOk prog (fun _ => none) 32 sm32C := fun args T h => sm32Cc_ok h
noncomputable def S32C : Summary := callR sm32C []
theorem S32C_ok : SumOk prog (fun _ => none) 32 S32C := callR_ok sm32C_ok []
end Go.Abs

set_option linter.unusedVariables false
set_option linter.unusedSimpArgs false
set_option maxRecDepth 8000
namespace Go.Abs
open Go.Proofs.Try
/-! ### what the laws call: fit, knows -/
noncomputable def R34_16 (zs : List Int) (g n : Nat) (cp : Option Nat) (ow : Bool) : Res := resG 1 [0,1] (runF (eA []) f34 [] 400 [.slice 1 0 g 0 n cp, .int .i64 16] [some ⟨.ints .u8 zs, g, ow, 5⟩] [])
theorem R34_16_ok {zs : List Int} {g n : Nat} {cp : Option Nat} {ow : Bool} (h : allP [.eqN g g, .leN (0 + n) zs.length]) : OkR (R34_16 zs g n cp ow) := OkR.dem (fl := [true, true, true, true, true, true, false, false, true]) (by kernel_rfl) (by kernel_rfl) (by kernel_rfl) h
theorem R34_16_val {zs : List Int} {g n : Nat} {cp : Option Nat} {ow : Bool} : (R34_16 zs g n cp ow).val = .slice 1 1 0 0 16 (some 16) := by kernel_rfl
theorem R34_16_tab {zs : List Int} {g n : Nat} {cp : Option Nat} {ow : Bool} : (R34_16 zs g n cp ow).tab = [some ⟨.ints .u8 zs, g, ow, 5⟩, some ⟨.ints .u8 (over [0, 0, 0, 0, 0, 0, 0, 0, 0, 0, 0, 0, 0, 0, 0, 0] 0 (List.take (if n ≤ 16 then n else 16) zs)), 0, true, 5⟩] := by kernel_rfl
noncomputable def R34_12 (zs : List Int) (g n : Nat) (cp : Option Nat) (ow : Bool) : Res := resG 1 [0,1] (runF (eA []) f34 [] 400 [.slice 1 0 g 0 n cp, .int .i64 12] [some ⟨.ints .u8 zs, g, ow, 5⟩] [])
theorem R34_12_ok {zs : List Int} {g n : Nat} {cp : Option Nat} {ow : Bool} (h : allP [.eqN g g, .leN (0 + n) zs.length]) : OkR (R34_12 zs g n cp ow) := OkR.dem (fl := [true, true, true, true, true, true, false, false, true]) (by kernel_rfl) (by kernel_rfl) (by kernel_rfl) h
theorem R34_12_val {zs : List Int} {g n : Nat} {cp : Option Nat} {ow : Bool} : (R34_12 zs g n cp ow).val = .slice 1 1 0 0 12 (some 12) := by kernel_rfl
theorem R34_12_tab {zs : List Int} {g n : Nat} {cp : Option Nat} {ow : Bool} : (R34_12 zs g n cp ow).tab = [some ⟨.ints .u8 zs, g, ow, 5⟩, some ⟨.ints .u8 (over [0, 0, 0, 0, 0, 0, 0, 0, 0, 0, 0, 0] 0 (List.take (if n ≤ 12 then n else 12) zs)), 0, true, 5⟩] := by kernel_rfl
noncomputable def S30 : Summary := sumI modeO (eA []) f30 [] 100 [] []
theorem S30_ok : SumOk prog (fun _ => none) 30 S30 := sumI_ok eA0_ok hmA (fn := f30) (by kernel_rfl) (by kernel_rfl) [] FnOrc.nil 100 [] []
noncomputable def eGw : Env := eA [(28, S28), (30, S30), (32, S32C)]
theorem eGw_ok : EnvOk eGw := envOf_ok tysA_ok (SumsOk.cons (fn := f28) S28_ok (by kernel_rfl) (by kernel_rfl) (by kernel_rfl) (SumsOk.cons (fn := f30) S30_ok (by kernel_rfl) (by kernel_rfl) (by kernel_rfl) (SumsOk.cons (fn := f32) S32C_ok (by kernel_rfl) (by kernel_rfl) (by kernel_rfl) trivial)))
noncomputable def R31  : Res := resG 0 [] (runF eGw f31 [] 400 [] [] [none, some true, none, none, none, none, none, none, none, none])
theorem R31_ok  (h : allP [.p (Bytes [0, 0, 0, 0, 0, 0, 0, 0, 0, 0, 0, 0, 0, 0, 0, 0]), .p (Bytes [0, 0, 0, 0, 0, 0, 0, 0, 0, 0, 0, 0]), .p (Bytes [0, 0, 0, 0, 0, 0, 0, 0, 0, 0, 0, 0, 0, 0, 0, 0]), .p (Bytes [0, 0, 0, 0, 0, 0, 0, 0, 0, 0, 0, 0]), .p (Bytes [0, 0, 0, 0, 0, 0, 0, 0, 0, 0, 0, 0, 0, 0, 0, 0]), .p (tagLaw (subLaw [0, 0, 0, 0, 0, 0, 0, 0, 0, 0, 0, 0, 0, 0, 0, 0] 0 16) (subLaw [0, 0, 0,
 0, 0, 0, 0, 0, 0, 0, 0, 0] 0 12) [] 0 [0, 0, 0, 0, 0, 0, 0, 0, 0, 0, 0, 0, 0, 0, 0, 0] 0 ≠ subLaw [0, 0, 0, 0, 0, 0, 0, 0, 0, 0, 0, 0, 0, 0, 0, 0] 0 16), .p (true = true)]) : OkR (R31 ) := OkR.dem (fl := bitsF 59 286372715787557854) (by kernel_rfl) (by kernel_rfl) (by kernel_rfl) h
theorem R31_val  : (R31 ).val = .bool true := by kernel_rfl
theorem R31_tab  : (R31 ).tab = [] := by kernel_rfl
theorem knows_ne : tagLaw (subLaw [0, 0, 0, 0, 0, 0, 0, 0, 0, 0, 0, 0, 0, 0, 0, 0] 0 16) (subLaw [0, 0, 0, 0, 0, 0, 0, 0, 0, 0, 0, 0] 0 12) [] 0 [0, 0, 0, 0, 0, 0, 0, 0, 0, 0, 0, 0, 0, 0, 0, 0] 0 ≠ subLaw [0, 0, 0, 0, 0, 0, 0, 0, 0, 0, 0, 0, 0, 0, 0, 0] 0 16 := fun h => by
  have h1 : (tagLaw (subLaw [0, 0, 0, 0, 0, 0, 0, 0, 0, 0, 0, 0, 0, 0, 0, 0] 0 16) (subLaw [0, 0, 0, 0, 0, 0, 0, 0, 0, 0, 0, 0] 0 12) [] 0 [0, 0, 0, 0, 0, 0, 0, 0, 0, 0, 0, 0, 0, 0, 0, 0] 0).getD 0 0 = 88 := by kernel_rfl
  rw [h] at h1
  have h2 : (subLaw [0, 0, 0, 0, 0, 0, 0, 0, 0, 0, 0, 0, 0, 0, 0, 0] 0 16).getD 0 0 = 0 := rfl
  omega
noncomputable def sm31c (args : List AVal) (T : Tab) (u : Nat) : Res := ⟨[.tab T [], .val (.tuple args) (.tuple [])], .bool true, []⟩
theorem sm31c_ok {args : List AVal} {T : Tab} {u : Nat} (h : allP (sm31c args T u).cs) : Small prog (fun _ => none) 31 args T (sm31c args T u).val (sm31c args T u).tab := by
  obtain ⟨hT, hv, _⟩ := h
  simp only [Con.h] at hT hv
  injection hv with hv
  subst hT hv
  refine small_ofG (R := R31) (keep := []) eGw_ok hmA (f := 31) (fn := f31) (by kernel_rfl) (by kernel_rfl) FnOrc.nil rfl (R31_ok ?_) R31_val R31_tab
  have b1 : Bytes [0, 0, 0, 0, 0, 0, 0, 0, 0, 0, 0, 0, 0, 0, 0, 0] := Bytes.zer 16
  have b2 : Bytes [0, 0, 0, 0, 0, 0, 0, 0, 0, 0, 0, 0] := Bytes.zer 12
  simp only [allP, Con.h, b1, b2, eq_self, true_and, and_true]
  exact knows_ne
noncomputable def sm31 : Summary := fun args T => sm31c args T (0)
theorem sm31_ok : SmOk prog (fun _ => none) 31 sm31 := fun args T h => sm31c_ok h
noncomputable def S31 : Summary := callR sm31 []
theorem S31_ok : SumOk prog (fun _ => none) 31 S31 := callR_ok sm31_ok []
def fitLaw (k : Nat) (zs : List Int) (n : Nat) : List Int := over (List.replicate k 0) 0 (List.take (if n ≤ k then n else k) zs)
theorem fit_eq {k n : Nat} {zs : List Int} (h : n ≤ zs.length) : fitLaw k zs n = List.take (min n k) zs ++ List.replicate (k - min n k) 0 := by
  unfold fitLaw over
  have e : (if n ≤ k then n else k) = min n k := by split <;> omega
  have hl : (List.take (min n k) zs).length = min n k := by rw [List.length_take]; omega
  rw [e, List.take_zero, List.nil_append, Nat.zero_add, hl, List.drop_replicate]
theorem fit_len {k n : Nat} {zs : List Int} (h : n ≤ zs.length) : (fitLaw k zs n).length = k := by
  rw [fit_eq h, List.length_append, List.length_take, List.length_replicate]; omega
theorem fit_bytes {k n : Nat} {zs : List Int} (h : n ≤ zs.length) (hb : Bytes zs) : Bytes (fitLaw k zs n) := by
  rw [fit_eq h]; exact (hb.take _).append (Bytes.zer _)
noncomputable def sm34_16c (args : List AVal) (T : Tab) (zs : List Int) (g : Nat) (n : Nat) (cp : Option Nat) (ow : Bool) : Res := ⟨[.tab T [some ⟨.ints .u8 zs, g, ow, 5⟩], .val (.tuple args) (.tuple [.slice 1 0 g 0 n cp, .int .i64 16]), .leN n zs.length], .slice 1 1 0 0 16 (some 16), [some ⟨.ints .u8 zs, g, ow, 5⟩, some ⟨.ints .u8 (fitLaw 16 zs n), 0, true, 5⟩]⟩
theorem sm34_16c_ok {args : List AVal} {T : Tab} {zs : List Int} {g : Nat} {n : Nat} {cp : Option Nat} {ow : Bool} (h : allP (sm34_16c args T zs g n cp ow).cs) : Small prog (fun _ => none) 34 args T (sm34_16c args T zs g n cp ow).val (sm34_16c args T zs g n cp ow).tab := by
  obtain ⟨hT, hv, h1, _⟩ := h
  simp only [Con.h] at hT hv h1
  injection hv with hv
  subst hT hv
  refine small_ofG (R := R34_16 zs g n cp ow) (keep := [0,1]) eA0_ok hmA (f := 34) (fn := f34) (by kernel_rfl) (by kernel_rfl) FnOrc.nil rfl (R34_16_ok ?_) R34_16_val R34_16_tab
  simp only [allP, Con.h, Nat.zero_add, h1, eq_self, true_and, and_true]
noncomputable def sm34_16 : Summary := fun args T => sm34_16c args T (xsAt T 0) (gAt T 0) (lenOf (vAt args 0)) (capOf (vAt args 0)) (owAt T 0)
theorem sm34_16_ok : SmOk prog (fun _ => none) 34 sm34_16 := fun args T h => sm34_16c_ok h
noncomputable def sm34_12c (args : List AVal) (T : Tab) (zs : List Int) (g : Nat) (n : Nat) (cp : Option Nat) (ow : Bool) : Res := ⟨[.tab T [some ⟨.ints .u8 zs, g, ow, 5⟩], .val (.tuple args) (.tuple [.slice 1 0 g 0 n cp, .int .i64 12]), .leN n zs.length], .slice 1 1 0 0 12 (some 12), [some ⟨.ints .u8 zs, g, ow, 5⟩, some ⟨.ints .u8 (fitLaw 12 zs n), 0, true, 5⟩]⟩
theorem sm34_12c_ok {args : List AVal} {T : Tab} {zs : List Int} {g : Nat} {n : Nat} {cp : Option Nat} {ow : Bool} (h : allP (sm34_12c args T zs g n cp ow).cs) : Small prog (fun _ => none) 34 args T (sm34_12c args T zs g n cp ow).val (sm34_12c args T zs g n cp ow).tab := by
  obtain ⟨hT, hv, h1, _⟩ := h
  simp only [Con.h] at hT hv h1
  injection hv with hv
  subst hT hv
  refine small_ofG (R := R34_12 zs g n cp ow) (keep := [0,1]) eA0_ok hmA (f := 34) (fn := f34) (by kernel_rfl) (by kernel_rfl) FnOrc.nil rfl (R34_12_ok ?_) R34_12_val R34_12_tab
  simp only [allP, Con.h, Nat.zero_add, h1, eq_self, true_and, and_true]
noncomputable def sm34_12 : Summary := fun args T => sm34_12c args T (xsAt T 0) (gAt T 0) (lenOf (vAt args 0)) (capOf (vAt args 0)) (owAt T 0)
theorem sm34_12_ok : SmOk prog (fun _ => none) 34 sm34_12 := fun args T h => sm34_12c_ok h
noncomputable def sm34 : Summary := fun args T => match iOf (vAt args 1) with
  | 16 => sm34_16 args T
  | _ => sm34_12 args T
theorem sm34_ok : SmOk prog (fun _ => none) 34 sm34 := fun args T h => by
  unfold sm34 at h ⊢
  split at h
  · exact sm34_16_ok args T h
  · exact sm34_12_ok args T h
noncomputable def S34 : Summary := callR sm34 []
theorem S34_ok : SumOk prog (fun _ => none) 34 S34 := callR_ok sm34_ok []
end Go.Abs

set_option linter.unusedVariables false
set_option linter.unusedSimpArgs false
set_option maxRecDepth 8000
namespace Go.Abs
open Go.Proofs.Try
/-! ### GcmLaws -/
def heldLaw (n : Nat) (l : List Int) : List Int := match n with
  | 0 => []
  | _ + 1 => l
theorem held_eq {n : Nat} (h : 1 ≤ n) (l : List Int) : heldLaw n l = l := by
  cases n with
  | zero => omega
  | succ n => rfl
noncomputable def sm35nshc (args : List AVal) (T : Tab) (zs : List Int) (bs : List Int) (g0 : Nat) (g1 : Nat) : Res := ⟨[.tab T [some ⟨.ints .u8 zs, g0, false, 5⟩, some ⟨.ints .u8 bs, g1, false, 5⟩], .val (.tuple args) (.tuple [.slice 1 0 g0 0 16 none, .slice 1 1 g1 0 16 (some 16)]), .leN 16 zs.length, .leN 16 bs.length, .p (Bytes zs), .p (Bytes bs)], .tuple [.slice 1 2 15 0 16 none, .int .i64 0], [some ⟨.ints .u8 zs, g0, false, 5⟩, some ⟨.ints .u8 bs, g1, false, 5⟩, some ⟨.ints .u8 (heldLaw zs.length (ptLaw (mwLaw (gwLaw (subLaw zs 0 16)) (gwLaw (subLaw bs 0 16))))), 15, true, 5⟩]⟩
theorem sm35nshc_ok {args : List AVal} {T : Tab} {zs : List Int} {bs : List Int} {g0 : Nat} {g1 : Nat} (h : allP (sm35nshc args T zs bs g0 g1).cs) : Small prog (fun _ => none) 35 args T (sm35nshc args T zs bs g0 g1).val (sm35nshc args T zs bs g0 g1).tab := by
  obtain ⟨hT, hv, h1, h2, h3, h4, _⟩ := h
  simp only [Con.h] at hT hv h1 h2 h3 h4
  injection hv with hv
  subst hT hv
  have w1 := WpLaw.gw (sub_bytes h3 0 16) (subLaw_len (by omega))
  have w2 := WpLaw.gw (sub_bytes h4 0 16) (subLaw_len (by omega))
  have w3 := w1.mw (q := gwLaw (subLaw bs 0 16))
  refine small_ofG (R := R35ns zs bs g0 g1) (keep := [0,1,2]) eGp_ok hmA (f := 35) (fn := f35) (by kernel_rfl) (by kernel_rfl) FnOrc.nil rfl (R35ns_ok ?_) R35ns_val (by rw [R35ns_tab]; show _ = [_, _, some (⟨.ints .u8 (heldLaw zs.length (ptLaw (mwLaw (gwLaw (subLaw zs 0 16)) (gwLaw (subLaw bs 0 16))))), 15, true, 5⟩ : AObj)]; rw [held_eq (by omega)])
  simp only [allP, Con.h, w1, w2, w3, h1, h2, h3, h4, eq_self, true_and, and_true]
noncomputable def sm35nsh : Summary := fun args T => sm35nshc args T (xsAt T 0) (xsAt T 1) (gAt T 0) (gAt T 1)
theorem sm35nsh_ok : SmOk prog (fun _ => none) 35 sm35nsh := fun args T h => sm35nshc_ok h
noncomputable def sm35snhc (args : List AVal) (T : Tab) (zs : List Int) (bs : List Int) (g0 : Nat) (g1 : Nat) : Res := ⟨[.tab T [some ⟨.ints .u8 zs, g0, false, 5⟩, some ⟨.ints .u8 bs, g1, false, 5⟩], .val (.tuple args) (.tuple [.slice 1 0 g0 0 16 (some 16), .slice 1 1 g1 0 16 none]), .leN 16 zs.length, .leN 16 bs.length, .p (Bytes zs), .p (Bytes bs)], .tuple [.slice 1 2 15 0 16 none, .int .i64 0], [some ⟨.ints .u8 zs, g0, false, 5⟩, some ⟨.ints .u8 bs, g1, false, 5⟩, some ⟨.ints .u8 (heldLaw zs.length (ptLaw (mwLaw (gwLaw (subLaw zs 0 16)) (gwLaw (subLaw bs 0 16))))), 15, true, 5⟩]⟩
theorem sm35snhc_ok {args : List AVal} {T : Tab} {zs : List Int} {bs : List Int} {g0 : Nat} {g1 : Nat} (h : allP (sm35snhc args T zs bs g0 g1).cs) : Small prog (fun _ => none) 35 args T (sm35snhc args T zs bs g0 g1).val (sm35snhc args T zs bs g0 g1).tab := by
  obtain ⟨hT, hv, h1, h2, h3, h4, _⟩ := h
  simp only [Con.h] at hT hv h1 h2 h3 h4
  injection hv with hv
  subst hT hv
  have w1 := WpLaw.gw (sub_bytes h3 0 16) (subLaw_len (by omega))
  have w2 := WpLaw.gw (sub_bytes h4 0 16) (subLaw_len (by omega))
  have w3 := w1.mw (q := gwLaw (subLaw bs 0 16))
  refine small_ofG (R := R35sn zs bs g0 g1) (keep := [0,1,2]) eGp_ok hmA (f := 35) (fn := f35) (by kernel_rfl) (by kernel_rfl) FnOrc.nil rfl (R35sn_ok ?_) R35sn_val (by rw [R35sn_tab]; show _ = [_, _, some (⟨.ints .u8 (heldLaw zs.length (ptLaw (mwLaw (gwLaw (subLaw zs 0 16)) (gwLaw (subLaw bs 0 16))))), 15, true, 5⟩ : AObj)]; rw [held_eq (by omega)])
  simp only [allP, Con.h, w1, w2, w3, h1, h2, h3, h4, eq_self, true_and, and_true]
noncomputable def sm35snh : Summary := fun args T => sm35snhc args T (xsAt T 0) (xsAt T 1) (gAt T 0) (gAt T 1)
theorem sm35snh_ok : SmOk prog (fun _ => none) 35 sm35snh := fun args T h => sm35snhc_ok h
noncomputable def sm35sshc (args : List AVal) (T : Tab) (zs : List Int) (bs : List Int) (g0 : Nat) (g1 : Nat) : Res := ⟨[.tab T [some ⟨.ints .u8 zs, g0, false, 5⟩, some ⟨.ints .u8 bs, g1, false, 5⟩], .val (.tuple args) (.tuple [.slice 1 0 g0 0 16 (some 16), .slice 1 1 g1 0 16 (some 16)]), .leN 16 zs.length, .leN 16 bs.length, .p (Bytes zs), .p (Bytes bs)], .tuple [.slice 1 2 15 0 16 none, .int .i64 0], [some ⟨.ints .u8 zs, g0, false, 5⟩, some ⟨.ints .u8 bs, g1, false, 5⟩, some ⟨.ints .u8 (heldLaw zs.length (ptLaw (mwLaw (gwLaw (subLaw zs 0 16)) (gwLaw (subLaw bs 0 16))))), 15, true, 5⟩]⟩
theorem sm35sshc_ok {args : List AVal} {T : Tab} {zs : List Int} {bs : List Int} {g0 : Nat} {g1 : Nat} (h : allP (sm35sshc args T zs bs g0 g1).cs) : Small prog (fun _ => none) 35 args T (sm35sshc args T zs bs g0 g1).val (sm35sshc args T zs bs g0 g1).tab := by
  obtain ⟨hT, hv, h1, h2, h3, h4, _⟩ := h
  simp only [Con.h] at hT hv h1 h2 h3 h4
  injection hv with hv
  subst hT hv
  have w1 := WpLaw.gw (sub_bytes h3 0 16) (subLaw_len (by omega))
  have w2 := WpLaw.gw (sub_bytes h4 0 16) (subLaw_len (by omega))
  have w3 := w1.mw (q := gwLaw (subLaw bs 0 16))
  refine small_ofG (R := R35ss zs bs g0 g1) (keep := [0,1,2]) eGp_ok hmA (f := 35) (fn := f35) (by kernel_rfl) (by kernel_rfl) FnOrc.nil rfl (R35ss_ok ?_) R35ss_val (by rw [R35ss_tab]; show _ = [_, _, some (⟨.ints .u8 (heldLaw zs.length (ptLaw (mwLaw (gwLaw (subLaw zs 0 16)) (gwLaw (subLaw bs 0 16))))), 15, true, 5⟩ : AObj)]; rw [held_eq (by omega)])
  simp only [allP, Con.h, w1, w2, w3, h1, h2, h3, h4, eq_self, true_and, and_true]
noncomputable def sm35ssh : Summary := fun args T => sm35sshc args T (xsAt T 0) (xsAt T 1) (gAt T 0) (gAt T 1)
theorem sm35ssh_ok : SmOk prog (fun _ => none) 35 sm35ssh := fun args T h => sm35sshc_ok h
noncomputable def sm35h : Summary := fun args T => match capOf (vAt args 0), capOf (vAt args 1) with
  | none, _ => sm35nsh args T
  | some _, none => sm35snh args T
  | some _, some _ => sm35ssh args T
theorem sm35h_ok : SmOk prog (fun _ => none) 35 sm35h := fun args T h => by
  unfold sm35h at h ⊢
  split at h
  · exact sm35nsh_ok args T h
  · exact sm35snh_ok args T h
  · exact sm35ssh_ok args T h
noncomputable def S35h : Summary := callR sm35h []
theorem S35h_ok : SumOk prog (fun _ => none) 35 S35h := callR_ok sm35h_ok []
noncomputable def sm37shc (args : List AVal) (T : Tab) (zs : List Int) (bs : List Int) (g0 : Nat) (g1 : Nat) (n1 : Nat) (c1 : Nat) : Res := ⟨[.tab T [some ⟨.ints .u8 zs, g0, false, 5⟩, some ⟨.ints .u8 bs, g1, false, 5⟩], .val (.tuple args) (.tuple [.slice 1 0 g0 0 16 (some 16), .slice 1 1 g1 0 n1 (some c1)]), .leN 16 zs.length, .leN n1 bs.length, .p (Bytes zs), .p (Bytes bs), .leN n1 140737488352000], .tuple [.slice 1 3 15 0 16 none, .int .i64 0], [some ⟨.ints .u8 zs, g0, false, 5⟩, some ⟨.ints .u8 bs, g1, false, 5⟩, some ⟨.ints .u8 (List.take n1 bs), g1, false, 5⟩, some ⟨.ints .u8 (heldLaw zs.length (ptLaw (hsLaw (gwLaw (subLaw zs 0 16)) [0, 0] (List.take n1 bs) n1))), 15, true, 5⟩]⟩
theorem sm37shc_ok {args : List AVal} {T : Tab} {zs : List Int} {bs : List Int} {g0 : Nat} {g1 : Nat} {n1 : Nat} {c1 : Nat} (h : allP (sm37shc args T zs bs g0 g1 n1 c1).cs) : Small prog (fun _ => none) 37 args T (sm37shc args T zs bs g0 g1 n1 c1).val (sm37shc args T zs bs g0 g1 n1 c1).tab := by
  obtain ⟨hT, hv, h1, h2, h3, h4, h5, _⟩ := h
  simp only [Con.h] at hT hv h1 h2 h3 h4 h5
  injection hv with hv
  subst hT hv
  have w1 := WpLaw.gw (sub_bytes h3 0 16) (subLaw_len (by omega))
  have w2 := hs_wp (h := gwLaw (subLaw zs 0 16)) WpLaw.zero h2 h4
  have h2' : n1 ≤ (List.take n1 bs).length := by rw [List.length_take]; omega
  have h4' : Bytes (List.take n1 bs) := h4.take n1
  have w3 := hs_wp (h := gwLaw (subLaw zs 0 16)) WpLaw.zero h2' h4'
  refine small_cap 1 1 g1 n1 c1 bs 5 rfl rfl h2 rfl rfl (small_ofG (R := R37s zs bs g0 g1 n1) (keep := [0,1,2,4]) eGp_ok hmA (f := 37) (fn := f37) (by kernel_rfl) (by kernel_rfl) FnOrc.nil rfl (R37s_ok ?_) R37s_val (by rw [R37s_tab]; show _ = [_, _, _, some (⟨.ints .u8 (heldLaw zs.length (ptLaw (hsLaw (gwLaw (subLaw zs 0 16)) [0, 0] (List.take n1 bs) n1))), 15, true, 5⟩ : AObj)]; rw [held_eq (by omega)]))
  simp only [allP, Con.h, w1, w3, h1, h2', h3, h4', h5, eq_self, true_and, and_true]
noncomputable def sm37sh : Summary := fun args T => sm37shc args T (xsAt T 0) (xsAt T 1) (gAt T 0) (gAt T 1) (lenOf (vAt args 1)) ((capOf (vAt args 1)).getD 0)
theorem sm37sh_ok : SmOk prog (fun _ => none) 37 sm37sh := fun args T h => sm37shc_ok h
noncomputable def S37sh : Summary := callR sm37sh []
theorem S37sh_ok : SumOk prog (fun _ => none) 37 S37sh := callR_ok sm37sh_ok []
noncomputable def eV3 : Env := eA [(30, S30), (31, S31), (34, S34), (35, S35h), (37, S37sh)]
theorem eV3_ok : EnvOk eV3 := envOf_ok tysA_ok (SumsOk.cons (fn := f30) S30_ok (by kernel_rfl) (by kernel_rfl) (by kernel_rfl) (SumsOk.cons (fn := f31) S31_ok (by kernel_rfl) (by kernel_rfl) (by kernel_rfl) (SumsOk.cons (fn := f34) S34_ok (by kernel_rfl) (by kernel_rfl) (by kernel_rfl) (SumsOk.cons (fn := f35) S35h_ok (by kernel_rfl) (by kernel_rfl) (by kernel_rfl) (SumsOk.cons (fn := f37) S37sh_ok (by kernel_rfl) (by kernel_rfl) (by kernel_rfl) trivial)))))
end Go.Abs

set_option linter.unusedVariables false
set_option linter.unusedSimpArgs false
set_option maxRecDepth 8000
namespace Go.Abs
open Go.Proofs.Try
/-! ### GcmLaws: the loop, the law -/
noncomputable def A14 (w0 w1 w2 w3 w4 w5 w6 w7 w8 w9 w10 w11 w12 w13 : List Int) (k : Int) : Out := trim 14 14 [0, 1, 2, 7, 9, 13, 15, 17, 19, 20, 21] (run eV3 176 ⟨14, []⟩ 400 (roundOf 0 f14) [(0, .slice 1 3 0 0 16 (some 16)), (1, .slice 1 4 0 0 16 (some 16)), (2, .slice 1 5 0 0 16 (some 16)), (7, .slice 1 6 15 0 16 none), (9, .slice 1 7 15 0 16 none), (13, .slice 1 9 15 0 16 none), (15, .slice 1 10 15 0 16 none), (17, .slice 1 11 15 0 16 none), (19, .slice 1 12 0 0 16 (some 16)), (20, .slice 1 13 0 0 16 (some 16)), (21, .int .i64 k)] [some ⟨.ints .u8 w0, 0, false, 5⟩, some ⟨.ints .u8 w1, 0, false, 5⟩, some ⟨.ints .u8 w2, 0, false, 5⟩, some ⟨.ints .u8 w3, 0, true, 5⟩, some ⟨.ints .u8 w4, 0, true, 5⟩, some ⟨.ints .u8 w5, 0, true, 5⟩, some ⟨.ints .u8 w6, 15, true, 5⟩, some ⟨.ints .u8 w7, 15, true, 5⟩, some ⟨.ints .u8 w8, 15, true, 5⟩, some ⟨.ints .u8 w9, 15, true, 5⟩, some ⟨.ints .u8 w10, 15, true, 5⟩, some ⟨.ints .u8 w11, 15, true, 5⟩, some ⟨.ints .u8 w12, 0, true, 5⟩, some ⟨.ints .u8 w13, 0, true, 5⟩] [some true])
theorem A14_ok {w0 w1 w2 w3 w4 w5 w6 w7 w8 w9 w10 w11 w12 w13 : List Int} {k : Int} (h : allP [.p (decide (k < 16) = true), .leI 0 k, .leI (k + 1) 16, .leN (k.toNat + 1) w4.length, .leI 0 k, .leI (k + 1) 16, .leN (k.toNat + 1) w5.length, .nn .u8 (w4.getD k.toNat 0), .nn .u8 (w5.getD k.toNat 0), .leI 0 k, .leI (k + 1) 16, .leN (k.toNat + 1) w12.length, .leI 0 k, .leI (k + 1) 16, .leN (k.toNat + 1)
 w6.length, .leI 0 k, .leI (k + 1) 16, .leN (k.toNat + 1) w11.length, .nn .u8 (w6.getD k.toNat 0), .nn .u8 (w11.getD k.toNat 0), .leI 0 k, .leI (k + 1) 16, .leN (k.toNat + 1) w13.length, .rng (-9223372036854775808) (k + 1) 9223372036854775807]) : Ok (A14 w0 w1 w2 w3 w4 w5 w6 w7 w8 w9 w10 w11 w12 w13 k) := Ok.dem (fl := bitsF 44 3060509590692) (by kernel_rfl) (by kernel_rfl) (by kernel_rfl) h
theorem A14_ex {w0 w1 w2 w3 w4 w5 w6 w7 w8 w9 w10 w11 w12 w13 : List Int} {k : Int} : (A14 w0 w1 w2 w3 w4 w5 w6 w7 w8 w9 w10 w11 w12 w13 k).ex = .normal := by kernel_rfl
theorem A14_fm {w0 w1 w2 w3 w4 w5 w6 w7 w8 w9 w10 w11 w12 w13 : List Int} {k : Int} : (A14 w0 w1 w2 w3 w4 w5 w6 w7 w8 w9 w10 w11 w12 w13 k).fm = [(0, .slice 1 3 0 0 16 (some 16)), (1, .slice 1 4 0 0 16 (some 16)), (2, .slice 1 5 0 0 16 (some 16)), (7, .slice 1 6 15 0 16 none), (9, .slice 1 7 15 0 16 none), (13, .slice 1 9 15 0 16 none), (15, .slice 1 10 15 0 16 none), (17, .slice 1 11 15 0 16
 none), (19, .slice 1 12 0 0 16 (some 16)), (20, .slice 1 13 0 0 16 (some 16)), (21, .int .i64 (k + 1))] := by kernel_rfl
theorem A14_tab {w0 w1 w2 w3 w4 w5 w6 w7 w8 w9 w10 w11 w12 w13 : List Int} {k : Int} : (A14 w0 w1 w2 w3 w4 w5 w6 w7 w8 w9 w10 w11 w12 w13 k).tab = [some ⟨.ints .u8 w0, 0, false, 5⟩, some ⟨.ints .u8 w1, 0, false, 5⟩, some ⟨.ints .u8 w2, 0, false, 5⟩, some ⟨.ints .u8 w3, 0, true, 5⟩, some ⟨.ints .u8 w4, 0, true, 5⟩, some ⟨.ints .u8 w5, 0, true, 5⟩, some ⟨.ints .u8 w6, 15, true, 5⟩, some ⟨.ints .u8
 w7, 15, true, 5⟩, some ⟨.ints .u8 w8, 15, true, 5⟩, some ⟨.ints .u8 w9, 15, true, 5⟩, some ⟨.ints .u8 w10, 15, true, 5⟩, some ⟨.ints .u8 w11, 15, true, 5⟩, some ⟨.ints .u8 (w12.set k.toNat (ixor (w4.getD k.toNat 0) (w5.getD k.toNat 0))), 0, true, 5⟩, some ⟨.ints .u8 (w13.set k.toNat (ixor (w6.getD k.toNat 0) (w11.getD k.toNat 0))), 0, true, 5⟩] := by kernel_rfl
noncomputable def D14 (w0 w1 w2 w3 w4 w5 w6 w7 w8 w9 w10 w11 w12 w13 : List Int) : Out := trim 14 14 [0, 1, 7, 9, 13, 15, 19, 20] (run eV3 176 ⟨14, []⟩ 400 (roundOf 0 f14) [(0, .slice 1 3 0 0 16 (some 16)), (1, .slice 1 4 0 0 16 (some 16)), (2, .slice 1 5 0 0 16 (some 16)), (7, .slice 1 6 15 0 16 none), (9, .slice 1 7 15 0 16 none), (13, .slice 1 9 15 0 16 none), (15, .slice 1 10 15 0 16 none), (17, .slice 1 11 15 0 16 none), (19, .slice 1 12 0 0 16 (some 16)), (20, .slice 1 13 0 0 16 (some 16)), (21, .int .i64 16)] [some ⟨.ints .u8 w0, 0, false, 5⟩, some ⟨.ints .u8 w1, 0, false, 5⟩, some ⟨.ints .u8 w2, 0, false, 5⟩, some ⟨.ints .u8 w3, 0, true, 5⟩, some ⟨.ints .u8 w4, 0, true, 5⟩, some ⟨.ints .u8 w5, 0, true, 5⟩, some ⟨.ints .u8 w6, 15, true, 5⟩, some ⟨.ints .u8 w7, 15, true, 5⟩, some ⟨.ints .u8 w8, 15, true, 5⟩, some ⟨.ints .u8 w9, 15, true, 5⟩, some ⟨.ints .u8 w10, 15, true, 5⟩, some ⟨.ints .u8 w11, 15, true, 5⟩, some ⟨.ints .u8 w12, 0, true, 5⟩, some ⟨.ints .u8 w13, 0, true, 5⟩] [])
theorem D14_ok {w0 w1 w2 w3 w4 w5 w6 w7 w8 w9 w10 w11 w12 w13 : List Int} (h : allP []) : Ok (D14 w0 w1 w2 w3 w4 w5 w6 w7 w8 w9 w10 w11 w12 w13) := Ok.dem (fl := []) (by kernel_rfl) (by kernel_rfl) (by kernel_rfl) h
theorem D14_ex {w0 w1 w2 w3 w4 w5 w6 w7 w8 w9 w10 w11 w12 w13 : List Int} : (D14 w0 w1 w2 w3 w4 w5 w6 w7 w8 w9 w10 w11 w12 w13).ex = .exit 0 := by kernel_rfl
theorem D14_fm {w0 w1 w2 w3 w4 w5 w6 w7 w8 w9 w10 w11 w12 w13 : List Int} : (D14 w0 w1 w2 w3 w4 w5 w6 w7 w8 w9 w10 w11 w12 w13).fm = [(0, .slice 1 3 0 0 16 (some 16)), (1, .slice 1 4 0 0 16 (some 16)), (7, .slice 1 6 15 0 16 none), (9, .slice 1 7 15 0 16 none), (13, .slice 1 9 15 0 16 none), (15, .slice 1 10 15 0 16 none), (19, .slice 1 12 0 0 16 (some 16)), (20, .slice 1 13 0 0 16 (some 16))] :=
 by kernel_rfl
theorem D14_tab {w0 w1 w2 w3 w4 w5 w6 w7 w8 w9 w10 w11 w12 w13 : List Int} : (D14 w0 w1 w2 w3 w4 w5 w6 w7 w8 w9 w10 w11 w12 w13).tab = [some ⟨.ints .u8 w0, 0, false, 5⟩, some ⟨.ints .u8 w1, 0, false, 5⟩, some ⟨.ints .u8 w2, 0, false, 5⟩, some ⟨.ints .u8 w3, 0, true, 5⟩, some ⟨.ints .u8 w4, 0, true, 5⟩, some ⟨.ints .u8 w5, 0, true, 5⟩, some ⟨.ints .u8 w6, 15, true, 5⟩, some ⟨.ints .u8 w7, 15, true,
 5⟩, some ⟨.ints .u8 w8, 15, true, 5⟩, some ⟨.ints .u8 w9, 15, true, 5⟩, some ⟨.ints .u8 w10, 15, true, 5⟩, some ⟨.ints .u8 w11, 15, true, 5⟩, some ⟨.ints .u8 w12, 0, true, 5⟩, some ⟨.ints .u8 w13, 0, true, 5⟩] := by kernel_rfl
def sxLaw (a b : List Int) (k : Nat) : List Int := l16 fun j => if j < k then ixor (a.getD j 0) (b.getD j 0) else 0
theorem l16_setH {f : Nat → Int} {k : Nat} (hk : k < 16) (v : Int) : (l16 f).set k v = l16 (fun j => if j = k then v else f j) := by
  match k, hk with
  | 0, _ => rfl | 1, _ => rfl | 2, _ => rfl | 3, _ => rfl | 4, _ => rfl | 5, _ => rfl | 6, _ => rfl | 7, _ => rfl
  | 8, _ => rfl | 9, _ => rfl | 10, _ => rfl | 11, _ => rfl | 12, _ => rfl | 13, _ => rfl | 14, _ => rfl | 15, _ => rfl
  | n + 16, h => exact absurd h (by omega)
theorem sx_step {a b : List Int} {k : Nat} (hk : k < 16) : (sxLaw a b k).set k (ixor (a.getD k 0) (b.getD k 0)) = sxLaw a b (k + 1) := by
  unfold sxLaw
  rw [l16_setH hk]
  refine l16_congr fun j hj => ?_
  by_cases h : j = k
  · subst h; rw [if_pos rfl, if_pos (Nat.lt_succ_self j)]
  · by_cases h2 : j < k
    · rw [if_neg h, if_pos h2, if_pos (by omega)]
    · rw [if_neg h, if_neg h2, if_neg (by omega)]
theorem sx_end (a b : List Int) : sxLaw a b 16 = plusLaw a b := l16_congr fun j hj => if_pos hj
theorem sx_zero (a b : List Int) : sxLaw a b 0 = [0, 0, 0, 0, 0, 0, 0, 0, 0, 0, 0, 0, 0, 0, 0, 0] := rfl
theorem sx_len (a b : List Int) (k : Nat) : (sxLaw a b k).length = 16 := rfl
theorem loop14 {w0 w1 w2 w3 w4 w5 w6 w7 w8 w9 w10 w11 : List Int} (l4 : w4.length = 16) (l5 : w5.length = 16) (l6 : w6.length = 16) (l11 : w11.length = 16) (b4 : Bytes w4) (b5 : Bytes w5) (b6 : Bytes w6) (b11 : Bytes w11) :
    To eV3 176 14 (.block 0 (.loop (roundOf 0 f14))) [(0, .slice 1 3 0 0 16 (some 16)), (1, .slice 1 4 0 0 16 (some 16)), (2, .slice 1 5 0 0 16 (some 16)), (7, .slice 1 6 15 0 16 none), (9, .slice 1 7 15 0 16 none), (13, .slice 1 9 15 0 16 none), (15, .slice 1 10 15 0 16 none), (17, .slice 1 11 15 0 16 none), (19, .slice 1 12 0 0 16 (some 16)), (20, .slice 1 13 0 0 16 (some 16)), (21, .int .i64 0)] [some ⟨.ints .u8 w0, 0, false, 5⟩, some ⟨.ints .u8 w1, 0, false, 5⟩, some ⟨.ints .u8 w2, 0, false, 5⟩, some ⟨.ints .u8 w3, 0, true, 5⟩, some ⟨.ints .u8 w4, 0, true, 5⟩, some ⟨.ints .u8 w5, 0, true, 5⟩, some ⟨.ints .u8 w6, 15, true, 5⟩, some ⟨.ints .u8 w7, 15, true, 5⟩, some ⟨.ints .u8 w8, 15, true, 5⟩, some ⟨.ints .u8 w9, 15, true, 5⟩, some ⟨.ints .u8 w10, 15, true, 5⟩, some ⟨.ints .u8 w11, 15, true, 5⟩, some ⟨.ints .u8 [0, 0, 0, 0, 0, 0, 0, 0, 0, 0, 0, 0, 0, 0, 0, 0], 0, true, 5⟩, some ⟨.ints .u8 [0, 0, 0, 0, 0, 0, 0, 0, 0, 0, 0, 0, 0, 0, 0, 0], 0, true, 5⟩] .normal [(0, .slice 1 3 0 0 16 (some 16)), (1, .slice 1 4 0 0 16 (some 16)), (7, .slice 1 6 15 0 16 none), (9, .slice 1 7 15 0 16 none), (13, .slice 1 9 15 0 16 none), (15, .slice 1 10 15 0 16 none), (19, .slice 1 12 0 0 16 (some 16)), (20, .slice 1 13 0 0 16 (some 16))] [some ⟨.ints .u8 w0, 0, false, 5⟩, some ⟨.ints .u8 w1, 0, false, 5⟩, some ⟨.ints .u8 w2, 0, false, 5⟩, some ⟨.ints .u8 w3, 0, true, 5⟩, some ⟨.ints .u8 w4, 0, true, 5⟩, some ⟨.ints .u8 w5, 0, true, 5⟩, some ⟨.ints .u8 w6, 15, true, 5⟩, some ⟨.ints .u8 w7, 15, true, 5⟩, some ⟨.ints .u8 w8, 15, true, 5⟩, some ⟨.ints .u8 w9, 15, true, 5⟩, some ⟨.ints .u8 w10, 15, true, 5⟩, some ⟨.ints .u8 w11, 15, true, 5⟩, some ⟨.ints .u8 (plusLaw w4 w5), 0, true, 5⟩, some ⟨.ints .u8 (plusLaw w6 w11), 0, true, 5⟩] := by
  have := To.rounds (E := eV3) (n := 176) (k := 14) (id := 0) (c := roundOf 0 f14) (fun k : Nat => [(0, .slice 1 3 0 0 16 (some 16)), (1, .slice 1 4 0 0 16 (some 16)), (2, .slice 1 5 0 0 16 (some 16)), (7, .slice 1 6 15 0 16 none), (9, .slice 1 7 15 0 16 none), (13, .slice 1 9 15 0 16 none), (15, .slice 1 10 15 0 16 none), (17, .slice 1 11 15 0 16 none), (19, .slice 1 12 0 0 16 (some 16)), (20, .slice 1 13 0 0 16 (some 16)), (21, .int .i64 (k : Nat))]) (fun k => [some ⟨.ints .u8 w0, 0, false, 5⟩, some ⟨.ints .u8 w1, 0, false, 5⟩, some ⟨.ints .u8 w2, 0, false, 5⟩, some ⟨.ints .u8 w3, 0, true, 5⟩, some ⟨.ints .u8 w4, 0, true, 5⟩, some ⟨.ints .u8 w5, 0, true, 5⟩, some ⟨.ints .u8 w6, 15, true, 5⟩, some ⟨.ints .u8 w7, 15, true, 5⟩, some ⟨.ints .u8 w8, 15, true, 5⟩, some ⟨.ints .u8 w9, 15, true, 5⟩, some ⟨.ints .u8 w10, 15, true, 5⟩, some ⟨.ints .u8 w11, 15, true, 5⟩, some ⟨.ints .u8 (sxLaw w4 w5 k), 0, true, 5⟩, some ⟨.ints .u8 (sxLaw w6 w11 k), 0, true, 5⟩]) 16 (fun k hk => ?_) (To.of (o := D14 w0 w1 w2 w3 w4 w5 w6 w7 w8 w9 w10 w11 (sxLaw w4 w5 16) (sxLaw w6 w11 16)) eV3_ok hmA (Nat.le_refl 14) OrcOk.nil rfl (D14_ok trivial) D14_ex D14_fm D14_tab)
  · rw [sx_zero, sx_zero, sx_end, sx_end] at this
    exact this
  · have h4 := b4.get k
    have h5 := b5.get k
    have h6 := b6.get k
    have h11 := b11.get k
    refine To.of (o := A14 w0 w1 w2 w3 w4 w5 w6 w7 w8 w9 w10 w11 (sxLaw w4 w5 k) (sxLaw w6 w11 k) (k : Nat)) eV3_ok hmA (Nat.le_refl 14) OrcOk.nil rfl (A14_ok ?_) A14_ex A14_fm ?_
    · simp only [allP, Con.h, nonneg, addO_eq, Nat.zero_add, Nat.add_zero, Int.toNat_natCast, sx_len, l4, l5, l6, l11, decide_eq_true_eq, eq_self, true_and, and_true]
      omega
    · rw [A14_tab]
      try simp only [addO_eq, Nat.zero_add, Nat.add_zero, Int.toNat_natCast]
      rw [sx_step hk, sx_step hk]
theorem AWp.cutTG {E : Env} (hE : EnvOk E) (hm : E.P.follows .mixedOrders = true) {n k m : Nat} {f : Nat} {post : AExit → Fm → Tab → Prop} {c : Code} (j : Nat) {fm : Fm} {T : Tab} {ds : List (Option Bool)} {slots : List Nat} {o : Out} (ho : Abs.trim k m slots (runs E n ⟨k, []⟩ f (frontC j c) fm T ds) = o) (hc : Ok o) (hx : o.ex = .normal) (h : AWp E n k (backC j c) o.fm o.tab post) : AWp E n k c fm T post := by
  generalize hr : runs E n ⟨k, []⟩ f (frontC j c) fm T ds = r at ho
  obtain ⟨cs, ex, fm1, T1, ds1⟩ := r
  unfold Abs.trim at ho
  simp only at ho
  split at ho
  · rename_i g hp hb
    subst ho
    exact AWp.cut hE hm j hr ⟨hc.h⟩ hx (AWp.enter hp hb h)
  · subst ho
    exact absurd hc.h failO_no
noncomputable def c14a : Code := match backC 13 (bodyOf f14) with | .seq (.seq a _) _ => a | c => c
noncomputable def c14c : Code := match backC 13 (bodyOf f14) with | .seq _ c => c | c => c
theorem split14 : backC 13 (bodyOf f14) = .seq (.seq c14a (.block 0 (.loop (roundOf 0 f14)))) c14c := by kernel_rfl
noncomputable def N14 (z0 z1 z2 : List Int) (n0 n1 n2 : Nat) : Out := trim 3 14 [0, 1, 2, 7, 9, 13, 15, 17, 19, 20] (runs eV3 176 ⟨3, []⟩ 400 (frontC 13 (bodyOf f14)) [(0, .slice 1 0 0 0 n0 (some z0.length)), (1, .slice 1 1 0 0 n1 (some z1.length)), (2, .slice 1 2 0 0 n2 (some z2.length))] [some ⟨.ints .u8 z0, 0, false, 5⟩, some ⟨.ints .u8 z1, 0, false, 5⟩, some ⟨.ints .u8 z2, 0, false, 5⟩] [])
theorem N14_ok {z0 z1 z2 : List Int} {n0 n1 n2 : Nat} (h : allP [.leN n0 z0.length, .leN n1 z1.length, .leN n2 z2.length, .leN 16 (fitLaw 16 z0 n0).length, .leN 16 (fitLaw 16 z1 n1).length, .p (Bytes (fitLaw 16 z0 n0)), .p (Bytes (fitLaw 16 z1 n1)), .leN 16 (fitLaw 16 z1 n1).length, .leN 16 (fitLaw 16 z0 n0).length, .p (Bytes (fitLaw 16 z1 n1)), .p (Bytes (fitLaw 16 z0 n0)), .leN 16 (fitLaw 16 z1
 n1).length, .leN 16 (fitLaw 16 z2 n2).length, .p (Bytes (fitLaw 16 z1 n1)), .p (Bytes (fitLaw 16 z2 n2)), .leN 16 (heldLaw (fitLaw 16 z0 n0).length (ptLaw (mwLaw (gwLaw (subLaw (fitLaw 16 z0 n0) 0 16)) (gwLaw (subLaw (fitLaw 16 z1 n1) 0 16))))).length, .leN 16 (fitLaw 16 z2 n2).length, .p (Bytes (heldLaw (fitLaw 16 z0 n0).length (ptLaw (mwLaw (gwLaw (subLaw (fitLaw 16 z0 n0) 0 16)) (gwLaw (subLaw
 (fitLaw 16 z1 n1) 0 16)))))), .p (Bytes (fitLaw 16 z2 n2)), .leN 16 (fitLaw 16 z0 n0).length, .leN 16 (heldLaw (fitLaw 16 z1 n1).length (ptLaw (mwLaw (gwLaw (subLaw (fitLaw 16 z1 n1) 0 16)) (gwLaw (subLaw (fitLaw 16 z2 n2) 0 16))))).length, .p (Bytes (fitLaw 16 z0 n0)), .p (Bytes (heldLaw (fitLaw 16 z1 n1).length (ptLaw (mwLaw (gwLaw (subLaw (fitLaw 16 z1 n1) 0 16)) (gwLaw (subLaw (fitLaw 16 z2 n2)
 0 16)))))), .leN 16 (fitLaw 16 z0 n0).length, .leN 16 (fitLaw 16 z2 n2).length, .p (Bytes (fitLaw 16 z0 n0)), .p (Bytes (fitLaw 16 z2 n2))]) : Ok (N14 z0 z1 z2 n0 n1 n2) := Ok.dem (fl := bitsF 77 37777792505234962002193) (by kernel_rfl) (by kernel_rfl) (by kernel_rfl) h
theorem N14_ex {z0 z1 z2 : List Int} {n0 n1 n2 : Nat} : (N14 z0 z1 z2 n0 n1 n2).ex = .normal := by kernel_rfl
theorem N14_fm {z0 z1 z2 : List Int} {n0 n1 n2 : Nat} : (N14 z0 z1 z2 n0 n1 n2).fm = [(0, .slice 1 3 0 0 16 (some 16)), (1, .slice 1 4 0 0 16 (some 16)), (2, .slice 1 5 0 0 16 (some 16)), (7, .slice 1 6 15 0 16 none), (9, .slice 1 7 15 0 16 none), (13, .slice 1 9 15 0 16 none), (15, .slice 1 10 15 0 16 none), (17, .slice 1 11 15 0 16 none), (19, .slice 1 12 0 0 16 (some 16)), (20, .slice 1 13 0 0
 16 (some 16))] := by kernel_rfl
theorem N14_tab {z0 z1 z2 : List Int} {n0 n1 n2 : Nat} : (N14 z0 z1 z2 n0 n1 n2).tab = [some ⟨.ints .u8 z0, 0, false, 5⟩, some ⟨.ints .u8 z1, 0, false, 5⟩, some ⟨.ints .u8 z2, 0, false, 5⟩, some ⟨.ints .u8 (fitLaw 16 z0 n0), 0, true, 5⟩, some ⟨.ints .u8 (fitLaw 16 z1 n1), 0, true, 5⟩, some ⟨.ints .u8 (fitLaw 16 z2 n2), 0, true, 5⟩, some ⟨.ints .u8 (heldLaw (fitLaw 16 z0 n0).length (ptLaw (mwLaw
 (gwLaw (subLaw (fitLaw 16 z0 n0) 0 16)) (gwLaw (subLaw (fitLaw 16 z1 n1) 0 16))))), 15, true, 5⟩, some ⟨.ints .u8 (heldLaw (fitLaw 16 z1 n1).length (ptLaw (mwLaw (gwLaw (subLaw (fitLaw 16 z1 n1) 0 16)) (gwLaw (subLaw (fitLaw 16 z0 n0) 0 16))))), 15, true, 5⟩, some ⟨.ints .u8 (heldLaw (fitLaw 16 z1 n1).length (ptLaw (mwLaw (gwLaw (subLaw (fitLaw 16 z1 n1) 0 16)) (gwLaw (subLaw (fitLaw 16 z2 n2) 0
 16))))), 15, true, 5⟩, some ⟨.ints .u8 (heldLaw (heldLaw (fitLaw 16 z0 n0).length (ptLaw (mwLaw (gwLaw (subLaw (fitLaw 16 z0 n0) 0 16)) (gwLaw (subLaw (fitLaw 16 z1 n1) 0 16))))).length (ptLaw (mwLaw (gwLaw (subLaw (heldLaw (fitLaw 16 z0 n0).length (ptLaw (mwLaw (gwLaw (subLaw (fitLaw 16 z0 n0) 0 16)) (gwLaw (subLaw (fitLaw 16 z1 n1) 0 16))))) 0 16)) (gwLaw (subLaw (fitLaw 16 z2 n2) 0 16))))), 15,
 true, 5⟩, some ⟨.ints .u8 (heldLaw (fitLaw 16 z0 n0).length (ptLaw (mwLaw (gwLaw (subLaw (fitLaw 16 z0 n0) 0 16)) (gwLaw (subLaw (heldLaw (fitLaw 16 z1 n1).length (ptLaw (mwLaw (gwLaw (subLaw (fitLaw 16 z1 n1) 0 16)) (gwLaw (subLaw (fitLaw 16 z2 n2) 0 16))))) 0 16))))), 15, true, 5⟩, some ⟨.ints .u8 (heldLaw (fitLaw 16 z0 n0).length (ptLaw (mwLaw (gwLaw (subLaw (fitLaw 16 z0 n0) 0 16)) (gwLaw
 (subLaw (fitLaw 16 z2 n2) 0 16))))), 15, true, 5⟩, some ⟨.ints .u8 [0, 0, 0, 0, 0, 0, 0, 0, 0, 0, 0, 0, 0, 0, 0, 0], 0, true, 5⟩, some ⟨.ints .u8 [0, 0, 0, 0, 0, 0, 0, 0, 0, 0, 0, 0, 0, 0, 0, 0], 0, true, 5⟩] := by kernel_rfl
noncomputable def J14 (w0 w1 w2 w3 w4 w5 w6 w7 w8 w9 w10 w11 w12 w13 : List Int) : Out := trim 14 14 [0, 1, 2, 7, 9, 13, 15, 17, 19, 20, 21] (run eV3 176 ⟨14, []⟩ 400 c14a [(0, .slice 1 3 0 0 16 (some 16)), (1, .slice 1 4 0 0 16 (some 16)), (2, .slice 1 5 0 0 16 (some 16)), (7, .slice 1 6 15 0 16 none), (9, .slice 1 7 15 0 16 none), (13, .slice 1 9 15 0 16 none), (15, .slice 1 10 15 0 16 none), (17, .slice 1 11 15 0 16 none), (19, .slice 1 12 0 0 16 (some 16)), (20, .slice 1 13 0 0 16 (some 16))] [some ⟨.ints .u8 w0, 0, false, 5⟩, some ⟨.ints .u8 w1, 0, false, 5⟩, some ⟨.ints .u8 w2, 0, false, 5⟩, some ⟨.ints .u8 w3, 0, true, 5⟩, some ⟨.ints .u8 w4, 0, true, 5⟩, some ⟨.ints .u8 w5, 0, true, 5⟩, some ⟨.ints .u8 w6, 15, true, 5⟩, some ⟨.ints .u8 w7, 15, true, 5⟩, some ⟨.ints .u8 w8, 15, true, 5⟩, some ⟨.ints .u8 w9, 15, true, 5⟩, some ⟨.ints .u8 w10, 15, true, 5⟩, some ⟨.ints .u8 w11, 15, true, 5⟩, some ⟨.ints .u8 w12, 0, true, 5⟩, some ⟨.ints .u8 w13, 0, true, 5⟩] [])
theorem J14_ok {w0 w1 w2 w3 w4 w5 w6 w7 w8 w9 w10 w11 w12 w13 : List Int} (h : allP []) : Ok (J14 w0 w1 w2 w3 w4 w5 w6 w7 w8 w9 w10 w11 w12 w13) := Ok.dem (fl := []) (by kernel_rfl) (by kernel_rfl) (by kernel_rfl) h
theorem J14_ex {w0 w1 w2 w3 w4 w5 w6 w7 w8 w9 w10 w11 w12 w13 : List Int} : (J14 w0 w1 w2 w3 w4 w5 w6 w7 w8 w9 w10 w11 w12 w13).ex = .normal := by kernel_rfl
theorem J14_fm {w0 w1 w2 w3 w4 w5 w6 w7 w8 w9 w10 w11 w12 w13 : List Int} : (J14 w0 w1 w2 w3 w4 w5 w6 w7 w8 w9 w10 w11 w12 w13).fm = [(0, .slice 1 3 0 0 16 (some 16)), (1, .slice 1 4 0 0 16 (some 16)), (2, .slice 1 5 0 0 16 (some 16)), (7, .slice 1 6 15 0 16 none), (9, .slice 1 7 15 0 16 none), (13, .slice 1 9 15 0 16 none), (15, .slice 1 10 15 0 16 none), (17, .slice 1 11 15 0 16 none), (19,
 .slice 1 12 0 0 16 (some 16)), (20, .slice 1 13 0 0 16 (some 16)), (21, .int .i64 0)] := by kernel_rfl
theorem J14_tab {w0 w1 w2 w3 w4 w5 w6 w7 w8 w9 w10 w11 w12 w13 : List Int} : (J14 w0 w1 w2 w3 w4 w5 w6 w7 w8 w9 w10 w11 w12 w13).tab = [some ⟨.ints .u8 w0, 0, false, 5⟩, some ⟨.ints .u8 w1, 0, false, 5⟩, some ⟨.ints .u8 w2, 0, false, 5⟩, some ⟨.ints .u8 w3, 0, true, 5⟩, some ⟨.ints .u8 w4, 0, true, 5⟩, some ⟨.ints .u8 w5, 0, true, 5⟩, some ⟨.ints .u8 w6, 15, true, 5⟩, some ⟨.ints .u8 w7, 15, true,
 5⟩, some ⟨.ints .u8 w8, 15, true, 5⟩, some ⟨.ints .u8 w9, 15, true, 5⟩, some ⟨.ints .u8 w10, 15, true, 5⟩, some ⟨.ints .u8 w11, 15, true, 5⟩, some ⟨.ints .u8 w12, 0, true, 5⟩, some ⟨.ints .u8 w13, 0, true, 5⟩] := by kernel_rfl
noncomputable def Z14 (w0 w1 w2 w3 w4 w5 w6 w7 w8 w9 w10 w11 w12 w13 : List Int) : Out := trim 3 3 [6] (run eV3 176 ⟨3, []⟩ 400 c14c [(0, .slice 1 3 0 0 16 (some 16)), (1, .slice 1 4 0 0 16 (some 16)), (7, .slice 1 6 15 0 16 none), (9, .slice 1 7 15 0 16 none), (13, .slice 1 9 15 0 16 none), (15, .slice 1 10 15 0 16 none), (19, .slice 1 12 0 0 16 (some 16)), (20, .slice 1 13 0 0 16 (some 16))] [some ⟨.ints .u8 w0, 0, false, 5⟩, some ⟨.ints .u8 w1, 0, false, 5⟩, some ⟨.ints .u8 w2, 0, false, 5⟩, some ⟨.ints .u8 w3, 0, true, 5⟩, some ⟨.ints .u8 w4, 0, true, 5⟩, some ⟨.ints .u8 w5, 0, true, 5⟩, some ⟨.ints .u8 w6, 15, true, 5⟩, some ⟨.ints .u8 w7, 15, true, 5⟩, some ⟨.ints .u8 w8, 15, true, 5⟩, some ⟨.ints .u8 w9, 15, true, 5⟩, some ⟨.ints .u8 w10, 15, true, 5⟩, some ⟨.ints .u8 w11, 15, true, 5⟩, some ⟨.ints .u8 w12, 0, true, 5⟩, some ⟨.ints .u8 w13, 0, true, 5⟩] [some true, some true, some true, some true, some true])
theorem Z14_ok {w0 w1 w2 w3 w4 w5 w6 w7 w8 w9 w10 w11 w12 w13 : List Int} (h : allP [.leN 16 w3.length, .leN 16 w12.length, .p (Bytes w3), .p (Bytes w12), .leN 16 w4.length, .leN 16 w3.length, .p (Bytes w4), .p (Bytes w3), .p (true = true), .leN 16 w6.length, .leN 16 w7.length, .p ((List.map byteOf (List.take 16 w6) == List.map byteOf (List.take 16 w7)) = true), .leN 16 w9.length, .leN 16
 w10.length, .p ((List.map byteOf (List.take 16 w9) == List.map byteOf (List.take 16 w10)) = true), .leN 16 (heldLaw w3.length (ptLaw (mwLaw (gwLaw (subLaw w3 0 16)) (gwLaw (subLaw w12 0 16))))).length, .leN 16 w13.length, .p ((List.map byteOf (List.take 16 (heldLaw w3.length (ptLaw (mwLaw (gwLaw (subLaw w3 0 16)) (gwLaw (subLaw w12 0 16)))))) == List.map byteOf (List.take 16 w13)) = true), .leN 16
 (heldLaw w4.length (ptLaw (hsLaw (gwLaw (subLaw w4 0 16)) [0, 0] (List.take 16 w3) 16))).length, .leN 16 w6.length, .p ((List.map byteOf (List.take 16 (heldLaw w4.length (ptLaw (hsLaw (gwLaw (subLaw w4 0 16)) [0, 0] (List.take 16 w3) 16)))) == List.map byteOf (List.take 16 w6)) = true)]) : Ok (Z14 w0 w1 w2 w3 w4 w5 w6 w7 w8 w9 w10 w11 w12 w13) := Ok.dem (fl := bitsF 39 88670405379) (by kernel_rfl)
 (by kernel_rfl) (by kernel_rfl) h
theorem Z14_ex {w0 w1 w2 w3 w4 w5 w6 w7 w8 w9 w10 w11 w12 w13 : List Int} : (Z14 w0 w1 w2 w3 w4 w5 w6 w7 w8 w9 w10 w11 w12 w13).ex = .ret := by kernel_rfl
theorem Z14_fm {w0 w1 w2 w3 w4 w5 w6 w7 w8 w9 w10 w11 w12 w13 : List Int} : (Z14 w0 w1 w2 w3 w4 w5 w6 w7 w8 w9 w10 w11 w12 w13).fm = [(6, .bool true)] := by kernel_rfl
theorem Z14_tab {w0 w1 w2 w3 w4 w5 w6 w7 w8 w9 w10 w11 w12 w13 : List Int} : (Z14 w0 w1 w2 w3 w4 w5 w6 w7 w8 w9 w10 w11 w12 w13).tab = [some ⟨.ints .u8 w0, 0, false, 5⟩, some ⟨.ints .u8 w1, 0, false, 5⟩, some ⟨.ints .u8 w2, 0, false, 5⟩] := by kernel_rfl
end Go.Abs

set_option linter.unusedVariables false
set_option linter.unusedSimpArgs false
set_option maxRecDepth 8000
namespace Go.Abs
open Go.Proofs.Try
def qLaw (A B : List Int) : List Int := ptLaw (mwLaw (gwLaw A) (gwLaw B))
theorem q_eq (A B : List Int) : qLaw A B = bN (mulN (nB A) (nB B)) := by
  unfold qLaw
  rw [show gwLaw A = wN (nB A) from rfl, show gwLaw B = wN (nB B) from rfl, mw_wN, pt_wN]
theorem q_len (A B : List Int) : (qLaw A B).length = 16 := rfl
theorem q_bytes (A B : List Int) : Bytes (qLaw A B) := pt_bytes _
theorem q_nB {A : List Int} (B : List Int) (ha : Bytes A) (la : A.length = 16) : nB (qLaw A B) = mulN (nB A) (nB B) := by
  rw [q_eq, nB_bN (mulN_lt _ (nB_lt16 ha la))]
theorem q_comm {A B : List Int} (ha : Bytes A) (la : A.length = 16) (hb : Bytes B) (lb : B.length = 16) : qLaw A B = qLaw B A := by
  rw [q_eq, q_eq, mulN_comm (nB_lt16 ha la) (nB_lt16 hb lb)]
theorem q_assoc {A B C : List Int} (ha : Bytes A) (la : A.length = 16) (hb : Bytes B) (lb : B.length = 16) (hc : Bytes C) (lc : C.length = 16) : qLaw (qLaw A B) C = qLaw A (qLaw B C) := by
  rw [q_eq (qLaw A B), q_eq A (qLaw B C), q_nB B ha la, q_nB C hb lb, mulN_assoc (nB_lt16 ha la) (nB_lt16 hb lb) (nB_lt16 hc lc)]
theorem q_plus {A B C : List Int} (hb : Bytes B) (lb : B.length = 16) (hc : Bytes C) (lc : C.length = 16) : qLaw A (plusLaw B C) = plusLaw (qLaw A B) (qLaw A C) := by
  rw [q_eq, nB_plus hb hc lb lc, mulN_xor, bN_xor, ← q_eq, ← q_eq]
theorem q_hash {A B : List Int} (ha : Bytes A) (la : A.length = 16) (hb : Bytes B) (lb : B.length = 16) : ptLaw (hsLaw (gwLaw B) [0, 0] A 16) = qLaw A B := by
  have e : hsLaw (gwLaw B) [0, 0] A 16 = mwLaw (xwLaw [0, 0] (gwLaw (ckLaw A 16 0))) (gwLaw B) := rfl
  have ec : ckLaw A 16 0 = A := by rw [ck_full (by omega)]; exact sub_n la
  have e0 : ([0, 0] : List Int) = wN 0 := by kernel_rfl
  rw [e, ec, e0, show gwLaw A = wN (nB A) from rfl, show gwLaw B = wN (nB B) from rfl, xw_wN, Nat.zero_xor, mw_wN, pt_wN, q_eq]
theorem held16 (l : List Int) : heldLaw 16 l = l := rfl
theorem law14 {z0 z1 z2 : List Int} {n0 n1 n2 : Nat} (k0 : n0 ≤ z0.length) (h0 : ∀ z ∈ z0, 0 ≤ z ∧ z < 256) (m0 : z0.length ≤ 140737488351232) (k1 : n1 ≤ z1.length) (h1 : ∀ z ∈ z1, 0 ≤ z ∧ z < 256) (m1 : z1.length ≤ 140737488351232) (k2 : n2 ≤ z2.length) (h2 : ∀ z ∈ z2, 0 ≤ z ∧ z < 256) (m2 : z2.length ≤ 140737488351232) :
    Small prog (fun _ => none) 14 [.slice 1 0 0 0 n0 (some z0.length), .slice 1 1 0 0 n1 (some z1.length), .slice 1 2 0 0 n2 (some z2.length)] [some ⟨.ints .u8 z0, 0, false, 5⟩, some ⟨.ints .u8 z1, 0, false, 5⟩, some ⟨.ints .u8 z2, 0, false, 5⟩] (.bool true)
      [some ⟨.ints .u8 z0, 0, false, 5⟩, some ⟨.ints .u8 z1, 0, false, 5⟩, some ⟨.ints .u8 z2, 0, false, 5⟩] := by
  have lA := fit_len (k := 16) k0
  have lB := fit_len (k := 16) k1
  have lC := fit_len (k := 16) k2
  have bA := fit_bytes (k := 16) k0 (Bytes.of h0)
  have bB := fit_bytes (k := 16) k1 (Bytes.of h1)
  have bC := fit_bytes (k := 16) k2 (Bytes.of h2)
  have q1 : ∀ X Y : List Int, ptLaw (mwLaw (gwLaw X) (gwLaw Y)) = qLaw X Y := fun _ _ => rfl
  refine small_of_awp eV3_ok (f := 14) (fn := f14) (c := bodyOf f14) (by kernel_rfl) (by kernel_rfl) (by kernel_rfl) ?_
  show AWp eV3 176 3 (bodyOf f14) [(0, .slice 1 0 0 0 n0 (some z0.length)), (1, .slice 1 1 0 0 n1 (some z1.length)), (2, .slice 1 2 0 0 n2 (some z2.length))] _ _
  have hN : Ok (N14 z0 z1 z2 n0 n1 n2) := by
    refine N14_ok ?_
    simp only [lA, lB, lC, held16, q1, sub_n lA, sub_n lB, sub_n lC, sub_n (q_len _ _), q_len]
    have c1 := q_bytes (fitLaw 16 z0 n0) (fitLaw 16 z1 n1)
    have c2 := q_bytes (fitLaw 16 z1 n1) (fitLaw 16 z2 n2)
    simp only [allP, Con.h, bA, bB, bC, c1, c2, k0, k1, k2, q_len, lA, lB, lC, Nat.zero_add, eq_self, true_and, and_true]
    try omega
  refine AWp.cutTG eV3_ok hmA (m := 14) 13 (o := N14 z0 z1 z2 n0 n1 n2) rfl hN N14_ex ?_
  rw [split14, N14_fm, N14_tab]
  simp only [lA, lB, lC, held16, q1, sub_n lA, sub_n lB, sub_n lC, sub_n (q_len _ _), q_len]
  generalize fitLaw 16 z0 n0 = A at lA bA ⊢
  generalize fitLaw 16 z1 n1 = B at lB bB ⊢
  generalize fitLaw 16 z2 n2 = C at lC bC ⊢
  have sp := q_plus (A := A) bB lB bC lC
  have sb := plus_bytes bB bC
  refine AWp.seq (AWp.seq (AWp.mono (To.base (by decide) (To.of (k := 14) (o := J14 z0 z1 z2 A B C (qLaw A B) (qLaw B A) (qLaw B C) (qLaw (qLaw A B) C) (qLaw A (qLaw B C)) (qLaw A C) [0, 0, 0, 0, 0, 0, 0, 0, 0, 0, 0, 0, 0, 0, 0, 0] [0, 0, 0, 0, 0, 0, 0, 0, 0, 0, 0, 0, 0, 0, 0, 0]) eV3_ok hmA (Nat.le_refl 14) OrcOk.nil rfl (J14_ok trivial) J14_ex J14_fm J14_tab)) fun ex fm T hP => ?_))
  obtain ⟨rfl, rfl, rfl⟩ := hP
  refine AWp.mono (To.base (by decide) (loop14 (w0 := z0) (w1 := z1) (w2 := z2) (w3 := A) (w7 := qLaw B A) (w8 := qLaw B C) (w9 := qLaw (qLaw A B) C) (w10 := qLaw A (qLaw B C)) lB lC (q_len A B) (q_len A C) bB bC (q_bytes A B) (q_bytes A C))) fun ex fm T hP => ?_
  obtain ⟨rfl, rfl, rfl⟩ := hP
  refine AWp.mono (To.of (o := Z14 z0 z1 z2 A B C (qLaw A B) (qLaw B A) (qLaw B C) (qLaw (qLaw A B) C) (qLaw A (qLaw B C)) (qLaw A C) (plusLaw B C) (plusLaw (qLaw A B) (qLaw A C))) eV3_ok hmA (Nat.le_refl 3) OrcOk.nil rfl (Z14_ok ?_) Z14_ex Z14_fm Z14_tab) fun ex fm T hP => ?_
  · have lp : (plusLaw B C).length = 16 := rfl
    have lp2 : (plusLaw (qLaw A B) (qLaw A C)).length = 16 := rfl
    have tA : List.take 16 A = A := take_n lA
    rw [tA, lA, lB, held16, held16, q1, sub_n lA, sub_n lB, sub_n lp, q_hash bA lA bB lB, sp, q_comm bB lB bA lA, q_assoc bA lA bB lB bC lC]
    simp only [allP, Con.h, lA, lB, lC, lp, lp2, q_len, bA, bB, sb, beq_self_eq_true, Nat.le_refl, eq_self, true_and, and_true]
  · obtain ⟨rfl, rfl, rfl⟩ := hP
    exact ⟨.inr rfl, rfl, [], [.bool true], rfl, trivial, rfl⟩
end Go.Abs
