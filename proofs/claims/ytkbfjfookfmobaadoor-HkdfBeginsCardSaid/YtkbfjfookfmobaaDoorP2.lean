/- What functions of the given program come to, by the abstract machine: texts of a proof. -/
import Derived.Test.YtkbfjfookfmobaaDoorP1
set_option linter.unusedVariables false
set_option linter.unusedSimpArgs false
set_option maxRecDepth 8000
set_option maxHeartbeats 4000000
namespace Go.Abs
open Go.Proofs Go.Proofs.Tryd
/-! ### hmac: contracts -/
theorem sub_sum32 (l : List Int) : subLaw (sum32Law l) 0 32 = sum32Law l := sub_all (sum32_len l)
def keyLaw (k : List Int) : List Int := if 64 < k.length then sum32Law k else k
def hmLaw (k t : List Int) : List Int := sum32Law (xkLaw (repLaw 92) (keyLaw k) ++ sum32Law (xkLaw (repLaw 54) (keyLaw k) ++ t))
theorem hm_long {k t : List Int} (h : 64 < k.length) : hmLaw k t = sum32Law (xkLaw (repLaw 92) (sum32Law k) ++ sum32Law (xkLaw (repLaw 54) (sum32Law k) ++ t)) := by unfold hmLaw keyLaw; rw [if_pos h]
theorem hm_short {k t : List Int} (h : ¬ 64 < k.length) : hmLaw k t = sum32Law (xkLaw (repLaw 92) k ++ sum32Law (xkLaw (repLaw 54) k ++ t)) := by unfold hmLaw keyLaw; rw [if_neg h]
/-! texts s -/
noncomputable def sm40sc (args : List AVal) (T : Tab) (zs : List Int) (g : Nat) (ga : Nat) (off : Nat) (n : Nat) (cp : Option Nat) (ca : Option Nat) (t2 : List Int) (g2 : Nat) (o2 : Nat) (n2 : Nat) (c2 : Option Nat) : Res := ⟨[.tab T [some ⟨.ints .u8 zs, g, false, 5⟩, some ⟨.agg [.slice 1 2 g2 o2 n2 c2], ga, false, 22⟩, some ⟨.ints .u8 t2, g2, false, 5⟩], .val (.tuple args) (.tuple [.slice 1 0 g off n cp, .slice 1 1 ga 0 1 ca]), .leN (off + n) zs.length, .leN n 140737488355000, .p (BsLaw zs), .p (capLaw n cp), .leN (o2 + n2) t2.length, .p (BsLaw t2), .leN (64 + n2) 140737488355000], .slice 1 3 31 0 32 none, [some ⟨.ints .u8 zs, g, false, 5⟩, some ⟨.agg [.slice 1 2 g2 o2 n2 c2], ga, false, 22⟩, some ⟨.ints .u8 t2, g2, false, 5⟩, some ⟨.ints .u8 (hmLaw (subLaw zs off n) (subLaw t2 o2 n2)), 31, true, 5⟩]⟩
theorem sm40sc_ok {args : List AVal} {T : Tab} {zs : List Int} {g : Nat} {ga : Nat} {off : Nat} {n : Nat} {cp : Option Nat} {ca : Option Nat} {t2 : List Int} {g2 : Nat} {o2 : Nat} {n2 : Nat} {c2 : Option Nat} (h : allP (sm40sc args T zs g ga off n cp ca t2 g2 o2 n2 c2).cs) : Small prog glS 40 args T (sm40sc args T zs g ga off n cp ca t2 g2 o2 n2 c2).val (sm40sc args T zs g ga off n cp ca t2 g2 o2 n2 c2).tab := by
  obtain ⟨hT, hv, h1, h2, h3, h4, h5, h6, h7, _⟩ := h
  simp only [Con.h] at hT hv h1 h2 h3 h4 h5 h6 h7
  injection hv with hv
  subst hT hv
  have hk := subLaw_len h1
  by_cases hl : 64 < n
  · refine small_ofG (R := R40sa zs g ga off n cp ca t2 g2 o2 n2 c2) (keep := [0, 1, 2, 6]) eH_ok hmS (f := 40) (fn := f40) (by kernel_rfl) (by kernel_rfl) FnOrc.nil rfl (R40sa_ok ?_) R40sa_val ?_
    · simp only [allP, Con.h, sum32_bs, h1, h2, h3, h4, h5, h6, h7, decide_eq_true_eq, decide_eq_false_iff_not, eq_self, true_and, and_true]
      omega
    · rw [R40sa_tab]
      show _ = ([some ⟨.ints .u8 zs, g, false, 5⟩, some ⟨.agg [.slice 1 2 g2 o2 n2 c2], ga, false, 22⟩, some ⟨.ints .u8 t2, g2, false, 5⟩, some ⟨.ints .u8 (hmLaw (subLaw zs off n) (subLaw t2 o2 n2)), 31, true, 5⟩] : Tab)
      rw [hm_long (by omega)]
      simp only [sub_sum32, List.append_assoc]
      try rfl
  · refine small_ofG (R := R40sb zs g ga off n cp ca t2 g2 o2 n2 c2) (keep := [0, 1, 2, 5]) eH_ok hmS (f := 40) (fn := f40) (by kernel_rfl) (by kernel_rfl) FnOrc.nil rfl (R40sb_ok ?_) R40sb_val ?_
    · simp only [allP, Con.h, sum32_bs, h1, h2, h3, h4, h5, h6, h7, decide_eq_true_eq, decide_eq_false_iff_not, eq_self, true_and, and_true]
      omega
    · rw [R40sb_tab]
      show _ = ([some ⟨.ints .u8 zs, g, false, 5⟩, some ⟨.agg [.slice 1 2 g2 o2 n2 c2], ga, false, 22⟩, some ⟨.ints .u8 t2, g2, false, 5⟩, some ⟨.ints .u8 (hmLaw (subLaw zs off n) (subLaw t2 o2 n2)), 31, true, 5⟩] : Tab)
      rw [hm_short (by omega)]
      simp only [sub_sum32, List.append_assoc]
      try rfl
noncomputable def sm40s : Summary := fun args T => sm40sc args T (xsAt T 0) (gAt T 0) (gAt T 1) (offOf (vAt args 0)) (lenOf (vAt args 0)) (capOf (vAt args 0)) (capOf (vAt args 1)) (xsAt T 2) (gAt T 2) (offOf (vAt (aggAt T 1) 0)) (lenOf (vAt (aggAt T 1) 0)) (capOf (vAt (aggAt T 1) 0))
theorem sm40s_ok : SmOk prog glS 40 sm40s := fun args T h => sm40sc_ok h
/-! texts nss -/
noncomputable def sm40nssc (args : List AVal) (T : Tab) (zs : List Int) (g : Nat) (ga : Nat) (off : Nat) (n : Nat) (cp : Option Nat) (ca : Option Nat) (t2 : List Int) (g2 : Nat) (o2 : Nat) (n2 : Nat) (c2 : Option Nat) (t3 : List Int) (g3 : Nat) (o3 : Nat) (n3 : Nat) (c3 : Option Nat) : Res := ⟨[.tab T [some ⟨.ints .u8 zs, g, false, 5⟩, some ⟨.agg [.nilSlice, .slice 1 2 g2 o2 n2 c2, .slice 1 3 g3 o3 n3 c3], ga, false, 22⟩, some ⟨.ints .u8 t2, g2, false, 5⟩, some ⟨.ints .u8 t3, g3, false, 5⟩], .val (.tuple args) (.tuple [.slice 1 0 g off n cp, .slice 1 1 ga 0 3 ca]), .leN (off + n) zs.length, .leN n 140737488355000, .p (BsLaw zs), .p (capLaw n cp), .leN (o2 + n2) t2.length, .p (BsLaw t2), .leN (o3 + n3) t3.length, .p (BsLaw t3), .leN (64 + n2 + n3) 140737488355000], .slice 1 4 31 0 32 none, [some ⟨.ints .u8 zs, g, false, 5⟩, some ⟨.agg [.nilSlice, .slice 1 2 g2 o2 n2 c2, .slice 1 3 g3 o3 n3 c3], ga, false, 22⟩, some ⟨.ints .u8 t2, g2, false, 5⟩, some ⟨.ints .u8 t3, g3, false, 5⟩, some ⟨.ints .u8 (hmLaw (subLaw zs off n) (subLaw t2 o2 n2 ++ subLaw t3 o3 n3)), 31, true, 5⟩]⟩
theorem sm40nssc_ok {args : List AVal} {T : Tab} {zs : List Int} {g : Nat} {ga : Nat} {off : Nat} {n : Nat} {cp : Option Nat} {ca : Option Nat} {t2 : List Int} {g2 : Nat} {o2 : Nat} {n2 : Nat} {c2 : Option Nat} {t3 : List Int} {g3 : Nat} {o3 : Nat} {n3 : Nat} {c3 : Option Nat} (h : allP (sm40nssc args T zs g ga off n cp ca t2 g2 o2 n2 c2 t3 g3 o3 n3 c3).cs) : Small prog glS 40 args T (sm40nssc args T zs g ga off n cp ca t2 g2 o2 n2 c2 t3 g3 o3 n3 c3).val (sm40nssc args T zs g ga off n cp ca t2 g2 o2 n2 c2 t3 g3 o3 n3 c3).tab := by
  obtain ⟨hT, hv, h1, h2, h3, h4, h5, h6, h7, h8, h9, _⟩ := h
  simp only [Con.h] at hT hv h1 h2 h3 h4 h5 h6 h7 h8 h9
  injection hv with hv
  subst hT hv
  have hk := subLaw_len h1
  by_cases hl : 64 < n
  · refine small_ofG (R := R40nssa zs g ga off n cp ca t2 t3 g2 o2 n2 g3 o3 n3 c2 c3) (keep := [0, 1, 2, 3, 7]) eH_ok hmS (f := 40) (fn := f40) (by kernel_rfl) (by kernel_rfl) FnOrc.nil rfl (R40nssa_ok ?_) R40nssa_val ?_
    · simp only [allP, Con.h, sum32_bs, h1, h2, h3, h4, h5, h6, h7, h8, h9, decide_eq_true_eq, decide_eq_false_iff_not, eq_self, true_and, and_true]
      omega
    · rw [R40nssa_tab]
      show _ = ([some ⟨.ints .u8 zs, g, false, 5⟩, some ⟨.agg [.nilSlice, .slice 1 2 g2 o2 n2 c2, .slice 1 3 g3 o3 n3 c3], ga, false, 22⟩, some ⟨.ints .u8 t2, g2, false, 5⟩, some ⟨.ints .u8 t3, g3, false, 5⟩, some ⟨.ints .u8 (hmLaw (subLaw zs off n) (subLaw t2 o2 n2 ++ subLaw t3 o3 n3)), 31, true, 5⟩] : Tab)
      rw [hm_long (by omega)]
      simp only [sub_sum32, List.append_assoc]
      try rfl
  · refine small_ofG (R := R40nssb zs g ga off n cp ca t2 t3 g2 o2 n2 g3 o3 n3 c2 c3) (keep := [0, 1, 2, 3, 6]) eH_ok hmS (f := 40) (fn := f40) (by kernel_rfl) (by kernel_rfl) FnOrc.nil rfl (R40nssb_ok ?_) R40nssb_val ?_
    · simp only [allP, Con.h, sum32_bs, h1, h2, h3, h4, h5, h6, h7, h8, h9, decide_eq_true_eq, decide_eq_false_iff_not, eq_self, true_and, and_true]
      omega
    · rw [R40nssb_tab]
      show _ = ([some ⟨.ints .u8 zs, g, false, 5⟩, some ⟨.agg [.nilSlice, .slice 1 2 g2 o2 n2 c2, .slice 1 3 g3 o3 n3 c3], ga, false, 22⟩, some ⟨.ints .u8 t2, g2, false, 5⟩, some ⟨.ints .u8 t3, g3, false, 5⟩, some ⟨.ints .u8 (hmLaw (subLaw zs off n) (subLaw t2 o2 n2 ++ subLaw t3 o3 n3)), 31, true, 5⟩] : Tab)
      rw [hm_short (by omega)]
      simp only [sub_sum32, List.append_assoc]
      try rfl
noncomputable def sm40nss : Summary := fun args T => sm40nssc args T (xsAt T 0) (gAt T 0) (gAt T 1) (offOf (vAt args 0)) (lenOf (vAt args 0)) (capOf (vAt args 0)) (capOf (vAt args 1)) (xsAt T 2) (gAt T 2) (offOf (vAt (aggAt T 1) 1)) (lenOf (vAt (aggAt T 1) 1)) (capOf (vAt (aggAt T 1) 1)) (xsAt T 3) (gAt T 3) (offOf (vAt (aggAt T 1) 2)) (lenOf (vAt (aggAt T 1) 2)) (capOf (vAt (aggAt T 1) 2))
theorem sm40nss_ok : SmOk prog glS 40 sm40nss := fun args T h => sm40nssc_ok h
/-! texts sss -/
noncomputable def sm40sssc (args : List AVal) (T : Tab) (zs : List Int) (g : Nat) (ga : Nat) (off : Nat) (n : Nat) (cp : Option Nat) (ca : Option Nat) (t2 : List Int) (g2 : Nat) (o2 : Nat) (n2 : Nat) (c2 : Option Nat) (t3 : List Int) (g3 : Nat) (o3 : Nat) (n3 : Nat) (c3 : Option Nat) (t4 : List Int) (g4 : Nat) (o4 : Nat) (n4 : Nat) (c4 : Option Nat) : Res := ⟨[.tab T [some ⟨.ints .u8 zs, g, false, 5⟩, some ⟨.agg [.slice 1 2 g2 o2 n2 c2, .slice 1 3 g3 o3 n3 c3, .slice 1 4 g4 o4 n4 c4], ga, false, 22⟩, some ⟨.ints .u8 t2, g2, false, 5⟩, some ⟨.ints .u8 t3, g3, false, 5⟩, some ⟨.ints .u8 t4, g4, false, 5⟩], .val (.tuple args) (.tuple [.slice 1 0 g off n cp, .slice 1 1 ga 0 3 ca]), .leN (off + n) zs.length, .leN n 140737488355000, .p (BsLaw zs), .p (capLaw n cp), .leN (o2 + n2) t2.length, .p (BsLaw t2), .leN (o3 + n3) t3.length, .p (BsLaw t3), .leN (o4 + n4) t4.length, .p (BsLaw t4), .leN (64 + n2 + n3 + n4) 140737488355000], .slice 1 5 31 0 32 none, [some ⟨.ints .u8 zs, g, false, 5⟩, some ⟨.agg [.slice 1 2 g2 o2 n2 c2, .slice 1 3 g3 o3 n3 c3, .slice 1 4 g4 o4 n4 c4], ga, false, 22⟩, some ⟨.ints .u8 t2, g2, false, 5⟩, some ⟨.ints .u8 t3, g3, false, 5⟩, some ⟨.ints .u8 t4, g4, false, 5⟩, some ⟨.ints .u8 (hmLaw (subLaw zs off n) (subLaw t2 o2 n2 ++ subLaw t3 o3 n3 ++ subLaw t4 o4 n4)), 31, true, 5⟩]⟩
theorem sm40sssc_ok {args : List AVal} {T : Tab} {zs : List Int} {g : Nat} {ga : Nat} {off : Nat} {n : Nat} {cp : Option Nat} {ca : Option Nat} {t2 : List Int} {g2 : Nat} {o2 : Nat} {n2 : Nat} {c2 : Option Nat} {t3 : List Int} {g3 : Nat} {o3 : Nat} {n3 : Nat} {c3 : Option Nat} {t4 : List Int} {g4 : Nat} {o4 : Nat} {n4 : Nat} {c4 : Option Nat} (h : allP (sm40sssc args T zs g ga off n cp ca t2 g2 o2 n2 c2 t3 g3 o3 n3 c3 t4 g4 o4 n4 c4).cs) : Small prog glS 40 args T (sm40sssc args T zs g ga off n cp ca t2 g2 o2 n2 c2 t3 g3 o3 n3 c3 t4 g4 o4 n4 c4).val (sm40sssc args T zs g ga off n cp ca t2 g2 o2 n2 c2 t3 g3 o3 n3 c3 t4 g4 o4 n4 c4).tab := by
  obtain ⟨hT, hv, h1, h2, h3, h4, h5, h6, h7, h8, h9, h10, h11, _⟩ := h
  simp only [Con.h] at hT hv h1 h2 h3 h4 h5 h6 h7 h8 h9 h10 h11
  injection hv with hv
  subst hT hv
  have hk := subLaw_len h1
  by_cases hl : 64 < n
  · refine small_ofG (R := R40sssa zs g ga off n cp ca t2 t3 t4 g2 o2 n2 g3 o3 n3 g4 o4 n4 c2 c3 c4) (keep := [0, 1, 2, 3, 4, 8]) eH_ok hmS (f := 40) (fn := f40) (by kernel_rfl) (by kernel_rfl) FnOrc.nil rfl (R40sssa_ok ?_) R40sssa_val ?_
    · simp only [allP, Con.h, sum32_bs, h1, h2, h3, h4, h5, h6, h7, h8, h9, h10, h11, decide_eq_true_eq, decide_eq_false_iff_not, eq_self, true_and, and_true]
      omega
    · rw [R40sssa_tab]
      show _ = ([some ⟨.ints .u8 zs, g, false, 5⟩, some ⟨.agg [.slice 1 2 g2 o2 n2 c2, .slice 1 3 g3 o3 n3 c3, .slice 1 4 g4 o4 n4 c4], ga, false, 22⟩, some ⟨.ints .u8 t2, g2, false, 5⟩, some ⟨.ints .u8 t3, g3, false, 5⟩, some ⟨.ints .u8 t4, g4, false, 5⟩, some ⟨.ints .u8 (hmLaw (subLaw zs off n) (subLaw t2 o2 n2 ++ subLaw t3 o3 n3 ++ subLaw t4 o4 n4)), 31, true, 5⟩] : Tab)
      rw [hm_long (by omega)]
      simp only [sub_sum32, List.append_assoc]
      try rfl
  · refine small_ofG (R := R40sssb zs g ga off n cp ca t2 t3 t4 g2 o2 n2 g3 o3 n3 g4 o4 n4 c2 c3 c4) (keep := [0, 1, 2, 3, 4, 7]) eH_ok hmS (f := 40) (fn := f40) (by kernel_rfl) (by kernel_rfl) FnOrc.nil rfl (R40sssb_ok ?_) R40sssb_val ?_
    · simp only [allP, Con.h, sum32_bs, h1, h2, h3, h4, h5, h6, h7, h8, h9, h10, h11, decide_eq_true_eq, decide_eq_false_iff_not, eq_self, true_and, and_true]
      omega
    · rw [R40sssb_tab]
      show _ = ([some ⟨.ints .u8 zs, g, false, 5⟩, some ⟨.agg [.slice 1 2 g2 o2 n2 c2, .slice 1 3 g3 o3 n3 c3, .slice 1 4 g4 o4 n4 c4], ga, false, 22⟩, some ⟨.ints .u8 t2, g2, false, 5⟩, some ⟨.ints .u8 t3, g3, false, 5⟩, some ⟨.ints .u8 t4, g4, false, 5⟩, some ⟨.ints .u8 (hmLaw (subLaw zs off n) (subLaw t2 o2 n2 ++ subLaw t3 o3 n3 ++ subLaw t4 o4 n4)), 31, true, 5⟩] : Tab)
      rw [hm_short (by omega)]
      simp only [sub_sum32, List.append_assoc]
      try rfl
noncomputable def sm40sss : Summary := fun args T => sm40sssc args T (xsAt T 0) (gAt T 0) (gAt T 1) (offOf (vAt args 0)) (lenOf (vAt args 0)) (capOf (vAt args 0)) (capOf (vAt args 1)) (xsAt T 2) (gAt T 2) (offOf (vAt (aggAt T 1) 0)) (lenOf (vAt (aggAt T 1) 0)) (capOf (vAt (aggAt T 1) 0)) (xsAt T 3) (gAt T 3) (offOf (vAt (aggAt T 1) 1)) (lenOf (vAt (aggAt T 1) 1)) (capOf (vAt (aggAt T 1) 1)) (xsAt T 4) (gAt T 4) (offOf (vAt (aggAt T 1) 2)) (lenOf (vAt (aggAt T 1) 2)) (capOf (vAt (aggAt T 1) 2))
theorem sm40sss_ok : SmOk prog glS 40 sm40sss := fun args T h => sm40sssc_ok h
/-! texts nns -/
noncomputable def sm40nnsc (args : List AVal) (T : Tab) (zs : List Int) (g : Nat) (ga : Nat) (off : Nat) (n : Nat) (cp : Option Nat) (ca : Option Nat) (t2 : List Int) (g2 : Nat) (o2 : Nat) (n2 : Nat) (c2 : Option Nat) : Res := ⟨[.tab T [some ⟨.ints .u8 zs, g, false, 5⟩, some ⟨.agg [.nilSlice, .nilSlice, .slice 1 2 g2 o2 n2 c2], ga, false, 22⟩, some ⟨.ints .u8 t2, g2, false, 5⟩], .val (.tuple args) (.tuple [.slice 1 0 g off n cp, .slice 1 1 ga 0 3 ca]), .leN (off + n) zs.length, .leN n 140737488355000, .p (BsLaw zs), .p (capLaw n cp), .leN (o2 + n2) t2.length, .p (BsLaw t2), .leN (64 + n2) 140737488355000], .slice 1 3 31 0 32 none, [some ⟨.ints .u8 zs, g, false, 5⟩, some ⟨.agg [.nilSlice, .nilSlice, .slice 1 2 g2 o2 n2 c2], ga, false, 22⟩, some ⟨.ints .u8 t2, g2, false, 5⟩, some ⟨.ints .u8 (hmLaw (subLaw zs off n) (subLaw t2 o2 n2)), 31, true, 5⟩]⟩
theorem sm40nnsc_ok {args : List AVal} {T : Tab} {zs : List Int} {g : Nat} {ga : Nat} {off : Nat} {n : Nat} {cp : Option Nat} {ca : Option Nat} {t2 : List Int} {g2 : Nat} {o2 : Nat} {n2 : Nat} {c2 : Option Nat} (h : allP (sm40nnsc args T zs g ga off n cp ca t2 g2 o2 n2 c2).cs) : Small prog glS 40 args T (sm40nnsc args T zs g ga off n cp ca t2 g2 o2 n2 c2).val (sm40nnsc args T zs g ga off n cp ca t2 g2 o2 n2 c2).tab := by
  obtain ⟨hT, hv, h1, h2, h3, h4, h5, h6, h7, _⟩ := h
  simp only [Con.h] at hT hv h1 h2 h3 h4 h5 h6 h7
  injection hv with hv
  subst hT hv
  have hk := subLaw_len h1
  by_cases hl : 64 < n
  · refine small_ofG (R := R40nnsa zs g ga off n cp ca t2 g2 o2 n2 c2) (keep := [0, 1, 2, 6]) eH_ok hmS (f := 40) (fn := f40) (by kernel_rfl) (by kernel_rfl) FnOrc.nil rfl (R40nnsa_ok ?_) R40nnsa_val ?_
    · simp only [allP, Con.h, sum32_bs, h1, h2, h3, h4, h5, h6, h7, decide_eq_true_eq, decide_eq_false_iff_not, eq_self, true_and, and_true]
      omega
    · rw [R40nnsa_tab]
      show _ = ([some ⟨.ints .u8 zs, g, false, 5⟩, some ⟨.agg [.nilSlice, .nilSlice, .slice 1 2 g2 o2 n2 c2], ga, false, 22⟩, some ⟨.ints .u8 t2, g2, false, 5⟩, some ⟨.ints .u8 (hmLaw (subLaw zs off n) (subLaw t2 o2 n2)), 31, true, 5⟩] : Tab)
      rw [hm_long (by omega)]
      simp only [sub_sum32, List.append_assoc]
      try rfl
  · refine small_ofG (R := R40nnsb zs g ga off n cp ca t2 g2 o2 n2 c2) (keep := [0, 1, 2, 5]) eH_ok hmS (f := 40) (fn := f40) (by kernel_rfl) (by kernel_rfl) FnOrc.nil rfl (R40nnsb_ok ?_) R40nnsb_val ?_
    · simp only [allP, Con.h, sum32_bs, h1, h2, h3, h4, h5, h6, h7, decide_eq_true_eq, decide_eq_false_iff_not, eq_self, true_and, and_true]
      omega
    · rw [R40nnsb_tab]
      show _ = ([some ⟨.ints .u8 zs, g, false, 5⟩, some ⟨.agg [.nilSlice, .nilSlice, .slice 1 2 g2 o2 n2 c2], ga, false, 22⟩, some ⟨.ints .u8 t2, g2, false, 5⟩, some ⟨.ints .u8 (hmLaw (subLaw zs off n) (subLaw t2 o2 n2)), 31, true, 5⟩] : Tab)
      rw [hm_short (by omega)]
      simp only [sub_sum32, List.append_assoc]
      try rfl
noncomputable def sm40nns : Summary := fun args T => sm40nnsc args T (xsAt T 0) (gAt T 0) (gAt T 1) (offOf (vAt args 0)) (lenOf (vAt args 0)) (capOf (vAt args 0)) (capOf (vAt args 1)) (xsAt T 2) (gAt T 2) (offOf (vAt (aggAt T 1) 2)) (lenOf (vAt (aggAt T 1) 2)) (capOf (vAt (aggAt T 1) 2))
theorem sm40nns_ok : SmOk prog glS 40 sm40nns := fun args T h => sm40nnsc_ok h
/-! texts sns -/
noncomputable def sm40snsc (args : List AVal) (T : Tab) (zs : List Int) (g : Nat) (ga : Nat) (off : Nat) (n : Nat) (cp : Option Nat) (ca : Option Nat) (t2 : List Int) (g2 : Nat) (o2 : Nat) (n2 : Nat) (c2 : Option Nat) (t3 : List Int) (g3 : Nat) (o3 : Nat) (n3 : Nat) (c3 : Option Nat) : Res := ⟨[.tab T [some ⟨.ints .u8 zs, g, false, 5⟩, some ⟨.agg [.slice 1 2 g2 o2 n2 c2, .nilSlice, .slice 1 3 g3 o3 n3 c3], ga, false, 22⟩, some ⟨.ints .u8 t2, g2, false, 5⟩, some ⟨.ints .u8 t3, g3, false, 5⟩], .val (.tuple args) (.tuple [.slice 1 0 g off n cp, .slice 1 1 ga 0 3 ca]), .leN (off + n) zs.length, .leN n 140737488355000, .p (BsLaw zs), .p (capLaw n cp), .leN (o2 + n2) t2.length, .p (BsLaw t2), .leN (o3 + n3) t3.length, .p (BsLaw t3), .leN (64 + n2 + n3) 140737488355000], .slice 1 4 31 0 32 none, [some ⟨.ints .u8 zs, g, false, 5⟩, some ⟨.agg [.slice 1 2 g2 o2 n2 c2, .nilSlice, .slice 1 3 g3 o3 n3 c3], ga, false, 22⟩, some ⟨.ints .u8 t2, g2, false, 5⟩, some ⟨.ints .u8 t3, g3, false, 5⟩, some ⟨.ints .u8 (hmLaw (subLaw zs off n) (subLaw t2 o2 n2 ++ subLaw t3 o3 n3)), 31, true, 5⟩]⟩
theorem sm40snsc_ok {args : List AVal} {T : Tab} {zs : List Int} {g : Nat} {ga : Nat} {off : Nat} {n : Nat} {cp : Option Nat} {ca : Option Nat} {t2 : List Int} {g2 : Nat} {o2 : Nat} {n2 : Nat} {c2 : Option Nat} {t3 : List Int} {g3 : Nat} {o3 : Nat} {n3 : Nat} {c3 : Option Nat} (h : allP (sm40snsc args T zs g ga off n cp ca t2 g2 o2 n2 c2 t3 g3 o3 n3 c3).cs) : Small prog glS 40 args T (sm40snsc args T zs g ga off n cp ca t2 g2 o2 n2 c2 t3 g3 o3 n3 c3).val (sm40snsc args T zs g ga off n cp ca t2 g2 o2 n2 c2 t3 g3 o3 n3 c3).tab := by
  obtain ⟨hT, hv, h1, h2, h3, h4, h5, h6, h7, h8, h9, _⟩ := h
  simp only [Con.h] at hT hv h1 h2 h3 h4 h5 h6 h7 h8 h9
  injection hv with hv
  subst hT hv
  have hk := subLaw_len h1
  by_cases hl : 64 < n
  · refine small_ofG (R := R40snsa zs g ga off n cp ca t2 t3 g2 o2 n2 g3 o3 n3 c2 c3) (keep := [0, 1, 2, 3, 7]) eH_ok hmS (f := 40) (fn := f40) (by kernel_rfl) (by kernel_rfl) FnOrc.nil rfl (R40snsa_ok ?_) R40snsa_val ?_
    · simp only [allP, Con.h, sum32_bs, h1, h2, h3, h4, h5, h6, h7, h8, h9, decide_eq_true_eq, decide_eq_false_iff_not, eq_self, true_and, and_true]
      omega
    · rw [R40snsa_tab]
      show _ = ([some ⟨.ints .u8 zs, g, false, 5⟩, some ⟨.agg [.slice 1 2 g2 o2 n2 c2, .nilSlice, .slice 1 3 g3 o3 n3 c3], ga, false, 22⟩, some ⟨.ints .u8 t2, g2, false, 5⟩, some ⟨.ints .u8 t3, g3, false, 5⟩, some ⟨.ints .u8 (hmLaw (subLaw zs off n) (subLaw t2 o2 n2 ++ subLaw t3 o3 n3)), 31, true, 5⟩] : Tab)
      rw [hm_long (by omega)]
      simp only [sub_sum32, List.append_assoc]
      try rfl
  · refine small_ofG (R := R40snsb zs g ga off n cp ca t2 t3 g2 o2 n2 g3 o3 n3 c2 c3) (keep := [0, 1, 2, 3, 6]) eH_ok hmS (f := 40) (fn := f40) (by kernel_rfl) (by kernel_rfl) FnOrc.nil rfl (R40snsb_ok ?_) R40snsb_val ?_
    · simp only [allP, Con.h, sum32_bs, h1, h2, h3, h4, h5, h6, h7, h8, h9, decide_eq_true_eq, decide_eq_false_iff_not, eq_self, true_and, and_true]
      omega
    · rw [R40snsb_tab]
      show _ = ([some ⟨.ints .u8 zs, g, false, 5⟩, some ⟨.agg [.slice 1 2 g2 o2 n2 c2, .nilSlice, .slice 1 3 g3 o3 n3 c3], ga, false, 22⟩, some ⟨.ints .u8 t2, g2, false, 5⟩, some ⟨.ints .u8 t3, g3, false, 5⟩, some ⟨.ints .u8 (hmLaw (subLaw zs off n) (subLaw t2 o2 n2 ++ subLaw t3 o3 n3)), 31, true, 5⟩] : Tab)
      rw [hm_short (by omega)]
      simp only [sub_sum32, List.append_assoc]
      try rfl
noncomputable def sm40sns : Summary := fun args T => sm40snsc args T (xsAt T 0) (gAt T 0) (gAt T 1) (offOf (vAt args 0)) (lenOf (vAt args 0)) (capOf (vAt args 0)) (capOf (vAt args 1)) (xsAt T 2) (gAt T 2) (offOf (vAt (aggAt T 1) 0)) (lenOf (vAt (aggAt T 1) 0)) (capOf (vAt (aggAt T 1) 0)) (xsAt T 3) (gAt T 3) (offOf (vAt (aggAt T 1) 2)) (lenOf (vAt (aggAt T 1) 2)) (capOf (vAt (aggAt T 1) 2))
theorem sm40sns_ok : SmOk prog glS 40 sm40sns := fun args T h => sm40snsc_ok h
noncomputable def sm40 : Summary := fun args T => match nilsOf (aggAt T 1) with
  | [false] => sm40s args T
  | [true, false, false] => sm40nss args T
  | [false, false, false] => sm40sss args T
  | [true, true, false] => sm40nns args T
  | [false, true, false] => sm40sns args T
  | _ => fail
theorem sm40_ok : SmOk prog glS 40 sm40 := by
  intro args T h
  unfold sm40 at h ⊢
  split at h
  · exact sm40s_ok args T h
  · exact sm40nss_ok args T h
  · exact sm40sss_ok args T h
  · exact sm40nns_ok args T h
  · exact sm40sns_ok args T h
  · exact absurd h nofail
noncomputable def S40 : Summary := callR sm40 []
theorem S40_ok : SumOk prog glS 40 S40 := callR_ok sm40_ok []
noncomputable def eG : Env := eS0 [(40, S40)]
theorem eG_ok : EnvOk eG := envOf_ok tysS_ok (SumsOk.cons (fn := f40) S40_ok (by kernel_rfl) (by kernel_rfl) (by kernel_rfl) trivial)
end Go.Abs

set_option linter.unusedVariables false
set_option linter.unusedSimpArgs false
set_option maxRecDepth 8000
set_option maxHeartbeats 4000000
namespace Go.Abs
open Go.Proofs Go.Proofs.Tryd
/-! ### the document's pad -/
theorem xk_get : ∀ (b ks : List Int) (i : Nat), i < b.length → (xkLaw b ks).getD i 0 = if i < ks.length then ixor (b.getD i 0) (ks.getD i 0) else b.getD i 0
  | x :: b, [], i, h => by simp [xk_nil]
  | x :: b, k :: ks, 0, h => by simp [xkLaw]
  | x :: b, k :: ks, i + 1, h => by
    simp only [xkLaw, List.getD_cons_succ, List.length_cons, Nat.add_lt_add_iff_right]
    exact xk_get b ks i (by simpa using h)
theorem rep_get {x : Int} {i : Nat} (h : i < 64) : (repLaw x).getD i 0 = x := by
  rw [show repLaw x = List.replicate 64 x from rfl, List.getD_eq_getElem?_getD, List.getElem?_replicate, if_pos h]
  rfl
def isZerosLaw (bs : List Int) : Prop := bs = List.replicate 64 0
theorem set_step {Y : List Int} (h : Y.length = 64) {i : Nat} (hi : i < 64) : (Y.take i ++ List.replicate (64 - i) 0).set i (Y.getD i 0) = Y.take (i + 1) ++ List.replicate (64 - (i + 1)) 0 := by
  have hl : (Y.take i).length = i := by rw [List.length_take]; omega
  rw [List.set_append_right _ _ (by omega), hl, Nat.sub_self, show 64 - i = (64 - (i + 1)) + 1 by omega, List.replicate_succ, List.set_cons_zero, List.take_add_one, List.getElem?_eq_getElem (by omega), List.append_assoc]
  simp [List.getD_eq_getElem?_getD, List.getElem?_eq_getElem (show i < Y.length by omega)]
noncomputable def eD1 : Env := eS0 [(14, S14)]
theorem eD1_ok : EnvOk eD1 := envOf_ok tysS_ok (SumsOk.cons (fn := f14) S14_ok (by kernel_rfl) (by kernel_rfl) (by kernel_rfl) trivial)
noncomputable def A41a (zs ks bs : List Int) (x : Int) (g gk n : Nat) (i : Int) : Out := trim 3 3 [1,5,6,7] (run eD1 37 ⟨3, []⟩ 400 (roundOf 0 f41) [(1, .int .u8 x), (5, .slice 1 1 gk 0 n none), (6, .slice 1 2 0 0 64 (some 64)), (7, .int .i64 i)] [some ⟨.ints .u8 zs, g, false, 5⟩, some ⟨.ints .u8 ks, gk, true, 5⟩, some ⟨.ints .u8 bs, 0, true, 5⟩] [some true, some true])
theorem A41a_ok {zs ks bs : List Int} {x : Int} {g gk n : Nat} {i : Int} (h : allP [.p (decide (i < 64) = true), .leI 0 i, .leI (i + 1) 64, .leN (i.toNat + 1) bs.length, .eqN gk gk, .p (decide (i < (↑n : Int)) = true), .eqN gk gk, .leI 0 i, .leI (i + 1) (↑n : Int), .eqN gk gk, .leN (i.toNat + 1) ks.length, .nn .u8 (ks.getD i.toNat 0), .nn .u8 x, .leI 0 i, .leI (i + 1) 64, .leN (i.toNat + 1) (bs.set
 i.toNat x).length, .rng (-9223372036854775808) (i + 1) 9223372036854775807]) : Ok (A41a zs ks bs x g gk n i) := Ok.dem (fl := bitsF 25 11665586) (by kernel_rfl) (by kernel_rfl) (by kernel_rfl) h
theorem A41a_ex {zs ks bs : List Int} {x : Int} {g gk n : Nat} {i : Int} : (A41a zs ks bs x g gk n i).ex = .normal := by kernel_rfl
theorem A41a_fm {zs ks bs : List Int} {x : Int} {g gk n : Nat} {i : Int} : (A41a zs ks bs x g gk n i).fm = [(1, .int .u8 x), (5, .slice 1 1 gk 0 n none), (6, .slice 1 2 0 0 64 (some 64)), (7, .int .i64 (i + 1))] := by kernel_rfl
theorem A41a_tab {zs ks bs : List Int} {x : Int} {g gk n : Nat} {i : Int} : (A41a zs ks bs x g gk n i).tab = [some ⟨.ints .u8 zs, g, false, 5⟩, some ⟨.ints .u8 ks, gk, true, 5⟩, some ⟨.ints .u8 ((bs.set i.toNat x).set i.toNat (ixor (ks.getD i.toNat 0) x)), 0, true, 5⟩] := by kernel_rfl
noncomputable def B41a (zs ks bs : List Int) (x : Int) (g gk n : Nat) (i : Int) : Out := trim 3 3 [1,5,6,7] (run eD1 37 ⟨3, []⟩ 400 (roundOf 0 f41) [(1, .int .u8 x), (5, .slice 1 1 gk 0 n none), (6, .slice 1 2 0 0 64 (some 64)), (7, .int .i64 i)] [some ⟨.ints .u8 zs, g, false, 5⟩, some ⟨.ints .u8 ks, gk, true, 5⟩, some ⟨.ints .u8 bs, 0, true, 5⟩] [some true, some false])
theorem B41a_ok {zs ks bs : List Int} {x : Int} {g gk n : Nat} {i : Int} (h : allP [.p (decide (i < 64) = true), .leI 0 i, .leI (i + 1) 64, .leN (i.toNat + 1) bs.length, .eqN gk gk, .p (decide (i < (↑n : Int)) = false), .rng (-9223372036854775808) (i + 1) 9223372036854775807]) : Ok (B41a zs ks bs x g gk n i) := Ok.dem (fl := [false, true, false, false, true, true, false, true, false, false, false])
 (by kernel_rfl) (by kernel_rfl) (by kernel_rfl) h
theorem B41a_ex {zs ks bs : List Int} {x : Int} {g gk n : Nat} {i : Int} : (B41a zs ks bs x g gk n i).ex = .normal := by kernel_rfl
theorem B41a_fm {zs ks bs : List Int} {x : Int} {g gk n : Nat} {i : Int} : (B41a zs ks bs x g gk n i).fm = [(1, .int .u8 x), (5, .slice 1 1 gk 0 n none), (6, .slice 1 2 0 0 64 (some 64)), (7, .int .i64 (i + 1))] := by kernel_rfl
theorem B41a_tab {zs ks bs : List Int} {x : Int} {g gk n : Nat} {i : Int} : (B41a zs ks bs x g gk n i).tab = [some ⟨.ints .u8 zs, g, false, 5⟩, some ⟨.ints .u8 ks, gk, true, 5⟩, some ⟨.ints .u8 (bs.set i.toNat x), 0, true, 5⟩] := by kernel_rfl
noncomputable def C41a (zs ks bs : List Int) (x : Int) (g gk n : Nat) (i : Int) : Out := trim 3 3 [6] (run eD1 37 ⟨3, []⟩ 400 (roundOf 0 f41) [(1, .int .u8 x), (5, .slice 1 1 gk 0 n none), (6, .slice 1 2 0 0 64 (some 64)), (7, .int .i64 i)] [some ⟨.ints .u8 zs, g, false, 5⟩, some ⟨.ints .u8 ks, gk, true, 5⟩, some ⟨.ints .u8 bs, 0, true, 5⟩] [some false])
theorem C41a_ok {zs ks bs : List Int} {x : Int} {g gk n : Nat} {i : Int} (h : allP [.p (decide (i < 64) = false)]) : Ok (C41a zs ks bs x g gk n i) := Ok.dem (fl := [false]) (by kernel_rfl) (by kernel_rfl) (by kernel_rfl) h
theorem C41a_ex {zs ks bs : List Int} {x : Int} {g gk n : Nat} {i : Int} : (C41a zs ks bs x g gk n i).ex = .exit 0 := by kernel_rfl
theorem C41a_fm {zs ks bs : List Int} {x : Int} {g gk n : Nat} {i : Int} : (C41a zs ks bs x g gk n i).fm = [(6, .slice 1 2 0 0 64 (some 64))] := by kernel_rfl
theorem C41a_tab {zs ks bs : List Int} {x : Int} {g gk n : Nat} {i : Int} : (C41a zs ks bs x g gk n i).tab = [some ⟨.ints .u8 zs, g, false, 5⟩, some ⟨.ints .u8 ks, gk, true, 5⟩, some ⟨.ints .u8 bs, 0, true, 5⟩] := by kernel_rfl
noncomputable def A41b (zs bs : List Int) (x : Int) (g off n : Nat) (cp : Option Nat) (i : Int) : Out := trim 2 2 [1,5,6,7] (run eD1 37 ⟨2, []⟩ 400 (roundOf 0 f41) [(1, .int .u8 x), (5, .slice 1 0 g off n cp), (6, .slice 1 1 0 0 64 (some 64)), (7, .int .i64 i)] [some ⟨.ints .u8 zs, g, false, 5⟩, some ⟨.ints .u8 bs, 0, true, 5⟩] [some true, some true])
theorem A41b_ok {zs bs : List Int} {x : Int} {g off n : Nat} {cp : Option Nat} {i : Int} (h : allP [.p (decide (i < 64) = true), .leI 0 i, .leI (i + 1) 64, .leN (i.toNat + 1) bs.length, .eqN g g, .p (decide (i < (↑n : Int)) = true), .eqN g g, .leI 0 i, .leI (i + 1) (↑n : Int), .eqN g g, .leN (addO off i.toNat + 1) zs.length, .nn .u8 (zs.getD (addO off i.toNat) 0), .nn .u8 x, .leI 0 i, .leI (i + 1)
 64, .leN (i.toNat + 1) (bs.set i.toNat x).length, .rng (-9223372036854775808) (i + 1) 9223372036854775807]) : Ok (A41b zs bs x g off n cp i) := Ok.dem (fl := bitsF 25 11665586) (by kernel_rfl) (by kernel_rfl) (by kernel_rfl) h
theorem A41b_ex {zs bs : List Int} {x : Int} {g off n : Nat} {cp : Option Nat} {i : Int} : (A41b zs bs x g off n cp i).ex = .normal := by kernel_rfl
theorem A41b_fm {zs bs : List Int} {x : Int} {g off n : Nat} {cp : Option Nat} {i : Int} : (A41b zs bs x g off n cp i).fm = [(1, .int .u8 x), (5, .slice 1 0 g off n cp), (6, .slice 1 1 0 0 64 (some 64)), (7, .int .i64 (i + 1))] := by kernel_rfl
theorem A41b_tab {zs bs : List Int} {x : Int} {g off n : Nat} {cp : Option Nat} {i : Int} : (A41b zs bs x g off n cp i).tab = [some ⟨.ints .u8 zs, g, false, 5⟩, some ⟨.ints .u8 ((bs.set i.toNat x).set i.toNat (ixor (zs.getD (addO off i.toNat) 0) x)), 0, true, 5⟩] := by kernel_rfl
noncomputable def B41b (zs bs : List Int) (x : Int) (g off n : Nat) (cp : Option Nat) (i : Int) : Out := trim 2 2 [1,5,6,7] (run eD1 37 ⟨2, []⟩ 400 (roundOf 0 f41) [(1, .int .u8 x), (5, .slice 1 0 g off n cp), (6, .slice 1 1 0 0 64 (some 64)), (7, .int .i64 i)] [some ⟨.ints .u8 zs, g, false, 5⟩, some ⟨.ints .u8 bs, 0, true, 5⟩] [some true, some false])
theorem B41b_ok {zs bs : List Int} {x : Int} {g off n : Nat} {cp : Option Nat} {i : Int} (h : allP [.p (decide (i < 64) = true), .leI 0 i, .leI (i + 1) 64, .leN (i.toNat + 1) bs.length, .eqN g g, .p (decide (i < (↑n : Int)) = false), .rng (-9223372036854775808) (i + 1) 9223372036854775807]) : Ok (B41b zs bs x g off n cp i) := Ok.dem (fl := [false, true, false, false, true, true, false, true, false,
 false, false]) (by kernel_rfl) (by kernel_rfl) (by kernel_rfl) h
theorem B41b_ex {zs bs : List Int} {x : Int} {g off n : Nat} {cp : Option Nat} {i : Int} : (B41b zs bs x g off n cp i).ex = .normal := by kernel_rfl
theorem B41b_fm {zs bs : List Int} {x : Int} {g off n : Nat} {cp : Option Nat} {i : Int} : (B41b zs bs x g off n cp i).fm = [(1, .int .u8 x), (5, .slice 1 0 g off n cp), (6, .slice 1 1 0 0 64 (some 64)), (7, .int .i64 (i + 1))] := by kernel_rfl
theorem B41b_tab {zs bs : List Int} {x : Int} {g off n : Nat} {cp : Option Nat} {i : Int} : (B41b zs bs x g off n cp i).tab = [some ⟨.ints .u8 zs, g, false, 5⟩, some ⟨.ints .u8 (bs.set i.toNat x), 0, true, 5⟩] := by kernel_rfl
noncomputable def C41b (zs bs : List Int) (x : Int) (g off n : Nat) (cp : Option Nat) (i : Int) : Out := trim 2 2 [6] (run eD1 37 ⟨2, []⟩ 400 (roundOf 0 f41) [(1, .int .u8 x), (5, .slice 1 0 g off n cp), (6, .slice 1 1 0 0 64 (some 64)), (7, .int .i64 i)] [some ⟨.ints .u8 zs, g, false, 5⟩, some ⟨.ints .u8 bs, 0, true, 5⟩] [some false])
theorem C41b_ok {zs bs : List Int} {x : Int} {g off n : Nat} {cp : Option Nat} {i : Int} (h : allP [.p (decide (i < 64) = false)]) : Ok (C41b zs bs x g off n cp i) := Ok.dem (fl := [false]) (by kernel_rfl) (by kernel_rfl) (by kernel_rfl) h
theorem C41b_ex {zs bs : List Int} {x : Int} {g off n : Nat} {cp : Option Nat} {i : Int} : (C41b zs bs x g off n cp i).ex = .exit 0 := by kernel_rfl
theorem C41b_fm {zs bs : List Int} {x : Int} {g off n : Nat} {cp : Option Nat} {i : Int} : (C41b zs bs x g off n cp i).fm = [(6, .slice 1 1 0 0 64 (some 64))] := by kernel_rfl
theorem C41b_tab {zs bs : List Int} {x : Int} {g off n : Nat} {cp : Option Nat} {i : Int} : (C41b zs bs x g off n cp i).tab = [some ⟨.ints .u8 zs, g, false, 5⟩, some ⟨.ints .u8 bs, 0, true, 5⟩] := by kernel_rfl
end Go.Abs

set_option linter.unusedVariables false
set_option linter.unusedSimpArgs false
set_option maxRecDepth 8000
set_option maxHeartbeats 4000000
namespace Go.Abs
open Go.Proofs Go.Proofs.Tryd
/-! ### the document's pad: loop, contract -/
theorem ixor_sym (a b : Int) : ixor a b = ixor b a := by simp [ixor, Nat.xor_comm]
/-! case a -/
theorem loop41a {zs ks bs : List Int} {x : Int} {g gk n : Nat} (h1 : 0 + n ≤ ks.length) (hz : BsLaw ks) (hx : 0 ≤ x ∧ x < 256) (h0 : isZerosLaw bs) :
    To eD1 37 3 (.block 0 (.loop (roundOf 0 f41))) [(1, .int .u8 x), (5, .slice 1 1 gk 0 n none), (6, .slice 1 2 0 0 64 (some 64)), (7, .int .i64 0)] [some ⟨.ints .u8 zs, g, false, 5⟩, some ⟨.ints .u8 ks, gk, true, 5⟩, some ⟨.ints .u8 bs, 0, true, 5⟩] .normal [(6, .slice 1 2 0 0 64 (some 64))] [some ⟨.ints .u8 zs, g, false, 5⟩, some ⟨.ints .u8 ks, gk, true, 5⟩, some ⟨.ints .u8 (xkLaw (repLaw x) (subLaw ks 0 n)), 0, true, 5⟩] := by
  have hl := subLaw_len h1
  have hY : (xkLaw (repLaw x) (subLaw ks 0 n)).length = 64 := by rw [xk_len]; rfl
  have h0 : bs = List.replicate 64 0 := h0
  subst h0
  refine To.start (T0 := [some ⟨.ints .u8 zs, g, false, 5⟩, some ⟨.ints .u8 ks, gk, true, 5⟩, some ⟨.ints .u8 (List.take 0 (xkLaw (repLaw x) (subLaw ks 0 n)) ++ List.replicate (64 - 0) 0), 0, true, 5⟩]) (by rw [List.take_zero, List.nil_append]) ?_
  refine To.rounds (fun i => [(1, .int .u8 x), (5, .slice 1 1 gk 0 n none), (6, .slice 1 2 0 0 64 (some 64)), (7, .int .i64 (i : Nat))]) (fun i => [some ⟨.ints .u8 zs, g, false, 5⟩, some ⟨.ints .u8 ks, gk, true, 5⟩, some ⟨.ints .u8 (List.take i (xkLaw (repLaw x) (subLaw ks 0 n)) ++ List.replicate (64 - i) 0), 0, true, 5⟩]) 64 (fun i hi => ?_)
    (To.of (o := C41a zs ks (xkLaw (repLaw x) (subLaw ks 0 n)) x g gk n (64 : Nat)) eD1_ok hmS (Nat.le_refl 3) OrcOk.nil (by rw [List.take_of_length_le (by omega), Nat.sub_self, List.replicate_zero, List.append_nil]; rfl) (C41a_ok (by simp [allP, Con.h])) C41a_ex C41a_fm C41a_tab)
  have hs := set_step hY hi
  have hg := xk_get (repLaw x) (subLaw ks 0 n) i (by exact hi)
  rw [rep_get hi, hl] at hg
  have hwl : (List.take i (xkLaw (repLaw x) (subLaw ks 0 n)) ++ List.replicate (64 - i) 0).length = 64 := by rw [List.length_append, List.length_take, List.length_replicate]; omega
  by_cases hin : i < n
  · rw [if_pos hin, subLaw_get hin] at hg
    refine To.of (o := A41a zs ks (List.take i (xkLaw (repLaw x) (subLaw ks 0 n)) ++ List.replicate (64 - i) 0) x g gk n i) eD1_ok hmS (Nat.le_refl 3) OrcOk.nil rfl (A41a_ok ?_) A41a_ex A41a_fm ?_
    · have hz2 := hz (0 + i)
      simp only [allP, Con.h, nonneg, addO_eq, Int.toNat_natCast, Nat.zero_add, List.length_set, hwl, hx, decide_eq_true_eq, eq_self, true_and, and_true] at hz2 ⊢
      omega
    · rw [A41a_tab]
      simp only [addO_eq, Int.toNat_natCast, List.set_set]
      rw [← hs, hg, ixor_sym x]
      try rw [Nat.zero_add]
  · rw [if_neg hin] at hg
    refine To.of (o := B41a zs ks (List.take i (xkLaw (repLaw x) (subLaw ks 0 n)) ++ List.replicate (64 - i) 0) x g gk n i) eD1_ok hmS (Nat.le_refl 3) OrcOk.nil rfl (B41a_ok ?_) B41a_ex B41a_fm ?_
    · simp only [allP, Con.h, Int.toNat_natCast, hwl, decide_eq_true_eq, decide_eq_false_iff_not, eq_self, true_and, and_true]
      omega
    · rw [B41a_tab, Int.toNat_natCast, ← hs, hg]
noncomputable def gA41ac (vs : List AVal) (T : Tab) (zs : List Int) (ks : List Int) (bs : List Int) (x : Int) (g : Nat) (gk : Nat) (n : Nat) : Out := ⟨[.tab T [some ⟨.ints .u8 zs, g, false, 5⟩, some ⟨.ints .u8 ks, gk, true, 5⟩, some ⟨.ints .u8 bs, 0, true, 5⟩], .val (.tuple vs) (.tuple [.int .u8 x, .slice 1 1 gk 0 n none, .slice 1 2 0 0 64 (some 64), .int .i64 0]), .leN (0 + n) ks.length, .p (BsLaw ks), .rng 0 x 255, .p (isZerosLaw bs)], .normal, [(6, .slice 1 2 0 0 64 (some 64))], [some ⟨.ints .u8 zs, g, false, 5⟩, some ⟨.ints .u8 ks, gk, true, 5⟩, some ⟨.ints .u8 (xkLaw (repLaw x) (subLaw ks 0 n)), 0, true, 5⟩], []⟩
theorem gA41ac_ok {vs : List AVal} {T : Tab} {zs : List Int} {ks : List Int} {bs : List Int} {x : Int} {g : Nat} {gk : Nat} {n : Nat} (h : Ok (gA41ac vs T zs ks bs x g gk n)) : To eD1 37 3 (.block 0 (.loop (roundOf 0 f41))) (zipF [1,5,6,7] vs) T (gA41ac vs T zs ks bs x g gk n).ex (gA41ac vs T zs ks bs x g gk n).fm (gA41ac vs T zs ks bs x g gk n).tab := by
  obtain ⟨hT, hv, h1, h2, h3, h4, _⟩ := h.h
  simp only [Con.h] at hT hv h1 h2 h3 h4
  injection hv with hv
  subst hT hv
  exact loop41a h1 h2 ⟨h3.1, by have := h3.2; omega⟩ h4
noncomputable def gA41a : List AVal → Tab → Out := fun vs T => gA41ac vs T (xsAt T 0) (xsAt T 1) (xsAt T 2) (iOf (vAt vs 0)) (gAt T 0) (gAt T 1) (lenOf (vAt vs 1))
theorem gA41a_ok : BlkOk eD1 f41 0 (.loop (roundOf 0 f41)) (blkS 3 [1,5,6,7] gA41a) := blkS_ok fun vs T h => gA41ac_ok h
/-! case b -/
theorem loop41b {zs bs : List Int} {x : Int} {g off n : Nat} {cp : Option Nat} (h1 : off + n ≤ zs.length) (hz : BsLaw zs) (hx : 0 ≤ x ∧ x < 256) (h0 : isZerosLaw bs) :
    To eD1 37 2 (.block 0 (.loop (roundOf 0 f41))) [(1, .int .u8 x), (5, .slice 1 0 g off n cp), (6, .slice 1 1 0 0 64 (some 64)), (7, .int .i64 0)] [some ⟨.ints .u8 zs, g, false, 5⟩, some ⟨.ints .u8 bs, 0, true, 5⟩] .normal [(6, .slice 1 1 0 0 64 (some 64))] [some ⟨.ints .u8 zs, g, false, 5⟩, some ⟨.ints .u8 (xkLaw (repLaw x) (subLaw zs off n)), 0, true, 5⟩] := by
  have hl := subLaw_len h1
  have hY : (xkLaw (repLaw x) (subLaw zs off n)).length = 64 := by rw [xk_len]; rfl
  have h0 : bs = List.replicate 64 0 := h0
  subst h0
  refine To.start (T0 := [some ⟨.ints .u8 zs, g, false, 5⟩, some ⟨.ints .u8 (List.take 0 (xkLaw (repLaw x) (subLaw zs off n)) ++ List.replicate (64 - 0) 0), 0, true, 5⟩]) (by rw [List.take_zero, List.nil_append]) ?_
  refine To.rounds (fun i => [(1, .int .u8 x), (5, .slice 1 0 g off n cp), (6, .slice 1 1 0 0 64 (some 64)), (7, .int .i64 (i : Nat))]) (fun i => [some ⟨.ints .u8 zs, g, false, 5⟩, some ⟨.ints .u8 (List.take i (xkLaw (repLaw x) (subLaw zs off n)) ++ List.replicate (64 - i) 0), 0, true, 5⟩]) 64 (fun i hi => ?_)
    (To.of (o := C41b zs (xkLaw (repLaw x) (subLaw zs off n)) x g off n cp (64 : Nat)) eD1_ok hmS (Nat.le_refl 2) OrcOk.nil (by rw [List.take_of_length_le (by omega), Nat.sub_self, List.replicate_zero, List.append_nil]; rfl) (C41b_ok (by simp [allP, Con.h])) C41b_ex C41b_fm C41b_tab)
  have hs := set_step hY hi
  have hg := xk_get (repLaw x) (subLaw zs off n) i (by exact hi)
  rw [rep_get hi, hl] at hg
  have hwl : (List.take i (xkLaw (repLaw x) (subLaw zs off n)) ++ List.replicate (64 - i) 0).length = 64 := by rw [List.length_append, List.length_take, List.length_replicate]; omega
  by_cases hin : i < n
  · rw [if_pos hin, subLaw_get hin] at hg
    refine To.of (o := A41b zs (List.take i (xkLaw (repLaw x) (subLaw zs off n)) ++ List.replicate (64 - i) 0) x g off n cp i) eD1_ok hmS (Nat.le_refl 2) OrcOk.nil rfl (A41b_ok ?_) A41b_ex A41b_fm ?_
    · have hz2 := hz (off + i)
      simp only [allP, Con.h, nonneg, addO_eq, Int.toNat_natCast, Nat.zero_add, List.length_set, hwl, hx, decide_eq_true_eq, eq_self, true_and, and_true] at hz2 ⊢
      omega
    · rw [A41b_tab]
      simp only [addO_eq, Int.toNat_natCast, List.set_set]
      rw [← hs, hg, ixor_sym x]
      try rw [Nat.zero_add]
  · rw [if_neg hin] at hg
    refine To.of (o := B41b zs (List.take i (xkLaw (repLaw x) (subLaw zs off n)) ++ List.replicate (64 - i) 0) x g off n cp i) eD1_ok hmS (Nat.le_refl 2) OrcOk.nil rfl (B41b_ok ?_) B41b_ex B41b_fm ?_
    · simp only [allP, Con.h, Int.toNat_natCast, hwl, decide_eq_true_eq, decide_eq_false_iff_not, eq_self, true_and, and_true]
      omega
    · rw [B41b_tab, Int.toNat_natCast, ← hs, hg]
noncomputable def gA41bc (vs : List AVal) (T : Tab) (zs : List Int) (bs : List Int) (x : Int) (g : Nat) (off : Nat) (n : Nat) (cp : Option Nat) : Out := ⟨[.tab T [some ⟨.ints .u8 zs, g, false, 5⟩, some ⟨.ints .u8 bs, 0, true, 5⟩], .val (.tuple vs) (.tuple [.int .u8 x, .slice 1 0 g off n cp, .slice 1 1 0 0 64 (some 64), .int .i64 0]), .leN (off + n) zs.length, .p (BsLaw zs), .rng 0 x 255, .p (isZerosLaw bs)], .normal, [(6, .slice 1 1 0 0 64 (some 64))], [some ⟨.ints .u8 zs, g, false, 5⟩, some ⟨.ints .u8 (xkLaw (repLaw x) (subLaw zs off n)), 0, true, 5⟩], []⟩
theorem gA41bc_ok {vs : List AVal} {T : Tab} {zs : List Int} {bs : List Int} {x : Int} {g : Nat} {off : Nat} {n : Nat} {cp : Option Nat} (h : Ok (gA41bc vs T zs bs x g off n cp)) : To eD1 37 2 (.block 0 (.loop (roundOf 0 f41))) (zipF [1,5,6,7] vs) T (gA41bc vs T zs bs x g off n cp).ex (gA41bc vs T zs bs x g off n cp).fm (gA41bc vs T zs bs x g off n cp).tab := by
  obtain ⟨hT, hv, h1, h2, h3, h4, _⟩ := h.h
  simp only [Con.h] at hT hv h1 h2 h3 h4
  injection hv with hv
  subst hT hv
  exact loop41b h1 h2 ⟨h3.1, by have := h3.2; omega⟩ h4
noncomputable def gA41b : List AVal → Tab → Out := fun vs T => gA41bc vs T (xsAt T 0) (xsAt T 1) (iOf (vAt vs 0)) (gAt T 0) (offOf (vAt vs 1)) (lenOf (vAt vs 1)) (capOf (vAt vs 1))
theorem gA41b_ok : BlkOk eD1 f41 0 (.loop (roundOf 0 f41)) (blkS 2 [1,5,6,7] gA41b) := blkS_ok fun vs T h => gA41bc_ok h
noncomputable def orc41a : OrcL := [(0, blkS 3 [1,5,6,7] gA41a)]
theorem orc41a_ok : FnOrc eD1 f41 orc41a := FnOrc.cons gA41a_ok (by kernel_rfl) FnOrc.nil
noncomputable def R41a (zs : List Int) (x : Int) (g off n : Nat) (cp : Option Nat) : Res := resG 1 [0, 2] (runF eD1 f41 orc41a 400 [.slice 1 0 g off n cp, .int .u8 x] [some ⟨.ints .u8 zs, g, false, 5⟩] [some true])
theorem R41a_ok {zs : List Int} {x : Int} {g off n : Nat} {cp : Option Nat} (h : allP [.eqN g g, .p (decide (64 < (↑n : Int)) = true), .eqN g g, .leN (off + n) zs.length, .leN n 140737488355000, .p (BsLaw zs), .p (BsLaw (sum32Law (subLaw zs off n))), .rng 0 x 255, .p (isZerosLaw [0, 0, 0, 0, 0, 0, 0, 0, 0, 0, 0, 0, 0, 0, 0, 0, 0, 0, 0, 0, 0, 0, 0, 0, 0, 0, 0, 0, 0, 0, 0, 0, 0, 0, 0, 0, 0, 0, 0, 0,
 0, 0, 0, 0, 0, 0, 0, 0, 0, 0, 0, 0, 0, 0, 0, 0, 0, 0, 0, 0, 0, 0, 0, 0])]) : OkR (R41a zs x g off n cp) := OkR.dem (fl := bitsF 18 20224) (by kernel_rfl) (by kernel_rfl) (by kernel_rfl) h
theorem R41a_val {zs : List Int} {x : Int} {g off n : Nat} {cp : Option Nat} : (R41a zs x g off n cp).val = .slice 1 1 0 0 64 (some 64) := by kernel_rfl
theorem R41a_tab {zs : List Int} {x : Int} {g off n : Nat} {cp : Option Nat} : (R41a zs x g off n cp).tab = [some ⟨.ints .u8 zs, g, false, 5⟩, some ⟨.ints .u8 (xkLaw (repLaw x) (subLaw (sum32Law (subLaw zs off n)) 0 32)), 0, true, 5⟩] := by kernel_rfl
noncomputable def orc41b : OrcL := [(0, blkS 2 [1,5,6,7] gA41b)]
theorem orc41b_ok : FnOrc eD1 f41 orc41b := FnOrc.cons gA41b_ok (by kernel_rfl) FnOrc.nil
noncomputable def R41b (zs : List Int) (x : Int) (g off n : Nat) (cp : Option Nat) : Res := resG 1 [0, 1] (runF eD1 f41 orc41b 400 [.slice 1 0 g off n cp, .int .u8 x] [some ⟨.ints .u8 zs, g, false, 5⟩] [some false])
theorem R41b_ok {zs : List Int} {x : Int} {g off n : Nat} {cp : Option Nat} (h : allP [.eqN g g, .p (decide (64 < (↑n : Int)) = false), .leN (off + n) zs.length, .p (BsLaw zs), .rng 0 x 255, .p (isZerosLaw [0, 0, 0, 0, 0, 0, 0, 0, 0, 0, 0, 0, 0, 0, 0, 0, 0, 0, 0, 0, 0, 0, 0, 0, 0, 0, 0, 0, 0, 0, 0, 0, 0, 0, 0, 0, 0, 0, 0, 0, 0, 0, 0, 0, 0, 0, 0, 0, 0, 0, 0, 0, 0, 0, 0, 0, 0, 0, 0, 0, 0, 0, 0, 0])])
 : OkR (R41b zs x g off n cp) := OkR.dem (fl := bitsF 12 60) (by kernel_rfl) (by kernel_rfl) (by kernel_rfl) h
theorem R41b_val {zs : List Int} {x : Int} {g off n : Nat} {cp : Option Nat} : (R41b zs x g off n cp).val = .slice 1 1 0 0 64 (some 64) := by kernel_rfl
theorem R41b_tab {zs : List Int} {x : Int} {g off n : Nat} {cp : Option Nat} : (R41b zs x g off n cp).tab = [some ⟨.ints .u8 zs, g, false, 5⟩, some ⟨.ints .u8 (xkLaw (repLaw x) (subLaw zs off n)), 0, true, 5⟩] := by kernel_rfl
end Go.Abs

set_option linter.unusedVariables false
set_option linter.unusedSimpArgs false
set_option maxRecDepth 8000
set_option maxHeartbeats 4000000
namespace Go.Abs
open Go.Proofs Go.Proofs.Tryd
/-! ### the document's Hmac -/
noncomputable def sm41c (args : List AVal) (T : Tab) (zs : List Int) (x : Int) (g : Nat) (off : Nat) (n : Nat) (cp : Option Nat) : Res := ⟨[.tab T [some ⟨.ints .u8 zs, g, false, 5⟩], .val (.tuple args) (.tuple [.slice 1 0 g off n cp, .int .u8 x]), .leN (off + n) zs.length, .leN n 140737488355000, .p (BsLaw zs), .rng 0 x 255], .slice 1 1 0 0 64 (some 64), [some ⟨.ints .u8 zs, g, false, 5⟩, some ⟨.ints .u8 (xkLaw (repLaw x) (keyLaw (subLaw zs off n))), 0, true, 5⟩]⟩
theorem sm41c_ok {args : List AVal} {T : Tab} {zs : List Int} {x : Int} {g : Nat} {off : Nat} {n : Nat} {cp : Option Nat} (h : allP (sm41c args T zs x g off n cp).cs) : Small prog glS 41 args T (sm41c args T zs x g off n cp).val (sm41c args T zs x g off n cp).tab := by
  obtain ⟨hT, hv, h1, h2, h3, h4, _⟩ := h
  simp only [Con.h] at hT hv h1 h2 h3 h4
  injection hv with hv
  subst hT hv
  have hzl : isZerosLaw [0, 0, 0, 0, 0, 0, 0, 0, 0, 0, 0, 0, 0, 0, 0, 0, 0, 0, 0, 0, 0, 0, 0, 0, 0, 0, 0, 0, 0, 0, 0, 0, 0, 0, 0, 0, 0, 0, 0, 0, 0, 0, 0, 0, 0, 0, 0, 0, 0, 0, 0, 0, 0, 0, 0, 0, 0, 0, 0, 0, 0, 0, 0, 0] := rfl
  have hk := subLaw_len h1
  by_cases hl : 64 < n
  · refine small_ofG (R := R41a zs x g off n cp) (keep := [0, 2]) eD1_ok hmS (f := 41) (fn := f41) (by kernel_rfl) (by kernel_rfl) orc41a_ok rfl (R41a_ok ?_) R41a_val ?_
    · simp only [allP, Con.h, sum32_bs, hzl, h1, h2, h3, h4, decide_eq_true_eq, eq_self, true_and, and_true]
      omega
    · rw [R41a_tab, sub_sum32]
      show _ = ([some ⟨.ints .u8 zs, g, false, 5⟩, some ⟨.ints .u8 (xkLaw (repLaw x) (keyLaw (subLaw zs off n))), 0, true, 5⟩] : Tab)
      unfold keyLaw
      rw [if_pos (by omega)]
  · refine small_ofG (R := R41b zs x g off n cp) (keep := [0, 1]) eD1_ok hmS (f := 41) (fn := f41) (by kernel_rfl) (by kernel_rfl) orc41b_ok rfl (R41b_ok ?_) R41b_val ?_
    · simp only [allP, Con.h, sum32_bs, hzl, h1, h2, h3, h4, decide_eq_false_iff_not, eq_self, true_and, and_true]
      omega
    · rw [R41b_tab]
      show _ = ([some ⟨.ints .u8 zs, g, false, 5⟩, some ⟨.ints .u8 (xkLaw (repLaw x) (keyLaw (subLaw zs off n))), 0, true, 5⟩] : Tab)
      unfold keyLaw
      rw [if_neg (by omega)]
noncomputable def sm41 : Summary := fun args T => sm41c args T (xsAt T 0) (iOf (vAt args 1)) (gAt T 0) (offOf (vAt args 0)) (lenOf (vAt args 0)) (capOf (vAt args 0))
theorem sm41_ok : SmOk prog glS 41 sm41 := fun args T h => sm41c_ok h
noncomputable def S41 : Summary := callR sm41 []
theorem S41_ok : SumOk prog glS 41 S41 := callR_ok sm41_ok []
noncomputable def eD2 : Env := eS0 [(14, S14), (41, S41)]
theorem eD2_ok : EnvOk eD2 := envOf_ok tysS_ok (SumsOk.cons (fn := f14) S14_ok (by kernel_rfl) (by kernel_rfl) (by kernel_rfl) (SumsOk.cons (fn := f41) S41_ok (by kernel_rfl) (by kernel_rfl) (by kernel_rfl) trivial))
noncomputable def R25 (zs ts : List Int) (g off n gt ot nt : Nat) (cp ct : Option Nat) : Res := resG 2 [0, 1, 5] (runF eD2 f25 [] 400 [.slice 1 0 g off n cp, .slice 1 1 gt ot nt ct] [some ⟨.ints .u8 zs, g, false, 5⟩, some ⟨.ints .u8 ts, gt, false, 5⟩] [])
theorem R25_ok {zs ts : List Int} {g off n gt ot nt : Nat} {cp ct : Option Nat} (h : allP [.eqN g g, .leN (off + n) zs.length, .leN n 140737488355000, .p (BsLaw zs), .leN 64 (xkLaw (repLaw (OfNat.ofNat 54)) (keyLaw (subLaw zs off n))).length, .leN (64 + nt) 140737488355328, .eqN gt gt, .leN (ot + nt) ts.length, .leN (0 + (64 + nt)) (List.take 64 (xkLaw (repLaw (OfNat.ofNat 54)) (keyLaw (subLaw zs
 off n))) ++ List.take nt (dropO ot ts)).length, .leN (64 + nt) 140737488355000, .p (BsLaw (List.take 64 (xkLaw (repLaw (OfNat.ofNat 54)) (keyLaw (subLaw zs off n))) ++ List.take nt (dropO ot ts))), .eqN g g, .leN (off + n) zs.length, .leN n 140737488355000, .p (BsLaw zs), .leN 64 (xkLaw (repLaw (OfNat.ofNat 92)) (keyLaw (subLaw zs off n))).length, .leN 96 (List.take 64 (xkLaw (repLaw (OfNat.ofNat
 92)) (keyLaw (subLaw zs off n))) ++ List.take 32 (sum32Law (subLaw (List.take 64 (xkLaw (repLaw (OfNat.ofNat 54)) (keyLaw (subLaw zs off n))) ++ List.take nt (dropO ot ts)) 0 (64 + nt)))).length, .p (BsLaw (List.take 64 (xkLaw (repLaw (OfNat.ofNat 92)) (keyLaw (subLaw zs off n))) ++ List.take 32 (sum32Law (subLaw (List.take 64 (xkLaw (repLaw (OfNat.ofNat 54)) (keyLaw (subLaw zs off n))) ++
 List.take nt (dropO ot ts)) 0 (64 + nt)))))]) : OkR (R25 zs ts g off n gt ot nt cp ct) := OkR.dem (fl := bitsF 38 77141651648) (by kernel_rfl) (by kernel_rfl) (by kernel_rfl) h
theorem R25_val {zs ts : List Int} {g off n gt ot nt : Nat} {cp ct : Option Nat} : (R25 zs ts g off n gt ot nt cp ct).val = .slice 1 2 32 0 32 none := by kernel_rfl
theorem R25_tab {zs ts : List Int} {g off n gt ot nt : Nat} {cp ct : Option Nat} : (R25 zs ts g off n gt ot nt cp ct).tab = [some ⟨.ints .u8 zs, g, false, 5⟩, some ⟨.ints .u8 ts, gt, false, 5⟩, some ⟨.ints .u8 (sum32Law (subLaw (List.take 64 (xkLaw (repLaw (OfNat.ofNat 92)) (keyLaw (subLaw zs off n))) ++ List.take 32 (sum32Law (subLaw (List.take 64 (xkLaw (repLaw (OfNat.ofNat 54)) (keyLaw (subLaw
 zs off n))) ++ List.take nt (dropO ot ts)) 0 (64 + nt)))) 0 96)), 32, true, 5⟩] := by kernel_rfl
end Go.Abs

set_option linter.unusedVariables false
set_option linter.unusedSimpArgs false
set_option maxRecDepth 8000
set_option maxHeartbeats 4000000
namespace Go.Abs
open Go.Proofs Go.Proofs.Tryd
/-! ### the document's Hmac: contract -/
theorem key_len (k : List Int) (h : k.length ≤ 140737488355000) : True := trivial
theorem hm_eq (k t : List Int) : hmLaw k t = sum32Law (xkLaw (repLaw 92) (keyLaw k) ++ sum32Law (xkLaw (repLaw 54) (keyLaw k) ++ t)) := rfl
theorem key_bs {k : List Int} (h : BsLaw k) : BsLaw (keyLaw k) := by
  unfold keyLaw; split
  · exact sum32_bs k
  · exact h
theorem xkr_len (x : Int) (k : List Int) : (xkLaw (repLaw x) k).length = 64 := by rw [xk_len]; rfl
theorem take64 (x : Int) (k : List Int) : List.take 64 (xkLaw (repLaw x) k) = xkLaw (repLaw x) k := List.take_of_length_le (by rw [xkr_len]; exact Nat.le_refl _)
theorem take32 (l : List Int) : List.take 32 (sum32Law l) = sum32Law l := List.take_of_length_le (by rw [sum32_len]; exact Nat.le_refl _)
theorem hm_len (k t : List Int) : (hmLaw k t).length = 32 := sum32_len _
theorem hm_bs (k t : List Int) : BsLaw (hmLaw k t) := sum32_bs _
noncomputable def sm25c (args : List AVal) (T : Tab) (zs : List Int) (ts : List Int) (g : Nat) (off : Nat) (n : Nat) (gt : Nat) (ot : Nat) (nt : Nat) (cp : Option Nat) (ct : Option Nat) : Res := ⟨[.tab T [some ⟨.ints .u8 zs, g, false, 5⟩, some ⟨.ints .u8 ts, gt, false, 5⟩], .val (.tuple args) (.tuple [.slice 1 0 g off n cp, .slice 1 1 gt ot nt ct]), .leN (off + n) zs.length, .leN n 140737488355000, .p (BsLaw zs), .leN (ot + nt) ts.length, .leN (64 + nt) 140737488355000, .p (BsLaw ts)], .slice 1 2 32 0 32 none, [some ⟨.ints .u8 zs, g, false, 5⟩, some ⟨.ints .u8 ts, gt, false, 5⟩, some ⟨.ints .u8 (hmLaw (subLaw zs off n) (subLaw ts ot nt)), 32, true, 5⟩]⟩
theorem sm25c_ok {args : List AVal} {T : Tab} {zs : List Int} {ts : List Int} {g : Nat} {off : Nat} {n : Nat} {gt : Nat} {ot : Nat} {nt : Nat} {cp : Option Nat} {ct : Option Nat} (h : allP (sm25c args T zs ts g off n gt ot nt cp ct).cs) : Small prog glS 25 args T (sm25c args T zs ts g off n gt ot nt cp ct).val (sm25c args T zs ts g off n gt ot nt cp ct).tab := by
  obtain ⟨hT, hv, h1, h2, h3, h4, h5, h6, _⟩ := h
  simp only [Con.h] at hT hv h1 h2 h3 h4 h5 h6
  injection hv with hv
  subst hT hv
  have ht := subLaw_len h4
  have hA : (xkLaw (repLaw 54) (keyLaw (subLaw zs off n)) ++ subLaw ts ot nt).length = 64 + nt := by rw [List.length_append, xkr_len, ht]
  have hB : ∀ l, (xkLaw (repLaw 92) (keyLaw (subLaw zs off n)) ++ sum32Law l).length = 96 := fun l => by rw [List.length_append, xkr_len, sum32_len]
  have b1 : BsLaw (xkLaw (repLaw 54) (keyLaw (subLaw zs off n)) ++ subLaw ts ot nt) := ((rep_bs ⟨by decide, by decide⟩).xk (key_bs (h3.sub off n))).append (h6.sub ot nt)
  have b2 : ∀ l, BsLaw (xkLaw (repLaw 92) (keyLaw (subLaw zs off n)) ++ sum32Law l) := fun l => ((rep_bs ⟨by decide, by decide⟩).xk (key_bs (h3.sub off n))).append (sum32_bs l)
  have s1 : subLaw (xkLaw (repLaw 54) (keyLaw (subLaw zs off n)) ++ subLaw ts ot nt) 0 (64 + nt) = xkLaw (repLaw 54) (keyLaw (subLaw zs off n)) ++ subLaw ts ot nt := sub_all hA
  have s2 : ∀ l, subLaw (xkLaw (repLaw 92) (keyLaw (subLaw zs off n)) ++ sum32Law l) 0 96 = xkLaw (repLaw 92) (keyLaw (subLaw zs off n)) ++ sum32Law l := fun l => sub_all (hB l)
  refine small_ofG (R := R25 zs ts g off n gt ot nt cp ct) (keep := [0, 1, 5]) eD2_ok hmS (f := 25) (fn := f25) (by kernel_rfl) (by kernel_rfl) FnOrc.nil rfl (R25_ok ?_) R25_val ?_
  · simp only [allP, Con.h, xkr_len, take64, take32, dropO_eq, takeD, s1, s2, hA, hB, b1, b2, sum32_bs, sum32_len, h1, h2, h3, h4, h5, h6, Nat.zero_add, Nat.le_refl, eq_self, true_and, and_true]
    omega
  · rw [R25_tab]
    simp only [take64, take32, dropO_eq, takeD, s1, s2]
    rfl
noncomputable def sm25 : Summary := fun args T => sm25c args T (xsAt T 0) (xsAt T 1) (gAt T 0) (offOf (vAt args 0)) (lenOf (vAt args 0)) (gAt T 1) (offOf (vAt args 1)) (lenOf (vAt args 1)) (capOf (vAt args 0)) (capOf (vAt args 1))
theorem sm25_ok : SmOk prog glS 25 sm25 := fun args T h => sm25c_ok h
noncomputable def S25 : Summary := callR sm25 []
theorem S25_ok : SumOk prog glS 25 S25 := callR_ok sm25_ok []
noncomputable def S24 : Summary := sumI modeO eG f24 [] 100 [] []
theorem S24_ok : SumOk prog glS 24 S24 := sumI_ok eG_ok hmS (fn := f24) (by kernel_rfl) (by kernel_rfl) [] FnOrc.nil 100 [] []
noncomputable def S31 : Summary := sumI modeO eG f31 [] 100 [] []
theorem S31_ok : SumOk prog glS 31 S31 := sumI_ok eG_ok hmS (fn := f31) (by kernel_rfl) (by kernel_rfl) [] FnOrc.nil 100 [] []
noncomputable def eD3 : Env := eS0 [(25, S25)]
theorem eD3_ok : EnvOk eD3 := envOf_ok tysS_ok (SumsOk.cons (fn := f25) S25_ok (by kernel_rfl) (by kernel_rfl) (by kernel_rfl) trivial)
noncomputable def A28n (zs is os : List Int) (g oz n gi oi ni : Nat) (cp ci : Option Nat) (i m : Int) : Out := run eD3 40 ⟨2, []⟩ 400 (roundOf 0 f28) [(0, .slice 1 0 g oz n cp), (1, .slice 1 1 gi oi ni ci), (2, .int .i64 m), (8, .nilSlice), (9, .nilSlice), (10, .int .i64 i)] [some ⟨.ints .u8 zs, g, false, 5⟩, some ⟨.ints .u8 is, gi, false, 5⟩] [some true]
theorem A28n_ok {zs is os : List Int} {g oz n gi oi ni : Nat} {cp ci : Option Nat} {i m : Int} (h : allP [.p (decide (0 < m) = true), .leN ni 140737488355328, .eqN gi gi, .leN (oi + ni) is.length, .leN (0 + ni) ([] ++ List.take ni (dropO oi is)).length, .leN (addO ni 1) 140737488355328, .eqN g g, .leN (oz + n) zs.length, .leN n 140737488355000, .p (BsLaw zs), .leN (0 + addO ni 1) (List.take ni ([]
 ++ List.take ni (dropO oi is)) ++ [i % 256]).length, .leN (64 + addO ni 1) 140737488355000, .p (BsLaw (List.take ni ([] ++ List.take ni (dropO oi is)) ++ [i % 256])), .rng (-9223372036854775808) (i + 1) 9223372036854775807]) : Ok (A28n zs is os g oz n gi oi ni cp ci i m) := Ok.dem (fl := bitsF 35 16109173886) (by kernel_rfl) (by kernel_rfl) (by kernel_rfl) h
theorem A28n_ex {zs is os : List Int} {g oz n gi oi ni : Nat} {cp ci : Option Nat} {i m : Int} : (A28n zs is os g oz n gi oi ni cp ci i m).ex = .normal := by kernel_rfl
theorem A28n_fm {zs is os : List Int} {g oz n gi oi ni : Nat} {cp ci : Option Nat} {i m : Int} : (A28n zs is os g oz n gi oi ni cp ci i m).fm = [(10, .int .i64 (i + 1)), (22, .int .i64 (i + 1)), (21, .int .i64 i), (8, .slice 1 5 0 0 32 none), (36, .slice 1 5 0 0 32 none), (35, .slice 1 4 32 0 32 none), (34, .nilSlice), (9, .slice 1 4 32 0 32 none), (33, .slice 1 4 32 0 32 none), (32, .slice 1 2 3 0
 (addO ni 1) none), (31, .slice 1 3 0 0 1 (some 1)), (30, .int .u8 (i % 256)), (29, .int .i64 i), (28, .slice 1 2 2 0 ni none), (27, .slice 1 1 gi oi ni ci), (26, .slice 1 2 1 0 0 none), (25, .nilSlice), (24, .slice 1 2 0 0 0 (some 0)), (23, .slice 1 0 g oz n cp), (20, .bool true), (19, .int .i64 m), (18, .int .i64 0), (17, .nilSlice), (0, .slice 1 0 g oz n cp), (1, .slice 1 1 gi oi ni ci), (2, .int
 .i64 m), (8, .nilSlice), (9, .nilSlice), (10, .int .i64 i)] := by kernel_rfl
theorem A28n_tab {zs is os : List Int} {g oz n gi oi ni : Nat} {cp ci : Option Nat} {i m : Int} : (A28n zs is os g oz n gi oi ni cp ci i m).tab = [some ⟨.ints .u8 zs, g, false, 5⟩, some ⟨.ints .u8 is, gi, false, 5⟩, some ⟨.ints .u8 (List.take ni ([] ++ List.take ni (dropO oi is)) ++ [i % 256]), 3, true, 5⟩, some ⟨.ints .u8 [i % 256], 0, true, 5⟩, some ⟨.ints .u8 (hmLaw (subLaw zs oz n) (subLaw
 (List.take ni ([] ++ List.take ni (dropO oi is)) ++ [i % 256]) 0 (addO ni 1))), 32, true, 5⟩, some ⟨.ints .u8 ([] ++ List.take 32 (hmLaw (subLaw zs oz n) (subLaw (List.take ni ([] ++ List.take ni (dropO oi is)) ++ [i % 256]) 0 (addO ni 1)))), 0, true, 5⟩] := by kernel_rfl
noncomputable def A28s (zs is os ts : List Int) (g oz n gi oi ni gs lo gt : Nat) (cp ci : Option Nat) (i m : Int) : Out := run eD3 40 ⟨4, []⟩ 400 (roundOf 0 f28) [(0, .slice 1 0 g oz n cp), (1, .slice 1 1 gi oi ni ci), (2, .int .i64 m), (8, .slice 1 2 gs 0 lo none), (9, .slice 1 3 gt 0 32 none), (10, .int .i64 i)] [some ⟨.ints .u8 zs, g, false, 5⟩, some ⟨.ints .u8 is, gi, false, 5⟩, some ⟨.ints .u8 os, gs, true, 5⟩, some ⟨.ints .u8 ts, gt, true, 5⟩] [some true]
theorem A28s_ok {zs is os ts : List Int} {g oz n gi oi ni gs lo gt : Nat} {cp ci : Option Nat} {i m : Int} (h : allP [.eqN gs gs, .p (decide ((↑lo : Int) < m) = true), .eqN gt gt, .leN 32 ts.length, .leN 32 ([] ++ List.take 32 ts).length, .leN (32 + ni) 140737488355328, .eqN gi gi, .leN (oi + ni) is.length, .leN (0 + (32 + ni)) (List.take 32 ([] ++ List.take 32 ts) ++ List.take ni (dropO oi
 is)).length, .leN (addO (32 + ni) 1) 140737488355328, .eqN g g, .leN (oz + n) zs.length, .leN n 140737488355000, .p (BsLaw zs), .leN (0 + addO (32 + ni) 1) (List.take (32 + ni) (List.take 32 ([] ++ List.take 32 ts) ++ List.take ni (dropO oi is)) ++ [i % 256]).length, .leN (64 + addO (32 + ni) 1) 140737488355000, .p (BsLaw (List.take (32 + ni) (List.take 32 ([] ++ List.take 32 ts) ++ List.take ni
 (dropO oi is)) ++ [i % 256])), .eqN gs gs, .leN (0 + lo) os.length, .leN (addO lo 32) 140737488355328, .rng (-9223372036854775808) (i + 1) 9223372036854775807]) : Ok (A28s zs is os ts g oz n gi oi ni gs lo gt cp ci i m) := Ok.dem (fl := bitsF 41 962121417532) (by kernel_rfl) (by kernel_rfl) (by kernel_rfl) h
theorem A28s_ex {zs is os ts : List Int} {g oz n gi oi ni gs lo gt : Nat} {cp ci : Option Nat} {i m : Int} : (A28s zs is os ts g oz n gi oi ni gs lo gt cp ci i m).ex = .normal := by kernel_rfl
theorem A28s_fm {zs is os ts : List Int} {g oz n gi oi ni gs lo gt : Nat} {cp ci : Option Nat} {i m : Int} : (A28s zs is os ts g oz n gi oi ni gs lo gt cp ci i m).fm = [(10, .int .i64 (i + 1)), (22, .int .i64 (i + 1)), (21, .int .i64 i), (8, .slice 1 2 (gs + 1) 0 (addO lo 32) none), (36, .slice 1 2 (gs + 1) 0 (addO lo 32) none), (35, .slice 1 6 32 0 32 none), (34, .slice 1 2 gs 0 lo none), (9,
 .slice 1 6 32 0 32 none), (33, .slice 1 6 32 0 32 none), (32, .slice 1 4 3 0 (addO (32 + ni) 1) none), (31, .slice 1 5 0 0 1 (some 1)), (30, .int .u8 (i % 256)), (29, .int .i64 i), (28, .slice 1 4 2 0 (32 + ni) none), (27, .slice 1 1 gi oi ni ci), (26, .slice 1 4 1 0 32 none), (25, .slice 1 3 gt 0 32 none), (24, .slice 1 4 0 0 0 (some 0)), (23, .slice 1 0 g oz n cp), (20, .bool true), (19, .int
 .i64 m), (18, .int .i64 (↑lo : Int)), (17, .slice 1 2 gs 0 lo none), (0, .slice 1 0 g oz n cp), (1, .slice 1 1 gi oi ni ci), (2, .int .i64 m), (8, .slice 1 2 gs 0 lo none), (9, .slice 1 3 gt 0 32 none), (10, .int .i64 i)] := by kernel_rfl
theorem A28s_tab {zs is os ts : List Int} {g oz n gi oi ni gs lo gt : Nat} {cp ci : Option Nat} {i m : Int} : (A28s zs is os ts g oz n gi oi ni gs lo gt cp ci i m).tab = [some ⟨.ints .u8 zs, g, false, 5⟩, some ⟨.ints .u8 is, gi, false, 5⟩, some ⟨.ints .u8 (List.take lo os ++ List.take 32 (hmLaw (subLaw zs oz n) (subLaw (List.take (32 + ni) (List.take 32 ([] ++ List.take 32 ts) ++ List.take ni
 (dropO oi is)) ++ [i % 256]) 0 (addO (32 + ni) 1)))), gs + 1, true, 5⟩, some ⟨.ints .u8 ts, gt, true, 5⟩, some ⟨.ints .u8 (List.take (32 + ni) (List.take 32 ([] ++ List.take 32 ts) ++ List.take ni (dropO oi is)) ++ [i % 256]), 3, true, 5⟩, some ⟨.ints .u8 [i % 256], 0, true, 5⟩, some ⟨.ints .u8 (hmLaw (subLaw zs oz n) (subLaw (List.take (32 + ni) (List.take 32 ([] ++ List.take 32 ts) ++ List.take
 ni (dropO oi is)) ++ [i % 256]) 0 (addO (32 + ni) 1))), 32, true, 5⟩] := by kernel_rfl
end Go.Abs

set_option linter.unusedVariables false
set_option linter.unusedSimpArgs false
set_option maxRecDepth 8000
set_option maxHeartbeats 4000000
namespace Go.Abs
open Go.Proofs Go.Proofs.Tryd
/-! ### Expand: its codes -/
noncomputable def S42 : Summary := sumI modeO (eS0 []) f42 [] 100 [] []
theorem S42_ok : SumOk prog glS 42 S42 := sumI_ok eS0_ok hmS (fn := f42) (by kernel_rfl) (by kernel_rfl) [] FnOrc.nil 100 [] []
noncomputable def eX : Env := eS0 [(40, S40), (42, S42)]
theorem eX_ok : EnvOk eX := envOf_ok tysS_ok (SumsOk.cons (fn := f40) S40_ok (by kernel_rfl) (by kernel_rfl) (by kernel_rfl) (SumsOk.cons (fn := f42) S42_ok (by kernel_rfl) (by kernel_rfl) (by kernel_rfl) trivial))
def fstC : Code → Code
  | .seq a b => a
  | c => c
def sndC : Code → Code
  | .seq a b => b
  | c => c
def blkC : Code → Code
  | .block _ c => c
  | .loop c => c
  | c => c
def rfAssign : Code → Code
  | .rangeFunc _ _ a _ => a
  | c => c
def rfBody : Code → Code
  | .rangeFunc _ _ _ b => b
  | c => c
noncomputable def rf27 : Code := blkC (sndC (fstC (backC 3 (bodyOf f27))))
noncomputable def as27 : Code := rfAssign rf27
noncomputable def bd27 : Code := rfBody rf27
noncomputable def hd53 : Code := fstC (roundOf 0 f53)
noncomputable def x53 : Code := blkC (fstC (sndC (roundOf 0 f53)))
noncomputable def r4c : Code := fstC x53
noncomputable def r5c : Code := fstC (sndC x53)
noncomputable def ops5 : Array Oper := match r5c with | .region _ o _ => o | _ => #[]
noncomputable def cnd53 : Code := sndC (sndC x53)
noncomputable def r3c : Code := sndC (sndC (roundOf 0 f53))
/-! info s -/
noncomputable def R4as (zs : List Int) (g off n : Nat) (cp : Option Nat) (m : Int) (is : List Int) (gi oi ni : Nat) (ci : Option Nat) (x : Int) (l : Nat) : Out := trimG 6 [0, 1, 2, 3, 4, 5, 8] [0,1,2,4,5] (run eX 21 ⟨6, []⟩ 400 r4c [(0, .func (.yield l) [] []), (1, .var 4 0), (2, .var 5 0), (4, .nilSlice), (5, .int .u8 x)] [some ⟨.ints .u8 zs, g, false, 5⟩, some ⟨.ints .u8 is, gi, false, 5⟩, some ⟨.ints .i64 [m], 0, true, 3⟩, some ⟨.agg [.nilSlice], 0, true, 22⟩, some ⟨.agg [.slice 1 0 g off n cp], 0, true, 22⟩, some ⟨.agg [.slice 1 1 gi oi ni ci], 0, true, 22⟩] [])
theorem R4as_ok {zs : List Int} {g off n : Nat} {cp : Option Nat} {m : Int} {is : List Int} {gi oi ni : Nat} {ci : Option Nat} {x : Int} {l : Nat} (h : allP [.eqN g g, .eqN gi gi, .leN (off + n) zs.length, .leN n 140737488355000, .p (BsLaw zs), .p (capLaw n cp), .leN (oi + ni) is.length, .p (BsLaw is), .p (BsLaw [x]), .leN (64 + ni + 1) 140737488355000]) : Ok (R4as zs g off n cp m is gi oi ni ci x
 l) := Ok.dem (fl := bitsF 29 67289087) (by kernel_rfl) (by kernel_rfl) (by kernel_rfl) h
theorem R4as_ex {zs : List Int} {g off n : Nat} {cp : Option Nat} {m : Int} {is : List Int} {gi oi ni : Nat} {ci : Option Nat} {x : Int} {l : Nat} : (R4as zs g off n cp m is gi oi ni ci x l).ex = .normal := by kernel_rfl
theorem R4as_fm {zs : List Int} {g off n : Nat} {cp : Option Nat} {m : Int} {is : List Int} {gi oi ni : Nat} {ci : Option Nat} {x : Int} {l : Nat} : (R4as zs g off n cp m is gi oi ni ci x l).fm = [(0, .func (Fn.yield l) [] []), (1, .var 4 0), (2, .var 5 0), (4, .slice 1 6 31 0 32 none), (5, .int .u8 x)] := by kernel_rfl
theorem R4as_tab {zs : List Int} {g off n : Nat} {cp : Option Nat} {m : Int} {is : List Int} {gi oi ni : Nat} {ci : Option Nat} {x : Int} {l : Nat} : (R4as zs g off n cp m is gi oi ni ci x l).tab = [some ⟨.ints .u8 zs, g, false, 5⟩, some ⟨.ints .u8 is, gi, false, 5⟩, some ⟨.ints .i64 [m], 0, true, 3⟩, some ⟨.agg [.nilSlice], 0, true, 22⟩, some ⟨.agg [.slice 1 0 g off n cp], 0, true, 22⟩, some ⟨.agg
 [.slice 1 1 gi oi ni ci], 0, true, 22⟩, some ⟨.ints .u8 (hmLaw (subLaw zs off n) (subLaw is oi ni ++ subLaw [x] 0 1)), 31, true, 5⟩] := by kernel_rfl
noncomputable def R4bs (zs : List Int) (g off n : Nat) (cp : Option Nat) (m : Int) (is : List Int) (gi oi ni : Nat) (ci : Option Nat) (x : Int) (ts os : List Int) (go lo l : Nat) : Out := trimG 6 [0, 1, 2, 3, 4, 5, 10, 7] [0,1,2,4,5] (run eX 21 ⟨6, []⟩ 400 r4c [(0, .func (.yield l) [] []), (1, .var 4 0), (2, .var 5 0), (4, .slice 1 6 31 0 32 none), (5, .int .u8 x)] [some ⟨.ints .u8 zs, g, false, 5⟩, some ⟨.ints .u8 is, gi, false, 5⟩, some ⟨.ints .i64 [m], 0, true, 3⟩, some ⟨.agg [.slice 1 7 go 0 lo none], 0, true, 22⟩, some ⟨.agg [.slice 1 0 g off n cp], 0, true, 22⟩, some ⟨.agg [.slice 1 1 gi oi ni ci], 0, true, 22⟩, some ⟨.ints .u8 ts, 31, true, 5⟩, some ⟨.ints .u8 os, go, true, 5⟩] [])
theorem R4bs_ok {zs : List Int} {g off n : Nat} {cp : Option Nat} {m : Int} {is : List Int} {gi oi ni : Nat} {ci : Option Nat} {x : Int} {ts os : List Int} {go lo l : Nat} (h : allP [.eqN g g, .eqN gi gi, .leN (off + n) zs.length, .leN n 140737488355000, .p (BsLaw zs), .p (capLaw n cp), .leN 32 ts.length, .p (BsLaw ts), .leN (oi + ni) is.length, .p (BsLaw is), .p (BsLaw [x]), .leN (96 + ni + 1)
 140737488355000]) : Ok (R4bs zs g off n cp m is gi oi ni ci x ts os go lo l) := Ok.dem (fl := bitsF 32 537247743) (by kernel_rfl) (by kernel_rfl) (by kernel_rfl) h
theorem R4bs_ex {zs : List Int} {g off n : Nat} {cp : Option Nat} {m : Int} {is : List Int} {gi oi ni : Nat} {ci : Option Nat} {x : Int} {ts os : List Int} {go lo l : Nat} : (R4bs zs g off n cp m is gi oi ni ci x ts os go lo l).ex = .normal := by kernel_rfl
theorem R4bs_fm {zs : List Int} {g off n : Nat} {cp : Option Nat} {m : Int} {is : List Int} {gi oi ni : Nat} {ci : Option Nat} {x : Int} {ts os : List Int} {go lo l : Nat} : (R4bs zs g off n cp m is gi oi ni ci x ts os go lo l).fm = [(0, .func (Fn.yield l) [] []), (1, .var 4 0), (2, .var 5 0), (4, .slice 1 6 31 0 32 none), (5, .int .u8 x)] := by kernel_rfl
theorem R4bs_tab {zs : List Int} {g off n : Nat} {cp : Option Nat} {m : Int} {is : List Int} {gi oi ni : Nat} {ci : Option Nat} {x : Int} {ts os : List Int} {go lo l : Nat} : (R4bs zs g off n cp m is gi oi ni ci x ts os go lo l).tab = [some ⟨.ints .u8 zs, g, false, 5⟩, some ⟨.ints .u8 is, gi, false, 5⟩, some ⟨.ints .i64 [m], 0, true, 3⟩, some ⟨.agg [.slice 1 7 go 0 lo none], 0, true, 22⟩, some
 ⟨.agg [.slice 1 0 g off n cp], 0, true, 22⟩, some ⟨.agg [.slice 1 1 gi oi ni ci], 0, true, 22⟩, some ⟨.ints .u8 (hmLaw (subLaw zs off n) (subLaw ts 0 32 ++ subLaw is oi ni ++ subLaw [x] 0 1)), 31, true, 5⟩, some ⟨.ints .u8 os, go, true, 5⟩] := by kernel_rfl
noncomputable def Ras1 (zs : List Int) (g off n : Nat) (cp : Option Nat) (m : Int) (is : List Int) (gi oi ni : Nat) (ci : Option Nat) (ts : List Int) : Out := trim 7 7 [5,8,9] (run eX 30 ⟨7, []⟩ 400 as27 ((19, .slice 1 6 31 0 32 none) :: [(5, .var 2 0), (8, .var 3 0), (18, .func (.func 53) [] [.var 4 0, .var 5 0])]) [some ⟨.ints .u8 zs, g, false, 5⟩, some ⟨.ints .u8 is, gi, false, 5⟩, some ⟨.ints .i64 [m], 0, true, 3⟩, some ⟨.agg [.nilSlice], 0, true, 22⟩, some ⟨.agg [.slice 1 0 g off n cp], 0, true, 22⟩, some ⟨.agg [.slice 1 1 gi oi ni ci], 0, true, 22⟩, some ⟨.ints .u8 ts, 31, true, 5⟩] [])
theorem Ras1_ok {zs : List Int} {g off n : Nat} {cp : Option Nat} {m : Int} {is : List Int} {gi oi ni : Nat} {ci : Option Nat} {ts : List Int} (h : allP []) : Ok (Ras1 zs g off n cp m is gi oi ni ci ts) := Ok.dem (fl := []) (by kernel_rfl) (by kernel_rfl) (by kernel_rfl) h
theorem Ras1_ex {zs : List Int} {g off n : Nat} {cp : Option Nat} {m : Int} {is : List Int} {gi oi ni : Nat} {ci : Option Nat} {ts : List Int} : (Ras1 zs g off n cp m is gi oi ni ci ts).ex = .normal := by kernel_rfl
theorem Ras1_fm {zs : List Int} {g off n : Nat} {cp : Option Nat} {m : Int} {is : List Int} {gi oi ni : Nat} {ci : Option Nat} {ts : List Int} : (Ras1 zs g off n cp m is gi oi ni ci ts).fm = [(5, .var 2 0), (8, .var 3 0), (9, .slice 1 6 31 0 32 none)] := by kernel_rfl
theorem Ras1_tab {zs : List Int} {g off n : Nat} {cp : Option Nat} {m : Int} {is : List Int} {gi oi ni : Nat} {ci : Option Nat} {ts : List Int} : (Ras1 zs g off n cp m is gi oi ni ci ts).tab = [some ⟨.ints .u8 zs, g, false, 5⟩, some ⟨.ints .u8 is, gi, false, 5⟩, some ⟨.ints .i64 [m], 0, true, 3⟩, some ⟨.agg [.nilSlice], 0, true, 22⟩, some ⟨.agg [.slice 1 0 g off n cp], 0, true, 22⟩, some ⟨.agg
 [.slice 1 1 gi oi ni ci], 0, true, 22⟩, some ⟨.ints .u8 ts, 31, true, 5⟩] := by kernel_rfl
noncomputable def Ras2 (zs : List Int) (g off n : Nat) (cp : Option Nat) (m : Int) (is : List Int) (gi oi ni : Nat) (ci : Option Nat) (ts os : List Int) (go lo : Nat) : Out := trim 8 8 [5,8,9] (run eX 30 ⟨8, []⟩ 400 as27 ((19, .slice 1 6 31 0 32 none) :: [(5, .var 2 0), (8, .var 3 0), (18, .func (.func 53) [] [.var 4 0, .var 5 0])]) [some ⟨.ints .u8 zs, g, false, 5⟩, some ⟨.ints .u8 is, gi, false, 5⟩, some ⟨.ints .i64 [m], 0, true, 3⟩, some ⟨.agg [.slice 1 7 go 0 lo none], 0, true, 22⟩, some ⟨.agg [.slice 1 0 g off n cp], 0, true, 22⟩, some ⟨.agg [.slice 1 1 gi oi ni ci], 0, true, 22⟩, some ⟨.ints .u8 ts, 31, true, 5⟩, some ⟨.ints .u8 os, go, true, 5⟩] [])
theorem Ras2_ok {zs : List Int} {g off n : Nat} {cp : Option Nat} {m : Int} {is : List Int} {gi oi ni : Nat} {ci : Option Nat} {ts os : List Int} {go lo : Nat} (h : allP []) : Ok (Ras2 zs g off n cp m is gi oi ni ci ts os go lo) := Ok.dem (fl := []) (by kernel_rfl) (by kernel_rfl) (by kernel_rfl) h
theorem Ras2_ex {zs : List Int} {g off n : Nat} {cp : Option Nat} {m : Int} {is : List Int} {gi oi ni : Nat} {ci : Option Nat} {ts os : List Int} {go lo : Nat} : (Ras2 zs g off n cp m is gi oi ni ci ts os go lo).ex = .normal := by kernel_rfl
theorem Ras2_fm {zs : List Int} {g off n : Nat} {cp : Option Nat} {m : Int} {is : List Int} {gi oi ni : Nat} {ci : Option Nat} {ts os : List Int} {go lo : Nat} : (Ras2 zs g off n cp m is gi oi ni ci ts os go lo).fm = [(5, .var 2 0), (8, .var 3 0), (9, .slice 1 6 31 0 32 none)] := by kernel_rfl
theorem Ras2_tab {zs : List Int} {g off n : Nat} {cp : Option Nat} {m : Int} {is : List Int} {gi oi ni : Nat} {ci : Option Nat} {ts os : List Int} {go lo : Nat} : (Ras2 zs g off n cp m is gi oi ni ci ts os go lo).tab = [some ⟨.ints .u8 zs, g, false, 5⟩, some ⟨.ints .u8 is, gi, false, 5⟩, some ⟨.ints .i64 [m], 0, true, 3⟩, some ⟨.agg [.slice 1 7 go 0 lo none], 0, true, 22⟩, some ⟨.agg [.slice 1 0 g
 off n cp], 0, true, 22⟩, some ⟨.agg [.slice 1 1 gi oi ni ci], 0, true, 22⟩, some ⟨.ints .u8 ts, 31, true, 5⟩, some ⟨.ints .u8 os, go, true, 5⟩] := by kernel_rfl
noncomputable def Rbs1 (zs : List Int) (g off n : Nat) (cp : Option Nat) (m : Int) (is : List Int) (gi oi ni : Nat) (ci : Option Nat) (ts : List Int) : Out := trim 7 8 [5] (run eX 30 ⟨7, []⟩ 400 bd27 [(5, .var 2 0), (8, .var 3 0), (9, .slice 1 6 31 0 32 none)] [some ⟨.ints .u8 zs, g, false, 5⟩, some ⟨.ints .u8 is, gi, false, 5⟩, some ⟨.ints .i64 [m], 0, true, 3⟩, some ⟨.agg [.nilSlice], 0, true, 22⟩, some ⟨.agg [.slice 1 0 g off n cp], 0, true, 22⟩, some ⟨.agg [.slice 1 1 gi oi ni ci], 0, true, 22⟩, some ⟨.ints .u8 ts, 31, true, 5⟩] [some false])
theorem Rbs1_ok {zs : List Int} {g off n : Nat} {cp : Option Nat} {m : Int} {is : List Int} {gi oi ni : Nat} {ci : Option Nat} {ts : List Int} (h : allP [.p (decide (m ≤ 0) = false), .leN 32 ts.length]) : Ok (Rbs1 zs g off n cp m is gi oi ni ci ts) := Ok.dem (fl := bitsF 15 32239) (by kernel_rfl) (by kernel_rfl) (by kernel_rfl) h
theorem Rbs1_ex {zs : List Int} {g off n : Nat} {cp : Option Nat} {m : Int} {is : List Int} {gi oi ni : Nat} {ci : Option Nat} {ts : List Int} : (Rbs1 zs g off n cp m is gi oi ni ci ts).ex = .normal := by kernel_rfl
theorem Rbs1_fm {zs : List Int} {g off n : Nat} {cp : Option Nat} {m : Int} {is : List Int} {gi oi ni : Nat} {ci : Option Nat} {ts : List Int} : (Rbs1 zs g off n cp m is gi oi ni ci ts).fm = [(5, .var 2 0)] := by kernel_rfl
theorem Rbs1_tab {zs : List Int} {g off n : Nat} {cp : Option Nat} {m : Int} {is : List Int} {gi oi ni : Nat} {ci : Option Nat} {ts : List Int} : (Rbs1 zs g off n cp m is gi oi ni ci ts).tab = [some ⟨.ints .u8 zs, g, false, 5⟩, some ⟨.ints .u8 is, gi, false, 5⟩, some ⟨.ints .i64 [m], 0, true, 3⟩, some ⟨.agg [.slice 1 7 0 0 32 none], 0, true, 22⟩, some ⟨.agg [.slice 1 0 g off n cp], 0, true, 22⟩,
 some ⟨.agg [.slice 1 1 gi oi ni ci], 0, true, 22⟩, some ⟨.ints .u8 ts, 31, true, 5⟩, some ⟨.ints .u8 ([] ++ List.take 32 ts), 0, true, 5⟩] := by kernel_rfl
noncomputable def Rbs2 (zs : List Int) (g off n : Nat) (cp : Option Nat) (m : Int) (is : List Int) (gi oi ni : Nat) (ci : Option Nat) (ts os : List Int) (go lo : Nat) : Out := trim 8 8 [5] (run eX 30 ⟨8, []⟩ 400 bd27 [(5, .var 2 0), (8, .var 3 0), (9, .slice 1 6 31 0 32 none)] [some ⟨.ints .u8 zs, g, false, 5⟩, some ⟨.ints .u8 is, gi, false, 5⟩, some ⟨.ints .i64 [m], 0, true, 3⟩, some ⟨.agg [.slice 1 7 go 0 lo none], 0, true, 22⟩, some ⟨.agg [.slice 1 0 g off n cp], 0, true, 22⟩, some ⟨.agg [.slice 1 1 gi oi ni ci], 0, true, 22⟩, some ⟨.ints .u8 ts, 31, true, 5⟩, some ⟨.ints .u8 os, go, true, 5⟩] [some false])
theorem Rbs2_ok {zs : List Int} {g off n : Nat} {cp : Option Nat} {m : Int} {is : List Int} {gi oi ni : Nat} {ci : Option Nat} {ts os : List Int} {go lo : Nat} (h : allP [.eqN go go, .p (decide (m ≤ (↑lo : Int)) = false), .eqN go go, .leN (0 + lo) os.length, .leN (addO lo 32) 140737488355328, .leN 32 ts.length]) : Ok (Rbs2 zs g off n cp m is gi oi ni ci ts os go lo) := Ok.dem (fl := bitsF 18
 256219) (by kernel_rfl) (by kernel_rfl) (by kernel_rfl) h
theorem Rbs2_ex {zs : List Int} {g off n : Nat} {cp : Option Nat} {m : Int} {is : List Int} {gi oi ni : Nat} {ci : Option Nat} {ts os : List Int} {go lo : Nat} : (Rbs2 zs g off n cp m is gi oi ni ci ts os go lo).ex = .normal := by kernel_rfl
theorem Rbs2_fm {zs : List Int} {g off n : Nat} {cp : Option Nat} {m : Int} {is : List Int} {gi oi ni : Nat} {ci : Option Nat} {ts os : List Int} {go lo : Nat} : (Rbs2 zs g off n cp m is gi oi ni ci ts os go lo).fm = [(5, .var 2 0)] := by kernel_rfl
theorem Rbs2_tab {zs : List Int} {g off n : Nat} {cp : Option Nat} {m : Int} {is : List Int} {gi oi ni : Nat} {ci : Option Nat} {ts os : List Int} {go lo : Nat} : (Rbs2 zs g off n cp m is gi oi ni ci ts os go lo).tab = [some ⟨.ints .u8 zs, g, false, 5⟩, some ⟨.ints .u8 is, gi, false, 5⟩, some ⟨.ints .i64 [m], 0, true, 3⟩, some ⟨.agg [.slice 1 7 (go + 1) 0 (addO lo 32) none], 0, true, 22⟩, some
 ⟨.agg [.slice 1 0 g off n cp], 0, true, 22⟩, some ⟨.agg [.slice 1 1 gi oi ni ci], 0, true, 22⟩, some ⟨.ints .u8 ts, 31, true, 5⟩, some ⟨.ints .u8 (List.take lo os ++ List.take 32 ts), go + 1, true, 5⟩] := by kernel_rfl
noncomputable def Rxs1 (zs : List Int) (g off n : Nat) (cp : Option Nat) (m : Int) (is : List Int) (gi oi ni : Nat) (ci : Option Nat) (ts : List Int) : Out := trim 7 7 [5] (run eX 30 ⟨7, []⟩ 400 bd27 [(5, .var 2 0), (8, .var 3 0), (9, .slice 1 6 31 0 32 none)] [some ⟨.ints .u8 zs, g, false, 5⟩, some ⟨.ints .u8 is, gi, false, 5⟩, some ⟨.ints .i64 [m], 0, true, 3⟩, some ⟨.agg [.nilSlice], 0, true, 22⟩, some ⟨.agg [.slice 1 0 g off n cp], 0, true, 22⟩, some ⟨.agg [.slice 1 1 gi oi ni ci], 0, true, 22⟩, some ⟨.ints .u8 ts, 31, true, 5⟩] [some true])
theorem Rxs1_ok {zs : List Int} {g off n : Nat} {cp : Option Nat} {m : Int} {is : List Int} {gi oi ni : Nat} {ci : Option Nat} {ts : List Int} (h : allP [.p (decide (m ≤ 0) = true)]) : Ok (Rxs1 zs g off n cp m is gi oi ni ci ts) := Ok.dem (fl := [true, true, true, true, false]) (by kernel_rfl) (by kernel_rfl) (by kernel_rfl) h
theorem Rxs1_ex {zs : List Int} {g off n : Nat} {cp : Option Nat} {m : Int} {is : List Int} {gi oi ni : Nat} {ci : Option Nat} {ts : List Int} : (Rxs1 zs g off n cp m is gi oi ni ci ts).ex = .exit 0 := by kernel_rfl
theorem Rxs1_fm {zs : List Int} {g off n : Nat} {cp : Option Nat} {m : Int} {is : List Int} {gi oi ni : Nat} {ci : Option Nat} {ts : List Int} : (Rxs1 zs g off n cp m is gi oi ni ci ts).fm = [(5, .var 2 0)] := by kernel_rfl
theorem Rxs1_tab {zs : List Int} {g off n : Nat} {cp : Option Nat} {m : Int} {is : List Int} {gi oi ni : Nat} {ci : Option Nat} {ts : List Int} : (Rxs1 zs g off n cp m is gi oi ni ci ts).tab = [some ⟨.ints .u8 zs, g, false, 5⟩, some ⟨.ints .u8 is, gi, false, 5⟩, some ⟨.ints .i64 [m], 0, true, 3⟩, some ⟨.agg [.nilSlice], 0, true, 22⟩, some ⟨.agg [.slice 1 0 g off n cp], 0, true, 22⟩, some ⟨.agg
 [.slice 1 1 gi oi ni ci], 0, true, 22⟩, some ⟨.ints .u8 ts, 31, true, 5⟩] := by kernel_rfl
noncomputable def Rxs2 (zs : List Int) (g off n : Nat) (cp : Option Nat) (m : Int) (is : List Int) (gi oi ni : Nat) (ci : Option Nat) (ts os : List Int) (go lo : Nat) : Out := trim 8 8 [5] (run eX 30 ⟨8, []⟩ 400 bd27 [(5, .var 2 0), (8, .var 3 0), (9, .slice 1 6 31 0 32 none)] [some ⟨.ints .u8 zs, g, false, 5⟩, some ⟨.ints .u8 is, gi, false, 5⟩, some ⟨.ints .i64 [m], 0, true, 3⟩, some ⟨.agg [.slice 1 7 go 0 lo none], 0, true, 22⟩, some ⟨.agg [.slice 1 0 g off n cp], 0, true, 22⟩, some ⟨.agg [.slice 1 1 gi oi ni ci], 0, true, 22⟩, some ⟨.ints .u8 ts, 31, true, 5⟩, some ⟨.ints .u8 os, go, true, 5⟩] [some true])
theorem Rxs2_ok {zs : List Int} {g off n : Nat} {cp : Option Nat} {m : Int} {is : List Int} {gi oi ni : Nat} {ci : Option Nat} {ts os : List Int} {go lo : Nat} (h : allP [.eqN go go, .p (decide (m ≤ (↑lo : Int)) = true)]) : Ok (Rxs2 zs g off n cp m is gi oi ni ci ts os go lo) := Ok.dem (fl := [true, true, false, true, true, false]) (by kernel_rfl) (by kernel_rfl) (by kernel_rfl) h
theorem Rxs2_ex {zs : List Int} {g off n : Nat} {cp : Option Nat} {m : Int} {is : List Int} {gi oi ni : Nat} {ci : Option Nat} {ts os : List Int} {go lo : Nat} : (Rxs2 zs g off n cp m is gi oi ni ci ts os go lo).ex = .exit 0 := by kernel_rfl
theorem Rxs2_fm {zs : List Int} {g off n : Nat} {cp : Option Nat} {m : Int} {is : List Int} {gi oi ni : Nat} {ci : Option Nat} {ts os : List Int} {go lo : Nat} : (Rxs2 zs g off n cp m is gi oi ni ci ts os go lo).fm = [(5, .var 2 0)] := by kernel_rfl
theorem Rxs2_tab {zs : List Int} {g off n : Nat} {cp : Option Nat} {m : Int} {is : List Int} {gi oi ni : Nat} {ci : Option Nat} {ts os : List Int} {go lo : Nat} : (Rxs2 zs g off n cp m is gi oi ni ci ts os go lo).tab = [some ⟨.ints .u8 zs, g, false, 5⟩, some ⟨.ints .u8 is, gi, false, 5⟩, some ⟨.ints .i64 [m], 0, true, 3⟩, some ⟨.agg [.slice 1 7 go 0 lo none], 0, true, 22⟩, some ⟨.agg [.slice 1 0 g
 off n cp], 0, true, 22⟩, some ⟨.agg [.slice 1 1 gi oi ni ci], 0, true, 22⟩, some ⟨.ints .u8 ts, 31, true, 5⟩, some ⟨.ints .u8 os, go, true, 5⟩] := by kernel_rfl
noncomputable def Hds0 (zs : List Int) (g off n : Nat) (cp : Option Nat) (m : Int) (is : List Int) (gi oi ni : Nat) (ci : Option Nat) (x : Int) (l : Nat) : Out := trim 6 6 [0,1,2,4,5] (run eX 21 ⟨6, []⟩ 400 hd53 [(0, .func (.yield l) [] []), (1, .var 4 0), (2, .var 5 0), (4, .nilSlice), (5, .int .u8 x)] [some ⟨.ints .u8 zs, g, false, 5⟩, some ⟨.ints .u8 is, gi, false, 5⟩, some ⟨.ints .i64 [m], 0, true, 3⟩, some ⟨.agg [.nilSlice], 0, true, 22⟩, some ⟨.agg [.slice 1 0 g off n cp], 0, true, 22⟩, some ⟨.agg [.slice 1 1 gi oi ni ci], 0, true, 22⟩] [some true])
theorem Hds0_ok {zs : List Int} {g off n : Nat} {cp : Option Nat} {m : Int} {is : List Int} {gi oi ni : Nat} {ci : Option Nat} {x : Int} {l : Nat} (h : allP [.p ((x != 0) = true)]) : Ok (Hds0 zs g off n cp m is gi oi ni ci x l) := Ok.dem (fl := [false]) (by kernel_rfl) (by kernel_rfl) (by kernel_rfl) h
theorem Hds0_ex {zs : List Int} {g off n : Nat} {cp : Option Nat} {m : Int} {is : List Int} {gi oi ni : Nat} {ci : Option Nat} {x : Int} {l : Nat} : (Hds0 zs g off n cp m is gi oi ni ci x l).ex = .normal := by kernel_rfl
theorem Hds0_fm {zs : List Int} {g off n : Nat} {cp : Option Nat} {m : Int} {is : List Int} {gi oi ni : Nat} {ci : Option Nat} {x : Int} {l : Nat} : (Hds0 zs g off n cp m is gi oi ni ci x l).fm = [(0, .func (Fn.yield l) [] []), (1, .var 4 0), (2, .var 5 0), (4, .nilSlice), (5, .int .u8 x)] := by kernel_rfl
theorem Hds0_tab {zs : List Int} {g off n : Nat} {cp : Option Nat} {m : Int} {is : List Int} {gi oi ni : Nat} {ci : Option Nat} {x : Int} {l : Nat} : (Hds0 zs g off n cp m is gi oi ni ci x l).tab = [some ⟨.ints .u8 zs, g, false, 5⟩, some ⟨.ints .u8 is, gi, false, 5⟩, some ⟨.ints .i64 [m], 0, true, 3⟩, some ⟨.agg [.nilSlice], 0, true, 22⟩, some ⟨.agg [.slice 1 0 g off n cp], 0, true, 22⟩, some ⟨.agg
 [.slice 1 1 gi oi ni ci], 0, true, 22⟩] := by kernel_rfl
noncomputable def Hds1 (zs : List Int) (g off n : Nat) (cp : Option Nat) (m : Int) (is : List Int) (gi oi ni : Nat) (ci : Option Nat) (x : Int) (ts os : List Int) (go lo l : Nat) : Out := trim 8 8 [0,1,2,4,5] (run eX 21 ⟨8, []⟩ 400 hd53 [(0, .func (.yield l) [] []), (1, .var 4 0), (2, .var 5 0), (4, .slice 1 6 31 0 32 none), (5, .int .u8 x)] [some ⟨.ints .u8 zs, g, false, 5⟩, some ⟨.ints .u8 is, gi, false, 5⟩, some ⟨.ints .i64 [m], 0, true, 3⟩, some ⟨.agg [.slice 1 7 go 0 lo none], 0, true, 22⟩, some ⟨.agg [.slice 1 0 g off n cp], 0, true, 22⟩, some ⟨.agg [.slice 1 1 gi oi ni ci], 0, true, 22⟩, some ⟨.ints .u8 ts, 31, true, 5⟩, some ⟨.ints .u8 os, go, true, 5⟩] [some true])
theorem Hds1_ok {zs : List Int} {g off n : Nat} {cp : Option Nat} {m : Int} {is : List Int} {gi oi ni : Nat} {ci : Option Nat} {x : Int} {ts os : List Int} {go lo l : Nat} (h : allP [.p ((x != 0) = true)]) : Ok (Hds1 zs g off n cp m is gi oi ni ci x ts os go lo l) := Ok.dem (fl := [false]) (by kernel_rfl) (by kernel_rfl) (by kernel_rfl) h
theorem Hds1_ex {zs : List Int} {g off n : Nat} {cp : Option Nat} {m : Int} {is : List Int} {gi oi ni : Nat} {ci : Option Nat} {x : Int} {ts os : List Int} {go lo l : Nat} : (Hds1 zs g off n cp m is gi oi ni ci x ts os go lo l).ex = .normal := by kernel_rfl
theorem Hds1_fm {zs : List Int} {g off n : Nat} {cp : Option Nat} {m : Int} {is : List Int} {gi oi ni : Nat} {ci : Option Nat} {x : Int} {ts os : List Int} {go lo l : Nat} : (Hds1 zs g off n cp m is gi oi ni ci x ts os go lo l).fm = [(0, .func (Fn.yield l) [] []), (1, .var 4 0), (2, .var 5 0), (4, .slice 1 6 31 0 32 none), (5, .int .u8 x)] := by kernel_rfl
theorem Hds1_tab {zs : List Int} {g off n : Nat} {cp : Option Nat} {m : Int} {is : List Int} {gi oi ni : Nat} {ci : Option Nat} {x : Int} {ts os : List Int} {go lo l : Nat} : (Hds1 zs g off n cp m is gi oi ni ci x ts os go lo l).tab = [some ⟨.ints .u8 zs, g, false, 5⟩, some ⟨.ints .u8 is, gi, false, 5⟩, some ⟨.ints .i64 [m], 0, true, 3⟩, some ⟨.agg [.slice 1 7 go 0 lo none], 0, true, 22⟩, some
 ⟨.agg [.slice 1 0 g off n cp], 0, true, 22⟩, some ⟨.agg [.slice 1 1 gi oi ni ci], 0, true, 22⟩, some ⟨.ints .u8 ts, 31, true, 5⟩, some ⟨.ints .u8 os, go, true, 5⟩] := by kernel_rfl
noncomputable def Hes (zs : List Int) (g off n : Nat) (cp : Option Nat) (m : Int) (is : List Int) (gi oi ni : Nat) (ci : Option Nat) (x : Int) (ts os : List Int) (go lo l : Nat) : Out := trim 8 8 [] (run eX 21 ⟨8, []⟩ 400 hd53 [(0, .func (.yield l) [] []), (1, .var 4 0), (2, .var 5 0), (4, .slice 1 6 31 0 32 none), (5, .int .u8 x)] [some ⟨.ints .u8 zs, g, false, 5⟩, some ⟨.ints .u8 is, gi, false, 5⟩, some ⟨.ints .i64 [m], 0, true, 3⟩, some ⟨.agg [.slice 1 7 go 0 lo none], 0, true, 22⟩, some ⟨.agg [.slice 1 0 g off n cp], 0, true, 22⟩, some ⟨.agg [.slice 1 1 gi oi ni ci], 0, true, 22⟩, some ⟨.ints .u8 ts, 31, true, 5⟩, some ⟨.ints .u8 os, go, true, 5⟩] [some false])
theorem Hes_ok {zs : List Int} {g off n : Nat} {cp : Option Nat} {m : Int} {is : List Int} {gi oi ni : Nat} {ci : Option Nat} {x : Int} {ts os : List Int} {go lo l : Nat} (h : allP [.p ((x != 0) = false)]) : Ok (Hes zs g off n cp m is gi oi ni ci x ts os go lo l) := Ok.dem (fl := [false]) (by kernel_rfl) (by kernel_rfl) (by kernel_rfl) h
theorem Hes_ex {zs : List Int} {g off n : Nat} {cp : Option Nat} {m : Int} {is : List Int} {gi oi ni : Nat} {ci : Option Nat} {x : Int} {ts os : List Int} {go lo l : Nat} : (Hes zs g off n cp m is gi oi ni ci x ts os go lo l).ex = .exit 0 := by kernel_rfl
theorem Hes_fm {zs : List Int} {g off n : Nat} {cp : Option Nat} {m : Int} {is : List Int} {gi oi ni : Nat} {ci : Option Nat} {x : Int} {ts os : List Int} {go lo l : Nat} : (Hes zs g off n cp m is gi oi ni ci x ts os go lo l).fm = [] := by kernel_rfl
theorem Hes_tab {zs : List Int} {g off n : Nat} {cp : Option Nat} {m : Int} {is : List Int} {gi oi ni : Nat} {ci : Option Nat} {x : Int} {ts os : List Int} {go lo l : Nat} : (Hes zs g off n cp m is gi oi ni ci x ts os go lo l).tab = [some ⟨.ints .u8 zs, g, false, 5⟩, some ⟨.ints .u8 is, gi, false, 5⟩, some ⟨.ints .i64 [m], 0, true, 3⟩, some ⟨.agg [.slice 1 7 go 0 lo none], 0, true, 22⟩, some ⟨.agg
 [.slice 1 0 g off n cp], 0, true, 22⟩, some ⟨.agg [.slice 1 1 gi oi ni ci], 0, true, 22⟩, some ⟨.ints .u8 ts, 31, true, 5⟩, some ⟨.ints .u8 os, go, true, 5⟩] := by kernel_rfl
noncomputable def Yps1 (zs : List Int) (g off n : Nat) (cp : Option Nat) (m : Int) (is : List Int) (gi oi ni : Nat) (ci : Option Nat) (x : Int) (ts : List Int) (l : Nat) : Out := runOps eX ops5.toList 21 (ops5.toList.take 2) [(0, .func (.yield l) [] []), (1, .var 4 0), (2, .var 5 0), (4, .slice 1 6 31 0 32 none), (5, .int .u8 x)] (([some ⟨.ints .u8 zs, g, false, 5⟩, some ⟨.ints .u8 is, gi, false, 5⟩, some ⟨.ints .i64 [m], 0, true, 3⟩, some ⟨.agg [.nilSlice], 0, true, 22⟩, some ⟨.agg [.slice 1 0 g off n cp], 0, true, 22⟩, some ⟨.agg [.slice 1 1 gi oi ni ci], 0, true, 22⟩, some ⟨.ints .u8 ts, 31, true, 5⟩] : Tab) ++ holes (cntA eX (ops5.toList.take 2))) ([some ⟨.ints .u8 zs, g, false, 5⟩, some ⟨.ints .u8 is, gi, false, 5⟩, some ⟨.ints .i64 [m], 0, true, 3⟩, some ⟨.agg [.nilSlice], 0, true, 22⟩, some ⟨.agg [.slice 1 0 g off n cp], 0, true, 22⟩, some ⟨.agg [.slice 1 1 gi oi ni ci], 0, true, 22⟩, some ⟨.ints .u8 ts, 31, true, 5⟩] : Tab).length []
theorem Yps1_ok {zs : List Int} {g off n : Nat} {cp : Option Nat} {m : Int} {is : List Int} {gi oi ni : Nat} {ci : Option Nat} {x : Int} {ts : List Int} {l : Nat} (h : allP []) : Ok (Yps1 zs g off n cp m is gi oi ni ci x ts l) := Ok.dem (fl := []) (by kernel_rfl) (by kernel_rfl) (by kernel_rfl) h
theorem Yps1_ex {zs : List Int} {g off n : Nat} {cp : Option Nat} {m : Int} {is : List Int} {gi oi ni : Nat} {ci : Option Nat} {x : Int} {ts : List Int} {l : Nat} : (Yps1 zs g off n cp m is gi oi ni ci x ts l).ex = .normal := by kernel_rfl
theorem Yps1_fm {zs : List Int} {g off n : Nat} {cp : Option Nat} {m : Int} {is : List Int} {gi oi ni : Nat} {ci : Option Nat} {x : Int} {ts : List Int} {l : Nat} : (Yps1 zs g off n cp m is gi oi ni ci x ts l).fm = [(18, .slice 1 6 31 0 32 none), (17, .func (Fn.yield l) [] []), (0, .func (Fn.yield l) [] []), (1, .var 4 0), (2, .var 5 0), (4, .slice 1 6 31 0 32 none), (5, .int .u8 x)] := by
 kernel_rfl
theorem Yps1_tab {zs : List Int} {g off n : Nat} {cp : Option Nat} {m : Int} {is : List Int} {gi oi ni : Nat} {ci : Option Nat} {x : Int} {ts : List Int} {l : Nat} : (Yps1 zs g off n cp m is gi oi ni ci x ts l).tab = [some ⟨.ints .u8 zs, g, false, 5⟩, some ⟨.ints .u8 is, gi, false, 5⟩, some ⟨.ints .i64 [m], 0, true, 3⟩, some ⟨.agg [.nilSlice], 0, true, 22⟩, some ⟨.agg [.slice 1 0 g off n cp], 0,
 true, 22⟩, some ⟨.agg [.slice 1 1 gi oi ni ci], 0, true, 22⟩, some ⟨.ints .u8 ts, 31, true, 5⟩] := by kernel_rfl
noncomputable def Yps2 (zs : List Int) (g off n : Nat) (cp : Option Nat) (m : Int) (is : List Int) (gi oi ni : Nat) (ci : Option Nat) (x : Int) (ts os : List Int) (go lo l : Nat) : Out := runOps eX ops5.toList 21 (ops5.toList.take 2) [(0, .func (.yield l) [] []), (1, .var 4 0), (2, .var 5 0), (4, .slice 1 6 31 0 32 none), (5, .int .u8 x)] (([some ⟨.ints .u8 zs, g, false, 5⟩, some ⟨.ints .u8 is, gi, false, 5⟩, some ⟨.ints .i64 [m], 0, true, 3⟩, some ⟨.agg [.slice 1 7 go 0 lo none], 0, true, 22⟩, some ⟨.agg [.slice 1 0 g off n cp], 0, true, 22⟩, some ⟨.agg [.slice 1 1 gi oi ni ci], 0, true, 22⟩, some ⟨.ints .u8 ts, 31, true, 5⟩, some ⟨.ints .u8 os, go, true, 5⟩] : Tab) ++ holes (cntA eX (ops5.toList.take 2))) ([some ⟨.ints .u8 zs, g, false, 5⟩, some ⟨.ints .u8 is, gi, false, 5⟩, some ⟨.ints .i64 [m], 0, true, 3⟩, some ⟨.agg [.slice 1 7 go 0 lo none], 0, true, 22⟩, some ⟨.agg [.slice 1 0 g off n cp], 0, true, 22⟩, some ⟨.agg [.slice 1 1 gi oi ni ci], 0, true, 22⟩, some ⟨.ints .u8 ts, 31, true, 5⟩, some ⟨.ints .u8 os, go, true, 5⟩] : Tab).length []
theorem Yps2_ok {zs : List Int} {g off n : Nat} {cp : Option Nat} {m : Int} {is : List Int} {gi oi ni : Nat} {ci : Option Nat} {x : Int} {ts os : List Int} {go lo l : Nat} (h : allP []) : Ok (Yps2 zs g off n cp m is gi oi ni ci x ts os go lo l) := Ok.dem (fl := []) (by kernel_rfl) (by kernel_rfl) (by kernel_rfl) h
theorem Yps2_ex {zs : List Int} {g off n : Nat} {cp : Option Nat} {m : Int} {is : List Int} {gi oi ni : Nat} {ci : Option Nat} {x : Int} {ts os : List Int} {go lo l : Nat} : (Yps2 zs g off n cp m is gi oi ni ci x ts os go lo l).ex = .normal := by kernel_rfl
theorem Yps2_fm {zs : List Int} {g off n : Nat} {cp : Option Nat} {m : Int} {is : List Int} {gi oi ni : Nat} {ci : Option Nat} {x : Int} {ts os : List Int} {go lo l : Nat} : (Yps2 zs g off n cp m is gi oi ni ci x ts os go lo l).fm = [(18, .slice 1 6 31 0 32 none), (17, .func (Fn.yield l) [] []), (0, .func (Fn.yield l) [] []), (1, .var 4 0), (2, .var 5 0), (4, .slice 1 6 31 0 32 none), (5, .int .u8
 x)] := by kernel_rfl
theorem Yps2_tab {zs : List Int} {g off n : Nat} {cp : Option Nat} {m : Int} {is : List Int} {gi oi ni : Nat} {ci : Option Nat} {x : Int} {ts os : List Int} {go lo l : Nat} : (Yps2 zs g off n cp m is gi oi ni ci x ts os go lo l).tab = [some ⟨.ints .u8 zs, g, false, 5⟩, some ⟨.ints .u8 is, gi, false, 5⟩, some ⟨.ints .i64 [m], 0, true, 3⟩, some ⟨.agg [.slice 1 7 go 0 lo none], 0, true, 22⟩, some
 ⟨.agg [.slice 1 0 g off n cp], 0, true, 22⟩, some ⟨.agg [.slice 1 1 gi oi ni ci], 0, true, 22⟩, some ⟨.ints .u8 ts, 31, true, 5⟩, some ⟨.ints .u8 os, go, true, 5⟩] := by kernel_rfl
noncomputable def Yns (zs : List Int) (g off n : Nat) (cp : Option Nat) (m : Int) (is : List Int) (gi oi ni : Nat) (ci : Option Nat) (x : Int) (ts os : List Int) (go lo l : Nat) : Out := runOps eX ops5.toList 21 (ops5.toList.drop 3) ((19, .bool true) :: [(18, .slice 1 6 31 0 32 none), (17, .func (.yield l) [] []), (0, .func (.yield l) [] []), (1, .var 4 0), (2, .var 5 0), (4, .slice 1 6 31 0 32 none), (5, .int .u8 x)]) (([some ⟨.ints .u8 zs, g, false, 5⟩, some ⟨.ints .u8 is, gi, false, 5⟩, some ⟨.ints .i64 [m], 0, true, 3⟩, some ⟨.agg [.slice 1 7 go 0 lo none], 0, true, 22⟩, some ⟨.agg [.slice 1 0 g off n cp], 0, true, 22⟩, some ⟨.agg [.slice 1 1 gi oi ni ci], 0, true, 22⟩, some ⟨.ints .u8 ts, 31, true, 5⟩, some ⟨.ints .u8 os, go, true, 5⟩] : Tab) ++ holes (cntA eX (ops5.toList.drop 3))) ([some ⟨.ints .u8 zs, g, false, 5⟩, some ⟨.ints .u8 is, gi, false, 5⟩, some ⟨.ints .i64 [m], 0, true, 3⟩, some ⟨.agg [.slice 1 7 go 0 lo none], 0, true, 22⟩, some ⟨.agg [.slice 1 0 g off n cp], 0, true, 22⟩, some ⟨.agg [.slice 1 1 gi oi ni ci], 0, true, 22⟩, some ⟨.ints .u8 ts, 31, true, 5⟩, some ⟨.ints .u8 os, go, true, 5⟩] : Tab).length []
theorem Yns_ok {zs : List Int} {g off n : Nat} {cp : Option Nat} {m : Int} {is : List Int} {gi oi ni : Nat} {ci : Option Nat} {x : Int} {ts os : List Int} {go lo l : Nat} (h : allP []) : Ok (Yns zs g off n cp m is gi oi ni ci x ts os go lo l) := Ok.dem (fl := []) (by kernel_rfl) (by kernel_rfl) (by kernel_rfl) h
theorem Yns_ex {zs : List Int} {g off n : Nat} {cp : Option Nat} {m : Int} {is : List Int} {gi oi ni : Nat} {ci : Option Nat} {x : Int} {ts os : List Int} {go lo l : Nat} : (Yns zs g off n cp m is gi oi ni ci x ts os go lo l).ex = .normal := by kernel_rfl
theorem Yns_fm {zs : List Int} {g off n : Nat} {cp : Option Nat} {m : Int} {is : List Int} {gi oi ni : Nat} {ci : Option Nat} {x : Int} {ts os : List Int} {go lo l : Nat} : (Yns zs g off n cp m is gi oi ni ci x ts os go lo l).fm = [(20, .bool false), (19, .bool true), (18, .slice 1 6 31 0 32 none), (17, .func (Fn.yield l) [] []), (0, .func (Fn.yield l) [] []), (1, .var 4 0), (2, .var 5 0), (4,
 .slice 1 6 31 0 32 none), (5, .int .u8 x)] := by kernel_rfl
theorem Yns_tab {zs : List Int} {g off n : Nat} {cp : Option Nat} {m : Int} {is : List Int} {gi oi ni : Nat} {ci : Option Nat} {x : Int} {ts os : List Int} {go lo l : Nat} : (Yns zs g off n cp m is gi oi ni ci x ts os go lo l).tab = [some ⟨.ints .u8 zs, g, false, 5⟩, some ⟨.ints .u8 is, gi, false, 5⟩, some ⟨.ints .i64 [m], 0, true, 3⟩, some ⟨.agg [.slice 1 7 go 0 lo none], 0, true, 22⟩, some ⟨.agg
 [.slice 1 0 g off n cp], 0, true, 22⟩, some ⟨.agg [.slice 1 1 gi oi ni ci], 0, true, 22⟩, some ⟨.ints .u8 ts, 31, true, 5⟩, some ⟨.ints .u8 os, go, true, 5⟩] := by kernel_rfl
noncomputable def Ye1s (zs : List Int) (g off n : Nat) (cp : Option Nat) (m : Int) (is : List Int) (gi oi ni : Nat) (ci : Option Nat) (x : Int) (ts : List Int) (l : Nat) : Out := runOps eX ops5.toList 21 (ops5.toList.drop 3) ((19, .bool false) :: [(18, .slice 1 6 31 0 32 none), (17, .func (.yield l) [] []), (0, .func (.yield l) [] []), (1, .var 4 0), (2, .var 5 0), (4, .slice 1 6 31 0 32 none), (5, .int .u8 x)]) (([some ⟨.ints .u8 zs, g, false, 5⟩, some ⟨.ints .u8 is, gi, false, 5⟩, some ⟨.ints .i64 [m], 0, true, 3⟩, some ⟨.agg [.nilSlice], 0, true, 22⟩, some ⟨.agg [.slice 1 0 g off n cp], 0, true, 22⟩, some ⟨.agg [.slice 1 1 gi oi ni ci], 0, true, 22⟩, some ⟨.ints .u8 ts, 31, true, 5⟩] : Tab) ++ holes (cntA eX (ops5.toList.drop 3))) ([some ⟨.ints .u8 zs, g, false, 5⟩, some ⟨.ints .u8 is, gi, false, 5⟩, some ⟨.ints .i64 [m], 0, true, 3⟩, some ⟨.agg [.nilSlice], 0, true, 22⟩, some ⟨.agg [.slice 1 0 g off n cp], 0, true, 22⟩, some ⟨.agg [.slice 1 1 gi oi ni ci], 0, true, 22⟩, some ⟨.ints .u8 ts, 31, true, 5⟩] : Tab).length []
theorem Ye1s_ok {zs : List Int} {g off n : Nat} {cp : Option Nat} {m : Int} {is : List Int} {gi oi ni : Nat} {ci : Option Nat} {x : Int} {ts : List Int} {l : Nat} (h : allP []) : Ok (Ye1s zs g off n cp m is gi oi ni ci x ts l) := Ok.dem (fl := []) (by kernel_rfl) (by kernel_rfl) (by kernel_rfl) h
theorem Ye1s_ex {zs : List Int} {g off n : Nat} {cp : Option Nat} {m : Int} {is : List Int} {gi oi ni : Nat} {ci : Option Nat} {x : Int} {ts : List Int} {l : Nat} : (Ye1s zs g off n cp m is gi oi ni ci x ts l).ex = .normal := by kernel_rfl
theorem Ye1s_fm {zs : List Int} {g off n : Nat} {cp : Option Nat} {m : Int} {is : List Int} {gi oi ni : Nat} {ci : Option Nat} {x : Int} {ts : List Int} {l : Nat} : (Ye1s zs g off n cp m is gi oi ni ci x ts l).fm = [(20, .bool true), (19, .bool false), (18, .slice 1 6 31 0 32 none), (17, .func (Fn.yield l) [] []), (0, .func (Fn.yield l) [] []), (1, .var 4 0), (2, .var 5 0), (4, .slice 1 6 31 0 32
 none), (5, .int .u8 x)] := by kernel_rfl
theorem Ye1s_tab {zs : List Int} {g off n : Nat} {cp : Option Nat} {m : Int} {is : List Int} {gi oi ni : Nat} {ci : Option Nat} {x : Int} {ts : List Int} {l : Nat} : (Ye1s zs g off n cp m is gi oi ni ci x ts l).tab = [some ⟨.ints .u8 zs, g, false, 5⟩, some ⟨.ints .u8 is, gi, false, 5⟩, some ⟨.ints .i64 [m], 0, true, 3⟩, some ⟨.agg [.nilSlice], 0, true, 22⟩, some ⟨.agg [.slice 1 0 g off n cp], 0,
 true, 22⟩, some ⟨.agg [.slice 1 1 gi oi ni ci], 0, true, 22⟩, some ⟨.ints .u8 ts, 31, true, 5⟩] := by kernel_rfl
noncomputable def Ye2s (zs : List Int) (g off n : Nat) (cp : Option Nat) (m : Int) (is : List Int) (gi oi ni : Nat) (ci : Option Nat) (x : Int) (ts os : List Int) (go lo l : Nat) : Out := runOps eX ops5.toList 21 (ops5.toList.drop 3) ((19, .bool false) :: [(18, .slice 1 6 31 0 32 none), (17, .func (.yield l) [] []), (0, .func (.yield l) [] []), (1, .var 4 0), (2, .var 5 0), (4, .slice 1 6 31 0 32 none), (5, .int .u8 x)]) (([some ⟨.ints .u8 zs, g, false, 5⟩, some ⟨.ints .u8 is, gi, false, 5⟩, some ⟨.ints .i64 [m], 0, true, 3⟩, some ⟨.agg [.slice 1 7 go 0 lo none], 0, true, 22⟩, some ⟨.agg [.slice 1 0 g off n cp], 0, true, 22⟩, some ⟨.agg [.slice 1 1 gi oi ni ci], 0, true, 22⟩, some ⟨.ints .u8 ts, 31, true, 5⟩, some ⟨.ints .u8 os, go, true, 5⟩] : Tab) ++ holes (cntA eX (ops5.toList.drop 3))) ([some ⟨.ints .u8 zs, g, false, 5⟩, some ⟨.ints .u8 is, gi, false, 5⟩, some ⟨.ints .i64 [m], 0, true, 3⟩, some ⟨.agg [.slice 1 7 go 0 lo none], 0, true, 22⟩, some ⟨.agg [.slice 1 0 g off n cp], 0, true, 22⟩, some ⟨.agg [.slice 1 1 gi oi ni ci], 0, true, 22⟩, some ⟨.ints .u8 ts, 31, true, 5⟩, some ⟨.ints .u8 os, go, true, 5⟩] : Tab).length []
theorem Ye2s_ok {zs : List Int} {g off n : Nat} {cp : Option Nat} {m : Int} {is : List Int} {gi oi ni : Nat} {ci : Option Nat} {x : Int} {ts os : List Int} {go lo l : Nat} (h : allP []) : Ok (Ye2s zs g off n cp m is gi oi ni ci x ts os go lo l) := Ok.dem (fl := []) (by kernel_rfl) (by kernel_rfl) (by kernel_rfl) h
theorem Ye2s_ex {zs : List Int} {g off n : Nat} {cp : Option Nat} {m : Int} {is : List Int} {gi oi ni : Nat} {ci : Option Nat} {x : Int} {ts os : List Int} {go lo l : Nat} : (Ye2s zs g off n cp m is gi oi ni ci x ts os go lo l).ex = .normal := by kernel_rfl
theorem Ye2s_fm {zs : List Int} {g off n : Nat} {cp : Option Nat} {m : Int} {is : List Int} {gi oi ni : Nat} {ci : Option Nat} {x : Int} {ts os : List Int} {go lo l : Nat} : (Ye2s zs g off n cp m is gi oi ni ci x ts os go lo l).fm = [(20, .bool true), (19, .bool false), (18, .slice 1 6 31 0 32 none), (17, .func (Fn.yield l) [] []), (0, .func (Fn.yield l) [] []), (1, .var 4 0), (2, .var 5 0), (4,
 .slice 1 6 31 0 32 none), (5, .int .u8 x)] := by kernel_rfl
theorem Ye2s_tab {zs : List Int} {g off n : Nat} {cp : Option Nat} {m : Int} {is : List Int} {gi oi ni : Nat} {ci : Option Nat} {x : Int} {ts os : List Int} {go lo l : Nat} : (Ye2s zs g off n cp m is gi oi ni ci x ts os go lo l).tab = [some ⟨.ints .u8 zs, g, false, 5⟩, some ⟨.ints .u8 is, gi, false, 5⟩, some ⟨.ints .i64 [m], 0, true, 3⟩, some ⟨.agg [.slice 1 7 go 0 lo none], 0, true, 22⟩, some
 ⟨.agg [.slice 1 0 g off n cp], 0, true, 22⟩, some ⟨.agg [.slice 1 1 gi oi ni ci], 0, true, 22⟩, some ⟨.ints .u8 ts, 31, true, 5⟩, some ⟨.ints .u8 os, go, true, 5⟩] := by kernel_rfl
noncomputable def Cns (zs : List Int) (g off n : Nat) (cp : Option Nat) (m : Int) (is : List Int) (gi oi ni : Nat) (ci : Option Nat) (x : Int) (ts os : List Int) (go lo l : Nat) : Out := trim 8 8 [0,1,2,4,5] (run eX 21 ⟨8, []⟩ 400 cnd53 [(20, .bool false), (19, .bool true), (18, .slice 1 6 31 0 32 none), (17, .func (.yield l) [] []), (0, .func (.yield l) [] []), (1, .var 4 0), (2, .var 5 0), (4, .slice 1 6 31 0 32 none), (5, .int .u8 x)] [some ⟨.ints .u8 zs, g, false, 5⟩, some ⟨.ints .u8 is, gi, false, 5⟩, some ⟨.ints .i64 [m], 0, true, 3⟩, some ⟨.agg [.slice 1 7 go 0 lo none], 0, true, 22⟩, some ⟨.agg [.slice 1 0 g off n cp], 0, true, 22⟩, some ⟨.agg [.slice 1 1 gi oi ni ci], 0, true, 22⟩, some ⟨.ints .u8 ts, 31, true, 5⟩, some ⟨.ints .u8 os, go, true, 5⟩] [])
theorem Cns_ok {zs : List Int} {g off n : Nat} {cp : Option Nat} {m : Int} {is : List Int} {gi oi ni : Nat} {ci : Option Nat} {x : Int} {ts os : List Int} {go lo l : Nat} (h : allP []) : Ok (Cns zs g off n cp m is gi oi ni ci x ts os go lo l) := Ok.dem (fl := []) (by kernel_rfl) (by kernel_rfl) (by kernel_rfl) h
theorem Cns_ex {zs : List Int} {g off n : Nat} {cp : Option Nat} {m : Int} {is : List Int} {gi oi ni : Nat} {ci : Option Nat} {x : Int} {ts os : List Int} {go lo l : Nat} : (Cns zs g off n cp m is gi oi ni ci x ts os go lo l).ex = .normal := by kernel_rfl
theorem Cns_fm {zs : List Int} {g off n : Nat} {cp : Option Nat} {m : Int} {is : List Int} {gi oi ni : Nat} {ci : Option Nat} {x : Int} {ts os : List Int} {go lo l : Nat} : (Cns zs g off n cp m is gi oi ni ci x ts os go lo l).fm = [(0, .func (Fn.yield l) [] []), (1, .var 4 0), (2, .var 5 0), (4, .slice 1 6 31 0 32 none), (5, .int .u8 x)] := by kernel_rfl
theorem Cns_tab {zs : List Int} {g off n : Nat} {cp : Option Nat} {m : Int} {is : List Int} {gi oi ni : Nat} {ci : Option Nat} {x : Int} {ts os : List Int} {go lo l : Nat} : (Cns zs g off n cp m is gi oi ni ci x ts os go lo l).tab = [some ⟨.ints .u8 zs, g, false, 5⟩, some ⟨.ints .u8 is, gi, false, 5⟩, some ⟨.ints .i64 [m], 0, true, 3⟩, some ⟨.agg [.slice 1 7 go 0 lo none], 0, true, 22⟩, some ⟨.agg
 [.slice 1 0 g off n cp], 0, true, 22⟩, some ⟨.agg [.slice 1 1 gi oi ni ci], 0, true, 22⟩, some ⟨.ints .u8 ts, 31, true, 5⟩, some ⟨.ints .u8 os, go, true, 5⟩] := by kernel_rfl
noncomputable def Ces1 (zs : List Int) (g off n : Nat) (cp : Option Nat) (m : Int) (is : List Int) (gi oi ni : Nat) (ci : Option Nat) (x : Int) (ts : List Int) (l : Nat) : Out := trim 7 7 [] (run eX 21 ⟨7, []⟩ 400 cnd53 [(20, .bool true), (19, .bool false), (18, .slice 1 6 31 0 32 none), (17, .func (.yield l) [] []), (0, .func (.yield l) [] []), (1, .var 4 0), (2, .var 5 0), (4, .slice 1 6 31 0 32 none), (5, .int .u8 x)] [some ⟨.ints .u8 zs, g, false, 5⟩, some ⟨.ints .u8 is, gi, false, 5⟩, some ⟨.ints .i64 [m], 0, true, 3⟩, some ⟨.agg [.nilSlice], 0, true, 22⟩, some ⟨.agg [.slice 1 0 g off n cp], 0, true, 22⟩, some ⟨.agg [.slice 1 1 gi oi ni ci], 0, true, 22⟩, some ⟨.ints .u8 ts, 31, true, 5⟩] [])
theorem Ces1_ok {zs : List Int} {g off n : Nat} {cp : Option Nat} {m : Int} {is : List Int} {gi oi ni : Nat} {ci : Option Nat} {x : Int} {ts : List Int} {l : Nat} (h : allP []) : Ok (Ces1 zs g off n cp m is gi oi ni ci x ts l) := Ok.dem (fl := []) (by kernel_rfl) (by kernel_rfl) (by kernel_rfl) h
theorem Ces1_ex {zs : List Int} {g off n : Nat} {cp : Option Nat} {m : Int} {is : List Int} {gi oi ni : Nat} {ci : Option Nat} {x : Int} {ts : List Int} {l : Nat} : (Ces1 zs g off n cp m is gi oi ni ci x ts l).ex = .ret := by kernel_rfl
theorem Ces1_fm {zs : List Int} {g off n : Nat} {cp : Option Nat} {m : Int} {is : List Int} {gi oi ni : Nat} {ci : Option Nat} {x : Int} {ts : List Int} {l : Nat} : (Ces1 zs g off n cp m is gi oi ni ci x ts l).fm = [] := by kernel_rfl
theorem Ces1_tab {zs : List Int} {g off n : Nat} {cp : Option Nat} {m : Int} {is : List Int} {gi oi ni : Nat} {ci : Option Nat} {x : Int} {ts : List Int} {l : Nat} : (Ces1 zs g off n cp m is gi oi ni ci x ts l).tab = [some ⟨.ints .u8 zs, g, false, 5⟩, some ⟨.ints .u8 is, gi, false, 5⟩, some ⟨.ints .i64 [m], 0, true, 3⟩, some ⟨.agg [.nilSlice], 0, true, 22⟩, some ⟨.agg [.slice 1 0 g off n cp], 0,
 true, 22⟩, some ⟨.agg [.slice 1 1 gi oi ni ci], 0, true, 22⟩, some ⟨.ints .u8 ts, 31, true, 5⟩] := by kernel_rfl
noncomputable def Ces2 (zs : List Int) (g off n : Nat) (cp : Option Nat) (m : Int) (is : List Int) (gi oi ni : Nat) (ci : Option Nat) (x : Int) (ts os : List Int) (go lo l : Nat) : Out := trim 8 8 [] (run eX 21 ⟨8, []⟩ 400 cnd53 [(20, .bool true), (19, .bool false), (18, .slice 1 6 31 0 32 none), (17, .func (.yield l) [] []), (0, .func (.yield l) [] []), (1, .var 4 0), (2, .var 5 0), (4, .slice 1 6 31 0 32 none), (5, .int .u8 x)] [some ⟨.ints .u8 zs, g, false, 5⟩, some ⟨.ints .u8 is, gi, false, 5⟩, some ⟨.ints .i64 [m], 0, true, 3⟩, some ⟨.agg [.slice 1 7 go 0 lo none], 0, true, 22⟩, some ⟨.agg [.slice 1 0 g off n cp], 0, true, 22⟩, some ⟨.agg [.slice 1 1 gi oi ni ci], 0, true, 22⟩, some ⟨.ints .u8 ts, 31, true, 5⟩, some ⟨.ints .u8 os, go, true, 5⟩] [])
theorem Ces2_ok {zs : List Int} {g off n : Nat} {cp : Option Nat} {m : Int} {is : List Int} {gi oi ni : Nat} {ci : Option Nat} {x : Int} {ts os : List Int} {go lo l : Nat} (h : allP []) : Ok (Ces2 zs g off n cp m is gi oi ni ci x ts os go lo l) := Ok.dem (fl := []) (by kernel_rfl) (by kernel_rfl) (by kernel_rfl) h
theorem Ces2_ex {zs : List Int} {g off n : Nat} {cp : Option Nat} {m : Int} {is : List Int} {gi oi ni : Nat} {ci : Option Nat} {x : Int} {ts os : List Int} {go lo l : Nat} : (Ces2 zs g off n cp m is gi oi ni ci x ts os go lo l).ex = .ret := by kernel_rfl
theorem Ces2_fm {zs : List Int} {g off n : Nat} {cp : Option Nat} {m : Int} {is : List Int} {gi oi ni : Nat} {ci : Option Nat} {x : Int} {ts os : List Int} {go lo l : Nat} : (Ces2 zs g off n cp m is gi oi ni ci x ts os go lo l).fm = [] := by kernel_rfl
theorem Ces2_tab {zs : List Int} {g off n : Nat} {cp : Option Nat} {m : Int} {is : List Int} {gi oi ni : Nat} {ci : Option Nat} {x : Int} {ts os : List Int} {go lo l : Nat} : (Ces2 zs g off n cp m is gi oi ni ci x ts os go lo l).tab = [some ⟨.ints .u8 zs, g, false, 5⟩, some ⟨.ints .u8 is, gi, false, 5⟩, some ⟨.ints .i64 [m], 0, true, 3⟩, some ⟨.agg [.slice 1 7 go 0 lo none], 0, true, 22⟩, some
 ⟨.agg [.slice 1 0 g off n cp], 0, true, 22⟩, some ⟨.agg [.slice 1 1 gi oi ni ci], 0, true, 22⟩, some ⟨.ints .u8 ts, 31, true, 5⟩, some ⟨.ints .u8 os, go, true, 5⟩] := by kernel_rfl
noncomputable def R3s (zs : List Int) (g off n : Nat) (cp : Option Nat) (m : Int) (is : List Int) (gi oi ni : Nat) (ci : Option Nat) (x : Int) (ts os : List Int) (go lo l : Nat) : Out := trim 8 8 [0,1,2,4,5] (run eX 21 ⟨8, []⟩ 400 r3c [(0, .func (.yield l) [] []), (1, .var 4 0), (2, .var 5 0), (4, .slice 1 6 31 0 32 none), (5, .int .u8 x)] [some ⟨.ints .u8 zs, g, false, 5⟩, some ⟨.ints .u8 is, gi, false, 5⟩, some ⟨.ints .i64 [m], 0, true, 3⟩, some ⟨.agg [.slice 1 7 go 0 lo none], 0, true, 22⟩, some ⟨.agg [.slice 1 0 g off n cp], 0, true, 22⟩, some ⟨.agg [.slice 1 1 gi oi ni ci], 0, true, 22⟩, some ⟨.ints .u8 ts, 31, true, 5⟩, some ⟨.ints .u8 os, go, true, 5⟩] [])
theorem R3s_ok {zs : List Int} {g off n : Nat} {cp : Option Nat} {m : Int} {is : List Int} {gi oi ni : Nat} {ci : Option Nat} {x : Int} {ts os : List Int} {go lo l : Nat} (h : allP []) : Ok (R3s zs g off n cp m is gi oi ni ci x ts os go lo l) := Ok.dem (fl := []) (by kernel_rfl) (by kernel_rfl) (by kernel_rfl) h
theorem R3s_ex {zs : List Int} {g off n : Nat} {cp : Option Nat} {m : Int} {is : List Int} {gi oi ni : Nat} {ci : Option Nat} {x : Int} {ts os : List Int} {go lo l : Nat} : (R3s zs g off n cp m is gi oi ni ci x ts os go lo l).ex = .normal := by kernel_rfl
theorem R3s_fm {zs : List Int} {g off n : Nat} {cp : Option Nat} {m : Int} {is : List Int} {gi oi ni : Nat} {ci : Option Nat} {x : Int} {ts os : List Int} {go lo l : Nat} : (R3s zs g off n cp m is gi oi ni ci x ts os go lo l).fm = [(0, .func (Fn.yield l) [] []), (1, .var 4 0), (2, .var 5 0), (4, .slice 1 6 31 0 32 none), (5, .int .u8 ((x + 1) % 256))] := by kernel_rfl
theorem R3s_tab {zs : List Int} {g off n : Nat} {cp : Option Nat} {m : Int} {is : List Int} {gi oi ni : Nat} {ci : Option Nat} {x : Int} {ts os : List Int} {go lo l : Nat} : (R3s zs g off n cp m is gi oi ni ci x ts os go lo l).tab = [some ⟨.ints .u8 zs, g, false, 5⟩, some ⟨.ints .u8 is, gi, false, 5⟩, some ⟨.ints .i64 [m], 0, true, 3⟩, some ⟨.agg [.slice 1 7 go 0 lo none], 0, true, 22⟩, some ⟨.agg
 [.slice 1 0 g off n cp], 0, true, 22⟩, some ⟨.agg [.slice 1 1 gi oi ni ci], 0, true, 22⟩, some ⟨.ints .u8 ts, 31, true, 5⟩, some ⟨.ints .u8 os, go, true, 5⟩] := by kernel_rfl
noncomputable def Rss (zs : List Int) (g off n : Nat) (cp : Option Nat) (m : Int) (is : List Int) (gi oi ni : Nat) (ci : Option Nat) (l : Nat) : Out := trim 6 6 [0,1,2,4,5] (run eX 21 ⟨6, []⟩ 400 (.seq (fstC (bodyOf f53)) (fstC (sndC (bodyOf f53)))) (argF [.func (.yield l) [] [], .var 4 0, .var 5 0] 0) [some ⟨.ints .u8 zs, g, false, 5⟩, some ⟨.ints .u8 is, gi, false, 5⟩, some ⟨.ints .i64 [m], 0, true, 3⟩, some ⟨.agg [.nilSlice], 0, true, 22⟩, some ⟨.agg [.slice 1 0 g off n cp], 0, true, 22⟩, some ⟨.agg [.slice 1 1 gi oi ni ci], 0, true, 22⟩] [])
theorem Rss_ok {zs : List Int} {g off n : Nat} {cp : Option Nat} {m : Int} {is : List Int} {gi oi ni : Nat} {ci : Option Nat} {l : Nat} (h : allP []) : Ok (Rss zs g off n cp m is gi oi ni ci l) := Ok.dem (fl := []) (by kernel_rfl) (by kernel_rfl) (by kernel_rfl) h
theorem Rss_ex {zs : List Int} {g off n : Nat} {cp : Option Nat} {m : Int} {is : List Int} {gi oi ni : Nat} {ci : Option Nat} {l : Nat} : (Rss zs g off n cp m is gi oi ni ci l).ex = .normal := by kernel_rfl
theorem Rss_fm {zs : List Int} {g off n : Nat} {cp : Option Nat} {m : Int} {is : List Int} {gi oi ni : Nat} {ci : Option Nat} {l : Nat} : (Rss zs g off n cp m is gi oi ni ci l).fm = [(0, .func (Fn.yield l) [] []), (1, .var 4 0), (2, .var 5 0), (4, .nilSlice), (5, .int .u8 1)] := by kernel_rfl
theorem Rss_tab {zs : List Int} {g off n : Nat} {cp : Option Nat} {m : Int} {is : List Int} {gi oi ni : Nat} {ci : Option Nat} {l : Nat} : (Rss zs g off n cp m is gi oi ni ci l).tab = [some ⟨.ints .u8 zs, g, false, 5⟩, some ⟨.ints .u8 is, gi, false, 5⟩, some ⟨.ints .i64 [m], 0, true, 3⟩, some ⟨.agg [.nilSlice], 0, true, 22⟩, some ⟨.agg [.slice 1 0 g off n cp], 0, true, 22⟩, some ⟨.agg [.slice 1 1
 gi oi ni ci], 0, true, 22⟩] := by kernel_rfl
/-! info n -/
noncomputable def R4an (zs : List Int) (g off n : Nat) (cp : Option Nat) (m : Int) (x : Int) (l : Nat) : Out := trimG 5 [0, 1, 2, 3, 4, 7] [0,1,2,4,5] (run eX 21 ⟨5, []⟩ 400 r4c [(0, .func (.yield l) [] []), (1, .var 3 0), (2, .var 4 0), (4, .nilSlice), (5, .int .u8 x)] [some ⟨.ints .u8 zs, g, false, 5⟩, some ⟨.ints .i64 [m], 0, true, 3⟩, some ⟨.agg [.nilSlice], 0, true, 22⟩, some ⟨.agg [.slice 1 0 g off n cp], 0, true, 22⟩, some ⟨.agg [.nilSlice], 0, true, 22⟩] [])
theorem R4an_ok {zs : List Int} {g off n : Nat} {cp : Option Nat} {m : Int} {x : Int} {l : Nat} (h : allP [.eqN g g, .leN (off + n) zs.length, .leN n 140737488355000, .p (BsLaw zs), .p (capLaw n cp), .p (BsLaw [x])]) : Ok (R4an zs g off n cp m x l) := Ok.dem (fl := bitsF 26 42057727) (by kernel_rfl) (by kernel_rfl) (by kernel_rfl) h
theorem R4an_ex {zs : List Int} {g off n : Nat} {cp : Option Nat} {m : Int} {x : Int} {l : Nat} : (R4an zs g off n cp m x l).ex = .normal := by kernel_rfl
theorem R4an_fm {zs : List Int} {g off n : Nat} {cp : Option Nat} {m : Int} {x : Int} {l : Nat} : (R4an zs g off n cp m x l).fm = [(0, .func (Fn.yield l) [] []), (1, .var 3 0), (2, .var 4 0), (4, .slice 1 5 31 0 32 none), (5, .int .u8 x)] := by kernel_rfl
theorem R4an_tab {zs : List Int} {g off n : Nat} {cp : Option Nat} {m : Int} {x : Int} {l : Nat} : (R4an zs g off n cp m x l).tab = [some ⟨.ints .u8 zs, g, false, 5⟩, some ⟨.ints .i64 [m], 0, true, 3⟩, some ⟨.agg [.nilSlice], 0, true, 22⟩, some ⟨.agg [.slice 1 0 g off n cp], 0, true, 22⟩, some ⟨.agg [.nilSlice], 0, true, 22⟩, some ⟨.ints .u8 (hmLaw (subLaw zs off n) (subLaw [x] 0 1)), 31, true, 5⟩]
 := by kernel_rfl
noncomputable def R4bn (zs : List Int) (g off n : Nat) (cp : Option Nat) (m : Int) (x : Int) (ts os : List Int) (go lo l : Nat) : Out := trimG 5 [0, 1, 2, 3, 4, 9, 6] [0,1,2,4,5] (run eX 21 ⟨5, []⟩ 400 r4c [(0, .func (.yield l) [] []), (1, .var 3 0), (2, .var 4 0), (4, .slice 1 5 31 0 32 none), (5, .int .u8 x)] [some ⟨.ints .u8 zs, g, false, 5⟩, some ⟨.ints .i64 [m], 0, true, 3⟩, some ⟨.agg [.slice 1 6 go 0 lo none], 0, true, 22⟩, some ⟨.agg [.slice 1 0 g off n cp], 0, true, 22⟩, some ⟨.agg [.nilSlice], 0, true, 22⟩, some ⟨.ints .u8 ts, 31, true, 5⟩, some ⟨.ints .u8 os, go, true, 5⟩] [])
theorem R4bn_ok {zs : List Int} {g off n : Nat} {cp : Option Nat} {m : Int} {x : Int} {ts os : List Int} {go lo l : Nat} (h : allP [.eqN g g, .leN (off + n) zs.length, .leN n 140737488355000, .p (BsLaw zs), .p (capLaw n cp), .leN 32 ts.length, .p (BsLaw ts), .p (BsLaw [x])]) : Ok (R4bn zs g off n cp m x ts os go lo l) := Ok.dem (fl := bitsF 29 335790079) (by kernel_rfl) (by kernel_rfl) (by
 kernel_rfl) h
theorem R4bn_ex {zs : List Int} {g off n : Nat} {cp : Option Nat} {m : Int} {x : Int} {ts os : List Int} {go lo l : Nat} : (R4bn zs g off n cp m x ts os go lo l).ex = .normal := by kernel_rfl
theorem R4bn_fm {zs : List Int} {g off n : Nat} {cp : Option Nat} {m : Int} {x : Int} {ts os : List Int} {go lo l : Nat} : (R4bn zs g off n cp m x ts os go lo l).fm = [(0, .func (Fn.yield l) [] []), (1, .var 3 0), (2, .var 4 0), (4, .slice 1 5 31 0 32 none), (5, .int .u8 x)] := by kernel_rfl
theorem R4bn_tab {zs : List Int} {g off n : Nat} {cp : Option Nat} {m : Int} {x : Int} {ts os : List Int} {go lo l : Nat} : (R4bn zs g off n cp m x ts os go lo l).tab = [some ⟨.ints .u8 zs, g, false, 5⟩, some ⟨.ints .i64 [m], 0, true, 3⟩, some ⟨.agg [.slice 1 6 go 0 lo none], 0, true, 22⟩, some ⟨.agg [.slice 1 0 g off n cp], 0, true, 22⟩, some ⟨.agg [.nilSlice], 0, true, 22⟩, some ⟨.ints .u8 (hmLaw
 (subLaw zs off n) (subLaw ts 0 32 ++ subLaw [x] 0 1)), 31, true, 5⟩, some ⟨.ints .u8 os, go, true, 5⟩] := by kernel_rfl
noncomputable def Ran1 (zs : List Int) (g off n : Nat) (cp : Option Nat) (m : Int) (ts : List Int) : Out := trim 6 6 [5,8,9] (run eX 30 ⟨6, []⟩ 400 as27 ((19, .slice 1 5 31 0 32 none) :: [(5, .var 1 0), (8, .var 2 0), (18, .func (.func 53) [] [.var 3 0, .var 4 0])]) [some ⟨.ints .u8 zs, g, false, 5⟩, some ⟨.ints .i64 [m], 0, true, 3⟩, some ⟨.agg [.nilSlice], 0, true, 22⟩, some ⟨.agg [.slice 1 0 g off n cp], 0, true, 22⟩, some ⟨.agg [.nilSlice], 0, true, 22⟩, some ⟨.ints .u8 ts, 31, true, 5⟩] [])
theorem Ran1_ok {zs : List Int} {g off n : Nat} {cp : Option Nat} {m : Int} {ts : List Int} (h : allP []) : Ok (Ran1 zs g off n cp m ts) := Ok.dem (fl := []) (by kernel_rfl) (by kernel_rfl) (by kernel_rfl) h
theorem Ran1_ex {zs : List Int} {g off n : Nat} {cp : Option Nat} {m : Int} {ts : List Int} : (Ran1 zs g off n cp m ts).ex = .normal := by kernel_rfl
theorem Ran1_fm {zs : List Int} {g off n : Nat} {cp : Option Nat} {m : Int} {ts : List Int} : (Ran1 zs g off n cp m ts).fm = [(5, .var 1 0), (8, .var 2 0), (9, .slice 1 5 31 0 32 none)] := by kernel_rfl
theorem Ran1_tab {zs : List Int} {g off n : Nat} {cp : Option Nat} {m : Int} {ts : List Int} : (Ran1 zs g off n cp m ts).tab = [some ⟨.ints .u8 zs, g, false, 5⟩, some ⟨.ints .i64 [m], 0, true, 3⟩, some ⟨.agg [.nilSlice], 0, true, 22⟩, some ⟨.agg [.slice 1 0 g off n cp], 0, true, 22⟩, some ⟨.agg [.nilSlice], 0, true, 22⟩, some ⟨.ints .u8 ts, 31, true, 5⟩] := by kernel_rfl
noncomputable def Ran2 (zs : List Int) (g off n : Nat) (cp : Option Nat) (m : Int) (ts os : List Int) (go lo : Nat) : Out := trim 7 7 [5,8,9] (run eX 30 ⟨7, []⟩ 400 as27 ((19, .slice 1 5 31 0 32 none) :: [(5, .var 1 0), (8, .var 2 0), (18, .func (.func 53) [] [.var 3 0, .var 4 0])]) [some ⟨.ints .u8 zs, g, false, 5⟩, some ⟨.ints .i64 [m], 0, true, 3⟩, some ⟨.agg [.slice 1 6 go 0 lo none], 0, true, 22⟩, some ⟨.agg [.slice 1 0 g off n cp], 0, true, 22⟩, some ⟨.agg [.nilSlice], 0, true, 22⟩, some ⟨.ints .u8 ts, 31, true, 5⟩, some ⟨.ints .u8 os, go, true, 5⟩] [])
theorem Ran2_ok {zs : List Int} {g off n : Nat} {cp : Option Nat} {m : Int} {ts os : List Int} {go lo : Nat} (h : allP []) : Ok (Ran2 zs g off n cp m ts os go lo) := Ok.dem (fl := []) (by kernel_rfl) (by kernel_rfl) (by kernel_rfl) h
theorem Ran2_ex {zs : List Int} {g off n : Nat} {cp : Option Nat} {m : Int} {ts os : List Int} {go lo : Nat} : (Ran2 zs g off n cp m ts os go lo).ex = .normal := by kernel_rfl
theorem Ran2_fm {zs : List Int} {g off n : Nat} {cp : Option Nat} {m : Int} {ts os : List Int} {go lo : Nat} : (Ran2 zs g off n cp m ts os go lo).fm = [(5, .var 1 0), (8, .var 2 0), (9, .slice 1 5 31 0 32 none)] := by kernel_rfl
theorem Ran2_tab {zs : List Int} {g off n : Nat} {cp : Option Nat} {m : Int} {ts os : List Int} {go lo : Nat} : (Ran2 zs g off n cp m ts os go lo).tab = [some ⟨.ints .u8 zs, g, false, 5⟩, some ⟨.ints .i64 [m], 0, true, 3⟩, some ⟨.agg [.slice 1 6 go 0 lo none], 0, true, 22⟩, some ⟨.agg [.slice 1 0 g off n cp], 0, true, 22⟩, some ⟨.agg [.nilSlice], 0, true, 22⟩, some ⟨.ints .u8 ts, 31, true, 5⟩, some
 ⟨.ints .u8 os, go, true, 5⟩] := by kernel_rfl
noncomputable def Rbn1 (zs : List Int) (g off n : Nat) (cp : Option Nat) (m : Int) (ts : List Int) : Out := trim 6 7 [5] (run eX 30 ⟨6, []⟩ 400 bd27 [(5, .var 1 0), (8, .var 2 0), (9, .slice 1 5 31 0 32 none)] [some ⟨.ints .u8 zs, g, false, 5⟩, some ⟨.ints .i64 [m], 0, true, 3⟩, some ⟨.agg [.nilSlice], 0, true, 22⟩, some ⟨.agg [.slice 1 0 g off n cp], 0, true, 22⟩, some ⟨.agg [.nilSlice], 0, true, 22⟩, some ⟨.ints .u8 ts, 31, true, 5⟩] [some false])
theorem Rbn1_ok {zs : List Int} {g off n : Nat} {cp : Option Nat} {m : Int} {ts : List Int} (h : allP [.p (decide (m ≤ 0) = false), .leN 32 ts.length]) : Ok (Rbn1 zs g off n cp m ts) := Ok.dem (fl := bitsF 15 32239) (by kernel_rfl) (by kernel_rfl) (by kernel_rfl) h
theorem Rbn1_ex {zs : List Int} {g off n : Nat} {cp : Option Nat} {m : Int} {ts : List Int} : (Rbn1 zs g off n cp m ts).ex = .normal := by kernel_rfl
theorem Rbn1_fm {zs : List Int} {g off n : Nat} {cp : Option Nat} {m : Int} {ts : List Int} : (Rbn1 zs g off n cp m ts).fm = [(5, .var 1 0)] := by kernel_rfl
theorem Rbn1_tab {zs : List Int} {g off n : Nat} {cp : Option Nat} {m : Int} {ts : List Int} : (Rbn1 zs g off n cp m ts).tab = [some ⟨.ints .u8 zs, g, false, 5⟩, some ⟨.ints .i64 [m], 0, true, 3⟩, some ⟨.agg [.slice 1 6 0 0 32 none], 0, true, 22⟩, some ⟨.agg [.slice 1 0 g off n cp], 0, true, 22⟩, some ⟨.agg [.nilSlice], 0, true, 22⟩, some ⟨.ints .u8 ts, 31, true, 5⟩, some ⟨.ints .u8 ([] ++
 List.take 32 ts), 0, true, 5⟩] := by kernel_rfl
noncomputable def Rbn2 (zs : List Int) (g off n : Nat) (cp : Option Nat) (m : Int) (ts os : List Int) (go lo : Nat) : Out := trim 7 7 [5] (run eX 30 ⟨7, []⟩ 400 bd27 [(5, .var 1 0), (8, .var 2 0), (9, .slice 1 5 31 0 32 none)] [some ⟨.ints .u8 zs, g, false, 5⟩, some ⟨.ints .i64 [m], 0, true, 3⟩, some ⟨.agg [.slice 1 6 go 0 lo none], 0, true, 22⟩, some ⟨.agg [.slice 1 0 g off n cp], 0, true, 22⟩, some ⟨.agg [.nilSlice], 0, true, 22⟩, some ⟨.ints .u8 ts, 31, true, 5⟩, some ⟨.ints .u8 os, go, true, 5⟩] [some false])
theorem Rbn2_ok {zs : List Int} {g off n : Nat} {cp : Option Nat} {m : Int} {ts os : List Int} {go lo : Nat} (h : allP [.eqN go go, .p (decide (m ≤ (↑lo : Int)) = false), .eqN go go, .leN (0 + lo) os.length, .leN (addO lo 32) 140737488355328, .leN 32 ts.length]) : Ok (Rbn2 zs g off n cp m ts os go lo) := Ok.dem (fl := bitsF 18 256219) (by kernel_rfl) (by kernel_rfl) (by kernel_rfl) h
theorem Rbn2_ex {zs : List Int} {g off n : Nat} {cp : Option Nat} {m : Int} {ts os : List Int} {go lo : Nat} : (Rbn2 zs g off n cp m ts os go lo).ex = .normal := by kernel_rfl
theorem Rbn2_fm {zs : List Int} {g off n : Nat} {cp : Option Nat} {m : Int} {ts os : List Int} {go lo : Nat} : (Rbn2 zs g off n cp m ts os go lo).fm = [(5, .var 1 0)] := by kernel_rfl
theorem Rbn2_tab {zs : List Int} {g off n : Nat} {cp : Option Nat} {m : Int} {ts os : List Int} {go lo : Nat} : (Rbn2 zs g off n cp m ts os go lo).tab = [some ⟨.ints .u8 zs, g, false, 5⟩, some ⟨.ints .i64 [m], 0, true, 3⟩, some ⟨.agg [.slice 1 6 (go + 1) 0 (addO lo 32) none], 0, true, 22⟩, some ⟨.agg [.slice 1 0 g off n cp], 0, true, 22⟩, some ⟨.agg [.nilSlice], 0, true, 22⟩, some ⟨.ints .u8 ts,
 31, true, 5⟩, some ⟨.ints .u8 (List.take lo os ++ List.take 32 ts), go + 1, true, 5⟩] := by kernel_rfl
noncomputable def Rxn1 (zs : List Int) (g off n : Nat) (cp : Option Nat) (m : Int) (ts : List Int) : Out := trim 6 6 [5] (run eX 30 ⟨6, []⟩ 400 bd27 [(5, .var 1 0), (8, .var 2 0), (9, .slice 1 5 31 0 32 none)] [some ⟨.ints .u8 zs, g, false, 5⟩, some ⟨.ints .i64 [m], 0, true, 3⟩, some ⟨.agg [.nilSlice], 0, true, 22⟩, some ⟨.agg [.slice 1 0 g off n cp], 0, true, 22⟩, some ⟨.agg [.nilSlice], 0, true, 22⟩, some ⟨.ints .u8 ts, 31, true, 5⟩] [some true])
theorem Rxn1_ok {zs : List Int} {g off n : Nat} {cp : Option Nat} {m : Int} {ts : List Int} (h : allP [.p (decide (m ≤ 0) = true)]) : Ok (Rxn1 zs g off n cp m ts) := Ok.dem (fl := [true, true, true, true, false]) (by kernel_rfl) (by kernel_rfl) (by kernel_rfl) h
theorem Rxn1_ex {zs : List Int} {g off n : Nat} {cp : Option Nat} {m : Int} {ts : List Int} : (Rxn1 zs g off n cp m ts).ex = .exit 0 := by kernel_rfl
theorem Rxn1_fm {zs : List Int} {g off n : Nat} {cp : Option Nat} {m : Int} {ts : List Int} : (Rxn1 zs g off n cp m ts).fm = [(5, .var 1 0)] := by kernel_rfl
theorem Rxn1_tab {zs : List Int} {g off n : Nat} {cp : Option Nat} {m : Int} {ts : List Int} : (Rxn1 zs g off n cp m ts).tab = [some ⟨.ints .u8 zs, g, false, 5⟩, some ⟨.ints .i64 [m], 0, true, 3⟩, some ⟨.agg [.nilSlice], 0, true, 22⟩, some ⟨.agg [.slice 1 0 g off n cp], 0, true, 22⟩, some ⟨.agg [.nilSlice], 0, true, 22⟩, some ⟨.ints .u8 ts, 31, true, 5⟩] := by kernel_rfl
noncomputable def Rxn2 (zs : List Int) (g off n : Nat) (cp : Option Nat) (m : Int) (ts os : List Int) (go lo : Nat) : Out := trim 7 7 [5] (run eX 30 ⟨7, []⟩ 400 bd27 [(5, .var 1 0), (8, .var 2 0), (9, .slice 1 5 31 0 32 none)] [some ⟨.ints .u8 zs, g, false, 5⟩, some ⟨.ints .i64 [m], 0, true, 3⟩, some ⟨.agg [.slice 1 6 go 0 lo none], 0, true, 22⟩, some ⟨.agg [.slice 1 0 g off n cp], 0, true, 22⟩, some ⟨.agg [.nilSlice], 0, true, 22⟩, some ⟨.ints .u8 ts, 31, true, 5⟩, some ⟨.ints .u8 os, go, true, 5⟩] [some true])
theorem Rxn2_ok {zs : List Int} {g off n : Nat} {cp : Option Nat} {m : Int} {ts os : List Int} {go lo : Nat} (h : allP [.eqN go go, .p (decide (m ≤ (↑lo : Int)) = true)]) : Ok (Rxn2 zs g off n cp m ts os go lo) := Ok.dem (fl := [true, true, false, true, true, false]) (by kernel_rfl) (by kernel_rfl) (by kernel_rfl) h
theorem Rxn2_ex {zs : List Int} {g off n : Nat} {cp : Option Nat} {m : Int} {ts os : List Int} {go lo : Nat} : (Rxn2 zs g off n cp m ts os go lo).ex = .exit 0 := by kernel_rfl
theorem Rxn2_fm {zs : List Int} {g off n : Nat} {cp : Option Nat} {m : Int} {ts os : List Int} {go lo : Nat} : (Rxn2 zs g off n cp m ts os go lo).fm = [(5, .var 1 0)] := by kernel_rfl
theorem Rxn2_tab {zs : List Int} {g off n : Nat} {cp : Option Nat} {m : Int} {ts os : List Int} {go lo : Nat} : (Rxn2 zs g off n cp m ts os go lo).tab = [some ⟨.ints .u8 zs, g, false, 5⟩, some ⟨.ints .i64 [m], 0, true, 3⟩, some ⟨.agg [.slice 1 6 go 0 lo none], 0, true, 22⟩, some ⟨.agg [.slice 1 0 g off n cp], 0, true, 22⟩, some ⟨.agg [.nilSlice], 0, true, 22⟩, some ⟨.ints .u8 ts, 31, true, 5⟩, some
 ⟨.ints .u8 os, go, true, 5⟩] := by kernel_rfl
noncomputable def Hdn0 (zs : List Int) (g off n : Nat) (cp : Option Nat) (m : Int) (x : Int) (l : Nat) : Out := trim 5 5 [0,1,2,4,5] (run eX 21 ⟨5, []⟩ 400 hd53 [(0, .func (.yield l) [] []), (1, .var 3 0), (2, .var 4 0), (4, .nilSlice), (5, .int .u8 x)] [some ⟨.ints .u8 zs, g, false, 5⟩, some ⟨.ints .i64 [m], 0, true, 3⟩, some ⟨.agg [.nilSlice], 0, true, 22⟩, some ⟨.agg [.slice 1 0 g off n cp], 0, true, 22⟩, some ⟨.agg [.nilSlice], 0, true, 22⟩] [some true])
theorem Hdn0_ok {zs : List Int} {g off n : Nat} {cp : Option Nat} {m : Int} {x : Int} {l : Nat} (h : allP [.p ((x != 0) = true)]) : Ok (Hdn0 zs g off n cp m x l) := Ok.dem (fl := [false]) (by kernel_rfl) (by kernel_rfl) (by kernel_rfl) h
theorem Hdn0_ex {zs : List Int} {g off n : Nat} {cp : Option Nat} {m : Int} {x : Int} {l : Nat} : (Hdn0 zs g off n cp m x l).ex = .normal := by kernel_rfl
theorem Hdn0_fm {zs : List Int} {g off n : Nat} {cp : Option Nat} {m : Int} {x : Int} {l : Nat} : (Hdn0 zs g off n cp m x l).fm = [(0, .func (Fn.yield l) [] []), (1, .var 3 0), (2, .var 4 0), (4, .nilSlice), (5, .int .u8 x)] := by kernel_rfl
theorem Hdn0_tab {zs : List Int} {g off n : Nat} {cp : Option Nat} {m : Int} {x : Int} {l : Nat} : (Hdn0 zs g off n cp m x l).tab = [some ⟨.ints .u8 zs, g, false, 5⟩, some ⟨.ints .i64 [m], 0, true, 3⟩, some ⟨.agg [.nilSlice], 0, true, 22⟩, some ⟨.agg [.slice 1 0 g off n cp], 0, true, 22⟩, some ⟨.agg [.nilSlice], 0, true, 22⟩] := by kernel_rfl
noncomputable def Hdn1 (zs : List Int) (g off n : Nat) (cp : Option Nat) (m : Int) (x : Int) (ts os : List Int) (go lo l : Nat) : Out := trim 7 7 [0,1,2,4,5] (run eX 21 ⟨7, []⟩ 400 hd53 [(0, .func (.yield l) [] []), (1, .var 3 0), (2, .var 4 0), (4, .slice 1 5 31 0 32 none), (5, .int .u8 x)] [some ⟨.ints .u8 zs, g, false, 5⟩, some ⟨.ints .i64 [m], 0, true, 3⟩, some ⟨.agg [.slice 1 6 go 0 lo none], 0, true, 22⟩, some ⟨.agg [.slice 1 0 g off n cp], 0, true, 22⟩, some ⟨.agg [.nilSlice], 0, true, 22⟩, some ⟨.ints .u8 ts, 31, true, 5⟩, some ⟨.ints .u8 os, go, true, 5⟩] [some true])
theorem Hdn1_ok {zs : List Int} {g off n : Nat} {cp : Option Nat} {m : Int} {x : Int} {ts os : List Int} {go lo l : Nat} (h : allP [.p ((x != 0) = true)]) : Ok (Hdn1 zs g off n cp m x ts os go lo l) := Ok.dem (fl := [false]) (by kernel_rfl) (by kernel_rfl) (by kernel_rfl) h
theorem Hdn1_ex {zs : List Int} {g off n : Nat} {cp : Option Nat} {m : Int} {x : Int} {ts os : List Int} {go lo l : Nat} : (Hdn1 zs g off n cp m x ts os go lo l).ex = .normal := by kernel_rfl
theorem Hdn1_fm {zs : List Int} {g off n : Nat} {cp : Option Nat} {m : Int} {x : Int} {ts os : List Int} {go lo l : Nat} : (Hdn1 zs g off n cp m x ts os go lo l).fm = [(0, .func (Fn.yield l) [] []), (1, .var 3 0), (2, .var 4 0), (4, .slice 1 5 31 0 32 none), (5, .int .u8 x)] := by kernel_rfl
theorem Hdn1_tab {zs : List Int} {g off n : Nat} {cp : Option Nat} {m : Int} {x : Int} {ts os : List Int} {go lo l : Nat} : (Hdn1 zs g off n cp m x ts os go lo l).tab = [some ⟨.ints .u8 zs, g, false, 5⟩, some ⟨.ints .i64 [m], 0, true, 3⟩, some ⟨.agg [.slice 1 6 go 0 lo none], 0, true, 22⟩, some ⟨.agg [.slice 1 0 g off n cp], 0, true, 22⟩, some ⟨.agg [.nilSlice], 0, true, 22⟩, some ⟨.ints .u8 ts,
 31, true, 5⟩, some ⟨.ints .u8 os, go, true, 5⟩] := by kernel_rfl
noncomputable def Hen (zs : List Int) (g off n : Nat) (cp : Option Nat) (m : Int) (x : Int) (ts os : List Int) (go lo l : Nat) : Out := trim 7 7 [] (run eX 21 ⟨7, []⟩ 400 hd53 [(0, .func (.yield l) [] []), (1, .var 3 0), (2, .var 4 0), (4, .slice 1 5 31 0 32 none), (5, .int .u8 x)] [some ⟨.ints .u8 zs, g, false, 5⟩, some ⟨.ints .i64 [m], 0, true, 3⟩, some ⟨.agg [.slice 1 6 go 0 lo none], 0, true, 22⟩, some ⟨.agg [.slice 1 0 g off n cp], 0, true, 22⟩, some ⟨.agg [.nilSlice], 0, true, 22⟩, some ⟨.ints .u8 ts, 31, true, 5⟩, some ⟨.ints .u8 os, go, true, 5⟩] [some false])
theorem Hen_ok {zs : List Int} {g off n : Nat} {cp : Option Nat} {m : Int} {x : Int} {ts os : List Int} {go lo l : Nat} (h : allP [.p ((x != 0) = false)]) : Ok (Hen zs g off n cp m x ts os go lo l) := Ok.dem (fl := [false]) (by kernel_rfl) (by kernel_rfl) (by kernel_rfl) h
theorem Hen_ex {zs : List Int} {g off n : Nat} {cp : Option Nat} {m : Int} {x : Int} {ts os : List Int} {go lo l : Nat} : (Hen zs g off n cp m x ts os go lo l).ex = .exit 0 := by kernel_rfl
theorem Hen_fm {zs : List Int} {g off n : Nat} {cp : Option Nat} {m : Int} {x : Int} {ts os : List Int} {go lo l : Nat} : (Hen zs g off n cp m x ts os go lo l).fm = [] := by kernel_rfl
theorem Hen_tab {zs : List Int} {g off n : Nat} {cp : Option Nat} {m : Int} {x : Int} {ts os : List Int} {go lo l : Nat} : (Hen zs g off n cp m x ts os go lo l).tab = [some ⟨.ints .u8 zs, g, false, 5⟩, some ⟨.ints .i64 [m], 0, true, 3⟩, some ⟨.agg [.slice 1 6 go 0 lo none], 0, true, 22⟩, some ⟨.agg [.slice 1 0 g off n cp], 0, true, 22⟩, some ⟨.agg [.nilSlice], 0, true, 22⟩, some ⟨.ints .u8 ts, 31,
 true, 5⟩, some ⟨.ints .u8 os, go, true, 5⟩] := by kernel_rfl
noncomputable def Ypn1 (zs : List Int) (g off n : Nat) (cp : Option Nat) (m : Int) (x : Int) (ts : List Int) (l : Nat) : Out := runOps eX ops5.toList 21 (ops5.toList.take 2) [(0, .func (.yield l) [] []), (1, .var 3 0), (2, .var 4 0), (4, .slice 1 5 31 0 32 none), (5, .int .u8 x)] (([some ⟨.ints .u8 zs, g, false, 5⟩, some ⟨.ints .i64 [m], 0, true, 3⟩, some ⟨.agg [.nilSlice], 0, true, 22⟩, some ⟨.agg [.slice 1 0 g off n cp], 0, true, 22⟩, some ⟨.agg [.nilSlice], 0, true, 22⟩, some ⟨.ints .u8 ts, 31, true, 5⟩] : Tab) ++ holes (cntA eX (ops5.toList.take 2))) ([some ⟨.ints .u8 zs, g, false, 5⟩, some ⟨.ints .i64 [m], 0, true, 3⟩, some ⟨.agg [.nilSlice], 0, true, 22⟩, some ⟨.agg [.slice 1 0 g off n cp], 0, true, 22⟩, some ⟨.agg [.nilSlice], 0, true, 22⟩, some ⟨.ints .u8 ts, 31, true, 5⟩] : Tab).length []
theorem Ypn1_ok {zs : List Int} {g off n : Nat} {cp : Option Nat} {m : Int} {x : Int} {ts : List Int} {l : Nat} (h : allP []) : Ok (Ypn1 zs g off n cp m x ts l) := Ok.dem (fl := []) (by kernel_rfl) (by kernel_rfl) (by kernel_rfl) h
theorem Ypn1_ex {zs : List Int} {g off n : Nat} {cp : Option Nat} {m : Int} {x : Int} {ts : List Int} {l : Nat} : (Ypn1 zs g off n cp m x ts l).ex = .normal := by kernel_rfl
theorem Ypn1_fm {zs : List Int} {g off n : Nat} {cp : Option Nat} {m : Int} {x : Int} {ts : List Int} {l : Nat} : (Ypn1 zs g off n cp m x ts l).fm = [(18, .slice 1 5 31 0 32 none), (17, .func (Fn.yield l) [] []), (0, .func (Fn.yield l) [] []), (1, .var 3 0), (2, .var 4 0), (4, .slice 1 5 31 0 32 none), (5, .int .u8 x)] := by kernel_rfl
theorem Ypn1_tab {zs : List Int} {g off n : Nat} {cp : Option Nat} {m : Int} {x : Int} {ts : List Int} {l : Nat} : (Ypn1 zs g off n cp m x ts l).tab = [some ⟨.ints .u8 zs, g, false, 5⟩, some ⟨.ints .i64 [m], 0, true, 3⟩, some ⟨.agg [.nilSlice], 0, true, 22⟩, some ⟨.agg [.slice 1 0 g off n cp], 0, true, 22⟩, some ⟨.agg [.nilSlice], 0, true, 22⟩, some ⟨.ints .u8 ts, 31, true, 5⟩] := by kernel_rfl
noncomputable def Ypn2 (zs : List Int) (g off n : Nat) (cp : Option Nat) (m : Int) (x : Int) (ts os : List Int) (go lo l : Nat) : Out := runOps eX ops5.toList 21 (ops5.toList.take 2) [(0, .func (.yield l) [] []), (1, .var 3 0), (2, .var 4 0), (4, .slice 1 5 31 0 32 none), (5, .int .u8 x)] (([some ⟨.ints .u8 zs, g, false, 5⟩, some ⟨.ints .i64 [m], 0, true, 3⟩, some ⟨.agg [.slice 1 6 go 0 lo none], 0, true, 22⟩, some ⟨.agg [.slice 1 0 g off n cp], 0, true, 22⟩, some ⟨.agg [.nilSlice], 0, true, 22⟩, some ⟨.ints .u8 ts, 31, true, 5⟩, some ⟨.ints .u8 os, go, true, 5⟩] : Tab) ++ holes (cntA eX (ops5.toList.take 2))) ([some ⟨.ints .u8 zs, g, false, 5⟩, some ⟨.ints .i64 [m], 0, true, 3⟩, some ⟨.agg [.slice 1 6 go 0 lo none], 0, true, 22⟩, some ⟨.agg [.slice 1 0 g off n cp], 0, true, 22⟩, some ⟨.agg [.nilSlice], 0, true, 22⟩, some ⟨.ints .u8 ts, 31, true, 5⟩, some ⟨.ints .u8 os, go, true, 5⟩] : Tab).length []
theorem Ypn2_ok {zs : List Int} {g off n : Nat} {cp : Option Nat} {m : Int} {x : Int} {ts os : List Int} {go lo l : Nat} (h : allP []) : Ok (Ypn2 zs g off n cp m x ts os go lo l) := Ok.dem (fl := []) (by kernel_rfl) (by kernel_rfl) (by kernel_rfl) h
theorem Ypn2_ex {zs : List Int} {g off n : Nat} {cp : Option Nat} {m : Int} {x : Int} {ts os : List Int} {go lo l : Nat} : (Ypn2 zs g off n cp m x ts os go lo l).ex = .normal := by kernel_rfl
theorem Ypn2_fm {zs : List Int} {g off n : Nat} {cp : Option Nat} {m : Int} {x : Int} {ts os : List Int} {go lo l : Nat} : (Ypn2 zs g off n cp m x ts os go lo l).fm = [(18, .slice 1 5 31 0 32 none), (17, .func (Fn.yield l) [] []), (0, .func (Fn.yield l) [] []), (1, .var 3 0), (2, .var 4 0), (4, .slice 1 5 31 0 32 none), (5, .int .u8 x)] := by kernel_rfl
theorem Ypn2_tab {zs : List Int} {g off n : Nat} {cp : Option Nat} {m : Int} {x : Int} {ts os : List Int} {go lo l : Nat} : (Ypn2 zs g off n cp m x ts os go lo l).tab = [some ⟨.ints .u8 zs, g, false, 5⟩, some ⟨.ints .i64 [m], 0, true, 3⟩, some ⟨.agg [.slice 1 6 go 0 lo none], 0, true, 22⟩, some ⟨.agg [.slice 1 0 g off n cp], 0, true, 22⟩, some ⟨.agg [.nilSlice], 0, true, 22⟩, some ⟨.ints .u8 ts,
 31, true, 5⟩, some ⟨.ints .u8 os, go, true, 5⟩] := by kernel_rfl
noncomputable def Ynn (zs : List Int) (g off n : Nat) (cp : Option Nat) (m : Int) (x : Int) (ts os : List Int) (go lo l : Nat) : Out := runOps eX ops5.toList 21 (ops5.toList.drop 3) ((19, .bool true) :: [(18, .slice 1 5 31 0 32 none), (17, .func (.yield l) [] []), (0, .func (.yield l) [] []), (1, .var 3 0), (2, .var 4 0), (4, .slice 1 5 31 0 32 none), (5, .int .u8 x)]) (([some ⟨.ints .u8 zs, g, false, 5⟩, some ⟨.ints .i64 [m], 0, true, 3⟩, some ⟨.agg [.slice 1 6 go 0 lo none], 0, true, 22⟩, some ⟨.agg [.slice 1 0 g off n cp], 0, true, 22⟩, some ⟨.agg [.nilSlice], 0, true, 22⟩, some ⟨.ints .u8 ts, 31, true, 5⟩, some ⟨.ints .u8 os, go, true, 5⟩] : Tab) ++ holes (cntA eX (ops5.toList.drop 3))) ([some ⟨.ints .u8 zs, g, false, 5⟩, some ⟨.ints .i64 [m], 0, true, 3⟩, some ⟨.agg [.slice 1 6 go 0 lo none], 0, true, 22⟩, some ⟨.agg [.slice 1 0 g off n cp], 0, true, 22⟩, some ⟨.agg [.nilSlice], 0, true, 22⟩, some ⟨.ints .u8 ts, 31, true, 5⟩, some ⟨.ints .u8 os, go, true, 5⟩] : Tab).length []
theorem Ynn_ok {zs : List Int} {g off n : Nat} {cp : Option Nat} {m : Int} {x : Int} {ts os : List Int} {go lo l : Nat} (h : allP []) : Ok (Ynn zs g off n cp m x ts os go lo l) := Ok.dem (fl := []) (by kernel_rfl) (by kernel_rfl) (by kernel_rfl) h
theorem Ynn_ex {zs : List Int} {g off n : Nat} {cp : Option Nat} {m : Int} {x : Int} {ts os : List Int} {go lo l : Nat} : (Ynn zs g off n cp m x ts os go lo l).ex = .normal := by kernel_rfl
theorem Ynn_fm {zs : List Int} {g off n : Nat} {cp : Option Nat} {m : Int} {x : Int} {ts os : List Int} {go lo l : Nat} : (Ynn zs g off n cp m x ts os go lo l).fm = [(20, .bool false), (19, .bool true), (18, .slice 1 5 31 0 32 none), (17, .func (Fn.yield l) [] []), (0, .func (Fn.yield l) [] []), (1, .var 3 0), (2, .var 4 0), (4, .slice 1 5 31 0 32 none), (5, .int .u8 x)] := by kernel_rfl
theorem Ynn_tab {zs : List Int} {g off n : Nat} {cp : Option Nat} {m : Int} {x : Int} {ts os : List Int} {go lo l : Nat} : (Ynn zs g off n cp m x ts os go lo l).tab = [some ⟨.ints .u8 zs, g, false, 5⟩, some ⟨.ints .i64 [m], 0, true, 3⟩, some ⟨.agg [.slice 1 6 go 0 lo none], 0, true, 22⟩, some ⟨.agg [.slice 1 0 g off n cp], 0, true, 22⟩, some ⟨.agg [.nilSlice], 0, true, 22⟩, some ⟨.ints .u8 ts, 31,
 true, 5⟩, some ⟨.ints .u8 os, go, true, 5⟩] := by kernel_rfl
noncomputable def Ye1n (zs : List Int) (g off n : Nat) (cp : Option Nat) (m : Int) (x : Int) (ts : List Int) (l : Nat) : Out := runOps eX ops5.toList 21 (ops5.toList.drop 3) ((19, .bool false) :: [(18, .slice 1 5 31 0 32 none), (17, .func (.yield l) [] []), (0, .func (.yield l) [] []), (1, .var 3 0), (2, .var 4 0), (4, .slice 1 5 31 0 32 none), (5, .int .u8 x)]) (([some ⟨.ints .u8 zs, g, false, 5⟩, some ⟨.ints .i64 [m], 0, true, 3⟩, some ⟨.agg [.nilSlice], 0, true, 22⟩, some ⟨.agg [.slice 1 0 g off n cp], 0, true, 22⟩, some ⟨.agg [.nilSlice], 0, true, 22⟩, some ⟨.ints .u8 ts, 31, true, 5⟩] : Tab) ++ holes (cntA eX (ops5.toList.drop 3))) ([some ⟨.ints .u8 zs, g, false, 5⟩, some ⟨.ints .i64 [m], 0, true, 3⟩, some ⟨.agg [.nilSlice], 0, true, 22⟩, some ⟨.agg [.slice 1 0 g off n cp], 0, true, 22⟩, some ⟨.agg [.nilSlice], 0, true, 22⟩, some ⟨.ints .u8 ts, 31, true, 5⟩] : Tab).length []
theorem Ye1n_ok {zs : List Int} {g off n : Nat} {cp : Option Nat} {m : Int} {x : Int} {ts : List Int} {l : Nat} (h : allP []) : Ok (Ye1n zs g off n cp m x ts l) := Ok.dem (fl := []) (by kernel_rfl) (by kernel_rfl) (by kernel_rfl) h
theorem Ye1n_ex {zs : List Int} {g off n : Nat} {cp : Option Nat} {m : Int} {x : Int} {ts : List Int} {l : Nat} : (Ye1n zs g off n cp m x ts l).ex = .normal := by kernel_rfl
theorem Ye1n_fm {zs : List Int} {g off n : Nat} {cp : Option Nat} {m : Int} {x : Int} {ts : List Int} {l : Nat} : (Ye1n zs g off n cp m x ts l).fm = [(20, .bool true), (19, .bool false), (18, .slice 1 5 31 0 32 none), (17, .func (Fn.yield l) [] []), (0, .func (Fn.yield l) [] []), (1, .var 3 0), (2, .var 4 0), (4, .slice 1 5 31 0 32 none), (5, .int .u8 x)] := by kernel_rfl
theorem Ye1n_tab {zs : List Int} {g off n : Nat} {cp : Option Nat} {m : Int} {x : Int} {ts : List Int} {l : Nat} : (Ye1n zs g off n cp m x ts l).tab = [some ⟨.ints .u8 zs, g, false, 5⟩, some ⟨.ints .i64 [m], 0, true, 3⟩, some ⟨.agg [.nilSlice], 0, true, 22⟩, some ⟨.agg [.slice 1 0 g off n cp], 0, true, 22⟩, some ⟨.agg [.nilSlice], 0, true, 22⟩, some ⟨.ints .u8 ts, 31, true, 5⟩] := by kernel_rfl
noncomputable def Ye2n (zs : List Int) (g off n : Nat) (cp : Option Nat) (m : Int) (x : Int) (ts os : List Int) (go lo l : Nat) : Out := runOps eX ops5.toList 21 (ops5.toList.drop 3) ((19, .bool false) :: [(18, .slice 1 5 31 0 32 none), (17, .func (.yield l) [] []), (0, .func (.yield l) [] []), (1, .var 3 0), (2, .var 4 0), (4, .slice 1 5 31 0 32 none), (5, .int .u8 x)]) (([some ⟨.ints .u8 zs, g, false, 5⟩, some ⟨.ints .i64 [m], 0, true, 3⟩, some ⟨.agg [.slice 1 6 go 0 lo none], 0, true, 22⟩, some ⟨.agg [.slice 1 0 g off n cp], 0, true, 22⟩, some ⟨.agg [.nilSlice], 0, true, 22⟩, some ⟨.ints .u8 ts, 31, true, 5⟩, some ⟨.ints .u8 os, go, true, 5⟩] : Tab) ++ holes (cntA eX (ops5.toList.drop 3))) ([some ⟨.ints .u8 zs, g, false, 5⟩, some ⟨.ints .i64 [m], 0, true, 3⟩, some ⟨.agg [.slice 1 6 go 0 lo none], 0, true, 22⟩, some ⟨.agg [.slice 1 0 g off n cp], 0, true, 22⟩, some ⟨.agg [.nilSlice], 0, true, 22⟩, some ⟨.ints .u8 ts, 31, true, 5⟩, some ⟨.ints .u8 os, go, true, 5⟩] : Tab).length []
theorem Ye2n_ok {zs : List Int} {g off n : Nat} {cp : Option Nat} {m : Int} {x : Int} {ts os : List Int} {go lo l : Nat} (h : allP []) : Ok (Ye2n zs g off n cp m x ts os go lo l) := Ok.dem (fl := []) (by kernel_rfl) (by kernel_rfl) (by kernel_rfl) h
theorem Ye2n_ex {zs : List Int} {g off n : Nat} {cp : Option Nat} {m : Int} {x : Int} {ts os : List Int} {go lo l : Nat} : (Ye2n zs g off n cp m x ts os go lo l).ex = .normal := by kernel_rfl
theorem Ye2n_fm {zs : List Int} {g off n : Nat} {cp : Option Nat} {m : Int} {x : Int} {ts os : List Int} {go lo l : Nat} : (Ye2n zs g off n cp m x ts os go lo l).fm = [(20, .bool true), (19, .bool false), (18, .slice 1 5 31 0 32 none), (17, .func (Fn.yield l) [] []), (0, .func (Fn.yield l) [] []), (1, .var 3 0), (2, .var 4 0), (4, .slice 1 5 31 0 32 none), (5, .int .u8 x)] := by kernel_rfl
theorem Ye2n_tab {zs : List Int} {g off n : Nat} {cp : Option Nat} {m : Int} {x : Int} {ts os : List Int} {go lo l : Nat} : (Ye2n zs g off n cp m x ts os go lo l).tab = [some ⟨.ints .u8 zs, g, false, 5⟩, some ⟨.ints .i64 [m], 0, true, 3⟩, some ⟨.agg [.slice 1 6 go 0 lo none], 0, true, 22⟩, some ⟨.agg [.slice 1 0 g off n cp], 0, true, 22⟩, some ⟨.agg [.nilSlice], 0, true, 22⟩, some ⟨.ints .u8 ts,
 31, true, 5⟩, some ⟨.ints .u8 os, go, true, 5⟩] := by kernel_rfl
noncomputable def Cnn (zs : List Int) (g off n : Nat) (cp : Option Nat) (m : Int) (x : Int) (ts os : List Int) (go lo l : Nat) : Out := trim 7 7 [0,1,2,4,5] (run eX 21 ⟨7, []⟩ 400 cnd53 [(20, .bool false), (19, .bool true), (18, .slice 1 5 31 0 32 none), (17, .func (.yield l) [] []), (0, .func (.yield l) [] []), (1, .var 3 0), (2, .var 4 0), (4, .slice 1 5 31 0 32 none), (5, .int .u8 x)] [some ⟨.ints .u8 zs, g, false, 5⟩, some ⟨.ints .i64 [m], 0, true, 3⟩, some ⟨.agg [.slice 1 6 go 0 lo none], 0, true, 22⟩, some ⟨.agg [.slice 1 0 g off n cp], 0, true, 22⟩, some ⟨.agg [.nilSlice], 0, true, 22⟩, some ⟨.ints .u8 ts, 31, true, 5⟩, some ⟨.ints .u8 os, go, true, 5⟩] [])
theorem Cnn_ok {zs : List Int} {g off n : Nat} {cp : Option Nat} {m : Int} {x : Int} {ts os : List Int} {go lo l : Nat} (h : allP []) : Ok (Cnn zs g off n cp m x ts os go lo l) := Ok.dem (fl := []) (by kernel_rfl) (by kernel_rfl) (by kernel_rfl) h
theorem Cnn_ex {zs : List Int} {g off n : Nat} {cp : Option Nat} {m : Int} {x : Int} {ts os : List Int} {go lo l : Nat} : (Cnn zs g off n cp m x ts os go lo l).ex = .normal := by kernel_rfl
theorem Cnn_fm {zs : List Int} {g off n : Nat} {cp : Option Nat} {m : Int} {x : Int} {ts os : List Int} {go lo l : Nat} : (Cnn zs g off n cp m x ts os go lo l).fm = [(0, .func (Fn.yield l) [] []), (1, .var 3 0), (2, .var 4 0), (4, .slice 1 5 31 0 32 none), (5, .int .u8 x)] := by kernel_rfl
theorem Cnn_tab {zs : List Int} {g off n : Nat} {cp : Option Nat} {m : Int} {x : Int} {ts os : List Int} {go lo l : Nat} : (Cnn zs g off n cp m x ts os go lo l).tab = [some ⟨.ints .u8 zs, g, false, 5⟩, some ⟨.ints .i64 [m], 0, true, 3⟩, some ⟨.agg [.slice 1 6 go 0 lo none], 0, true, 22⟩, some ⟨.agg [.slice 1 0 g off n cp], 0, true, 22⟩, some ⟨.agg [.nilSlice], 0, true, 22⟩, some ⟨.ints .u8 ts, 31,
 true, 5⟩, some ⟨.ints .u8 os, go, true, 5⟩] := by kernel_rfl
noncomputable def Cen1 (zs : List Int) (g off n : Nat) (cp : Option Nat) (m : Int) (x : Int) (ts : List Int) (l : Nat) : Out := trim 6 6 [] (run eX 21 ⟨6, []⟩ 400 cnd53 [(20, .bool true), (19, .bool false), (18, .slice 1 5 31 0 32 none), (17, .func (.yield l) [] []), (0, .func (.yield l) [] []), (1, .var 3 0), (2, .var 4 0), (4, .slice 1 5 31 0 32 none), (5, .int .u8 x)] [some ⟨.ints .u8 zs, g, false, 5⟩, some ⟨.ints .i64 [m], 0, true, 3⟩, some ⟨.agg [.nilSlice], 0, true, 22⟩, some ⟨.agg [.slice 1 0 g off n cp], 0, true, 22⟩, some ⟨.agg [.nilSlice], 0, true, 22⟩, some ⟨.ints .u8 ts, 31, true, 5⟩] [])
theorem Cen1_ok {zs : List Int} {g off n : Nat} {cp : Option Nat} {m : Int} {x : Int} {ts : List Int} {l : Nat} (h : allP []) : Ok (Cen1 zs g off n cp m x ts l) := Ok.dem (fl := []) (by kernel_rfl) (by kernel_rfl) (by kernel_rfl) h
theorem Cen1_ex {zs : List Int} {g off n : Nat} {cp : Option Nat} {m : Int} {x : Int} {ts : List Int} {l : Nat} : (Cen1 zs g off n cp m x ts l).ex = .ret := by kernel_rfl
theorem Cen1_fm {zs : List Int} {g off n : Nat} {cp : Option Nat} {m : Int} {x : Int} {ts : List Int} {l : Nat} : (Cen1 zs g off n cp m x ts l).fm = [] := by kernel_rfl
theorem Cen1_tab {zs : List Int} {g off n : Nat} {cp : Option Nat} {m : Int} {x : Int} {ts : List Int} {l : Nat} : (Cen1 zs g off n cp m x ts l).tab = [some ⟨.ints .u8 zs, g, false, 5⟩, some ⟨.ints .i64 [m], 0, true, 3⟩, some ⟨.agg [.nilSlice], 0, true, 22⟩, some ⟨.agg [.slice 1 0 g off n cp], 0, true, 22⟩, some ⟨.agg [.nilSlice], 0, true, 22⟩, some ⟨.ints .u8 ts, 31, true, 5⟩] := by kernel_rfl
noncomputable def Cen2 (zs : List Int) (g off n : Nat) (cp : Option Nat) (m : Int) (x : Int) (ts os : List Int) (go lo l : Nat) : Out := trim 7 7 [] (run eX 21 ⟨7, []⟩ 400 cnd53 [(20, .bool true), (19, .bool false), (18, .slice 1 5 31 0 32 none), (17, .func (.yield l) [] []), (0, .func (.yield l) [] []), (1, .var 3 0), (2, .var 4 0), (4, .slice 1 5 31 0 32 none), (5, .int .u8 x)] [some ⟨.ints .u8 zs, g, false, 5⟩, some ⟨.ints .i64 [m], 0, true, 3⟩, some ⟨.agg [.slice 1 6 go 0 lo none], 0, true, 22⟩, some ⟨.agg [.slice 1 0 g off n cp], 0, true, 22⟩, some ⟨.agg [.nilSlice], 0, true, 22⟩, some ⟨.ints .u8 ts, 31, true, 5⟩, some ⟨.ints .u8 os, go, true, 5⟩] [])
theorem Cen2_ok {zs : List Int} {g off n : Nat} {cp : Option Nat} {m : Int} {x : Int} {ts os : List Int} {go lo l : Nat} (h : allP []) : Ok (Cen2 zs g off n cp m x ts os go lo l) := Ok.dem (fl := []) (by kernel_rfl) (by kernel_rfl) (by kernel_rfl) h
theorem Cen2_ex {zs : List Int} {g off n : Nat} {cp : Option Nat} {m : Int} {x : Int} {ts os : List Int} {go lo l : Nat} : (Cen2 zs g off n cp m x ts os go lo l).ex = .ret := by kernel_rfl
theorem Cen2_fm {zs : List Int} {g off n : Nat} {cp : Option Nat} {m : Int} {x : Int} {ts os : List Int} {go lo l : Nat} : (Cen2 zs g off n cp m x ts os go lo l).fm = [] := by kernel_rfl
theorem Cen2_tab {zs : List Int} {g off n : Nat} {cp : Option Nat} {m : Int} {x : Int} {ts os : List Int} {go lo l : Nat} : (Cen2 zs g off n cp m x ts os go lo l).tab = [some ⟨.ints .u8 zs, g, false, 5⟩, some ⟨.ints .i64 [m], 0, true, 3⟩, some ⟨.agg [.slice 1 6 go 0 lo none], 0, true, 22⟩, some ⟨.agg [.slice 1 0 g off n cp], 0, true, 22⟩, some ⟨.agg [.nilSlice], 0, true, 22⟩, some ⟨.ints .u8 ts,
 31, true, 5⟩, some ⟨.ints .u8 os, go, true, 5⟩] := by kernel_rfl
noncomputable def R3n (zs : List Int) (g off n : Nat) (cp : Option Nat) (m : Int) (x : Int) (ts os : List Int) (go lo l : Nat) : Out := trim 7 7 [0,1,2,4,5] (run eX 21 ⟨7, []⟩ 400 r3c [(0, .func (.yield l) [] []), (1, .var 3 0), (2, .var 4 0), (4, .slice 1 5 31 0 32 none), (5, .int .u8 x)] [some ⟨.ints .u8 zs, g, false, 5⟩, some ⟨.ints .i64 [m], 0, true, 3⟩, some ⟨.agg [.slice 1 6 go 0 lo none], 0, true, 22⟩, some ⟨.agg [.slice 1 0 g off n cp], 0, true, 22⟩, some ⟨.agg [.nilSlice], 0, true, 22⟩, some ⟨.ints .u8 ts, 31, true, 5⟩, some ⟨.ints .u8 os, go, true, 5⟩] [])
theorem R3n_ok {zs : List Int} {g off n : Nat} {cp : Option Nat} {m : Int} {x : Int} {ts os : List Int} {go lo l : Nat} (h : allP []) : Ok (R3n zs g off n cp m x ts os go lo l) := Ok.dem (fl := []) (by kernel_rfl) (by kernel_rfl) (by kernel_rfl) h
theorem R3n_ex {zs : List Int} {g off n : Nat} {cp : Option Nat} {m : Int} {x : Int} {ts os : List Int} {go lo l : Nat} : (R3n zs g off n cp m x ts os go lo l).ex = .normal := by kernel_rfl
theorem R3n_fm {zs : List Int} {g off n : Nat} {cp : Option Nat} {m : Int} {x : Int} {ts os : List Int} {go lo l : Nat} : (R3n zs g off n cp m x ts os go lo l).fm = [(0, .func (Fn.yield l) [] []), (1, .var 3 0), (2, .var 4 0), (4, .slice 1 5 31 0 32 none), (5, .int .u8 ((x + 1) % 256))] := by kernel_rfl
theorem R3n_tab {zs : List Int} {g off n : Nat} {cp : Option Nat} {m : Int} {x : Int} {ts os : List Int} {go lo l : Nat} : (R3n zs g off n cp m x ts os go lo l).tab = [some ⟨.ints .u8 zs, g, false, 5⟩, some ⟨.ints .i64 [m], 0, true, 3⟩, some ⟨.agg [.slice 1 6 go 0 lo none], 0, true, 22⟩, some ⟨.agg [.slice 1 0 g off n cp], 0, true, 22⟩, some ⟨.agg [.nilSlice], 0, true, 22⟩, some ⟨.ints .u8 ts, 31,
 true, 5⟩, some ⟨.ints .u8 os, go, true, 5⟩] := by kernel_rfl
noncomputable def Rsn (zs : List Int) (g off n : Nat) (cp : Option Nat) (m : Int) (l : Nat) : Out := trim 5 5 [0,1,2,4,5] (run eX 21 ⟨5, []⟩ 400 (.seq (fstC (bodyOf f53)) (fstC (sndC (bodyOf f53)))) (argF [.func (.yield l) [] [], .var 3 0, .var 4 0] 0) [some ⟨.ints .u8 zs, g, false, 5⟩, some ⟨.ints .i64 [m], 0, true, 3⟩, some ⟨.agg [.nilSlice], 0, true, 22⟩, some ⟨.agg [.slice 1 0 g off n cp], 0, true, 22⟩, some ⟨.agg [.nilSlice], 0, true, 22⟩] [])
theorem Rsn_ok {zs : List Int} {g off n : Nat} {cp : Option Nat} {m : Int} {l : Nat} (h : allP []) : Ok (Rsn zs g off n cp m l) := Ok.dem (fl := []) (by kernel_rfl) (by kernel_rfl) (by kernel_rfl) h
theorem Rsn_ex {zs : List Int} {g off n : Nat} {cp : Option Nat} {m : Int} {l : Nat} : (Rsn zs g off n cp m l).ex = .normal := by kernel_rfl
theorem Rsn_fm {zs : List Int} {g off n : Nat} {cp : Option Nat} {m : Int} {l : Nat} : (Rsn zs g off n cp m l).fm = [(0, .func (Fn.yield l) [] []), (1, .var 3 0), (2, .var 4 0), (4, .nilSlice), (5, .int .u8 1)] := by kernel_rfl
theorem Rsn_tab {zs : List Int} {g off n : Nat} {cp : Option Nat} {m : Int} {l : Nat} : (Rsn zs g off n cp m l).tab = [some ⟨.ints .u8 zs, g, false, 5⟩, some ⟨.ints .i64 [m], 0, true, 3⟩, some ⟨.agg [.nilSlice], 0, true, 22⟩, some ⟨.agg [.slice 1 0 g off n cp], 0, true, 22⟩, some ⟨.agg [.nilSlice], 0, true, 22⟩] := by kernel_rfl
end Go.Abs

set_option linter.unusedVariables false
set_option linter.unusedSimpArgs false
set_option maxRecDepth 8000
set_option maxHeartbeats 4000000
namespace Go.Abs
open Go.Proofs Go.Proofs.Tryd
/-! ### Expand: the pieces -/
def tLaw (K J : List Int) : Nat → List Int
  | 0 => []
  | i + 1 => hmLaw K (tLaw K J i ++ J ++ [((i + 1 : Nat) : Int)])
def outLaw (K J : List Int) : Nat → List Int
  | 0 => []
  | i + 1 => outLaw K J i ++ tLaw K J (i + 1)
theorem t_len (K J : List Int) (i : Nat) : (tLaw K J (i + 1)).length = 32 := hm_len _ _
theorem t_bs (K J : List Int) : ∀ i, BsLaw (tLaw K J i)
  | 0 => BsLaw.nil
  | i + 1 => hm_bs _ _
theorem out_len (K J : List Int) : ∀ i, (outLaw K J i).length = 32 * i
  | 0 => rfl
  | i + 1 => by rw [outLaw, List.length_append, out_len K J i, t_len]; omega
theorem split53 : roundOf 0 f53 = .seq hd53 (.seq (.block 1 (.seq r4c (.seq (.region 5 ops5 false) cnd53))) r3c) := by kernel_rfl
theorem sub_one (x : Int) : subLaw [x] 0 1 = [x] := rfl
theorem sub_t (K J : List Int) (i : Nat) : subLaw (tLaw K J (i + 1)) 0 32 = tLaw K J (i + 1) := sub_all (t_len K J i)
theorem take_t (K J : List Int) (i : Nat) : List.take 32 (tLaw K J (i + 1)) = tLaw K J (i + 1) := List.take_of_length_le (by rw [t_len]; exact Nat.le_refl _)
theorem take_out (K J : List Int) (i : Nat) : List.take (32 * i) (outLaw K J i) = outLaw K J i := List.take_of_length_le (by rw [out_len]; exact Nat.le_refl _)
theorem one_bs {i : Nat} (h : i < 256) : BsLaw [(i : Int)] := .cons ⟨by omega, by omega⟩ .nil
/-! info s -/
def tvs : Nat → AVal
  | 0 => .nilSlice
  | _ + 1 => .slice 1 6 31 0 32 none
def TTs (zs : List Int) (g off n : Nat) (cp : Option Nat) (m : Int) (is : List Int) (gi oi ni : Nat) (ci : Option Nat) : Nat → Tab
  | 0 => [some ⟨.ints .u8 zs, g, false, 5⟩, some ⟨.ints .u8 is, gi, false, 5⟩, some ⟨.ints .i64 [m], 0, true, 3⟩, some ⟨.agg [.nilSlice], 0, true, 22⟩, some ⟨.agg [.slice 1 0 g off n cp], 0, true, 22⟩, some ⟨.agg [.slice 1 1 gi oi ni ci], 0, true, 22⟩]
  | i + 1 => [some ⟨.ints .u8 zs, g, false, 5⟩, some ⟨.ints .u8 is, gi, false, 5⟩, some ⟨.ints .i64 [m], 0, true, 3⟩, some ⟨.agg [.slice 1 7 i 0 (32 * (i + 1)) none], 0, true, 22⟩, some ⟨.agg [.slice 1 0 g off n cp], 0, true, 22⟩, some ⟨.agg [.slice 1 1 gi oi ni ci], 0, true, 22⟩, some ⟨.ints .u8 (tLaw (subLaw zs off n) (subLaw is oi ni) (i + 1)), 31, true, 5⟩, some ⟨.ints .u8 (outLaw (subLaw zs off n) (subLaw is oi ni) (i + 1)), i, true, 5⟩]
def TFs (zs : List Int) (g off n : Nat) (cp : Option Nat) (m : Int) (is : List Int) (gi oi ni : Nat) (ci : Option Nat) : Nat → Tab
  | 0 => [some ⟨.ints .u8 zs, g, false, 5⟩, some ⟨.ints .u8 is, gi, false, 5⟩, some ⟨.ints .i64 [m], 0, true, 3⟩, some ⟨.agg [.nilSlice], 0, true, 22⟩, some ⟨.agg [.slice 1 0 g off n cp], 0, true, 22⟩, some ⟨.agg [.slice 1 1 gi oi ni ci], 0, true, 22⟩, some ⟨.ints .u8 (tLaw (subLaw zs off n) (subLaw is oi ni) (1)), 31, true, 5⟩]
  | i + 1 => [some ⟨.ints .u8 zs, g, false, 5⟩, some ⟨.ints .u8 is, gi, false, 5⟩, some ⟨.ints .i64 [m], 0, true, 3⟩, some ⟨.agg [.slice 1 7 i 0 (32 * (i + 1)) none], 0, true, 22⟩, some ⟨.agg [.slice 1 0 g off n cp], 0, true, 22⟩, some ⟨.agg [.slice 1 1 gi oi ni ci], 0, true, 22⟩, some ⟨.ints .u8 (tLaw (subLaw zs off n) (subLaw is oi ni) (i + 2)), 31, true, 5⟩, some ⟨.ints .u8 (outLaw (subLaw zs off n) (subLaw is oi ni) (i + 1)), i, true, 5⟩]
def Fcs (l i : Nat) : Fm := [(0, .func (.yield l) [] []), (1, .var 4 0), (2, .var 5 0), (4, tvs i), (5, .int .u8 (((i + 1 : Nat) : Int) % 256))]
noncomputable def Hss : Host := ⟨#[19], as27, bd27, [(5, .var 2 0), (8, .var 3 0), (18, .func (.func 53) [] [.var 4 0, .var 5 0])], 30⟩
structure Exs (zs : List Int) (g off n : Nat) (cp : Option Nat) (m : Int) (is : List Int) (gi oi ni : Nat) (ci : Option Nat) : Prop where
  h1 : off + n ≤ zs.length
  h2 : n ≤ 140737488355000
  h3 : BsLaw zs
  h4 : capLaw n cp
  j1 : oi + ni ≤ is.length
  j2 : ni ≤ 140737488354000
  j3 : BsLaw is
  m0 : 0 ≤ m
  m1 : m ≤ 8160
theorem rnds0 {zs : List Int} {g off n : Nat} {cp : Option Nat} {m : Int} {is : List Int} {gi oi ni : Nat} {ci : Option Nat} (h : Exs zs g off n cp m is gi oi ni ci) (l : Nat) :
    YWp eX 21 6 [(l, Hss)] (roundOf 0 f53) (Fcs l 0) (TTs zs g off n cp m is gi oi ni ci 0) [(.ready, none)] fun ex fm T' σ' => if 32 * ((0 : Nat) : Int) < m then ex = .normal ∧ fm = Fcs l (0 + 1) ∧ T' = TTs zs g off n cp m is gi oi ni ci (0 + 1) ∧ σ' = [(.ready, none)] else ex = .ret ∧ T' = TFs zs g off n cp m is gi oi ni ci 0 ∧ σ' = [(.done, some (.exit 0))] := by
  have hamb : ambIn 6 [(l, Hss)] := ambIn_one rfl
  have hamb1 : ambIn 7 [(l, Hss)] := ambIn_one rfl
  have m0 := h.m0
  have m1 := h.m1
  have e1 := t_len (subLaw zs off n) (subLaw is oi ni) (0)
  have e2 := t_bs (subLaw zs off n) (subLaw is oi ni) (0 + 1)
  have e2' := t_bs (subLaw zs off n) (subLaw is oi ni) (0)
  have e3 := out_len (subLaw zs off n) (subLaw is oi ni) (0)
  have hx1 : BsLaw [((((0 : Nat) + 1 : Nat) : Int) % 256)] := .cons ⟨by omega, by omega⟩ .nil
  rw [split53]
  refine YWp.seq (YWp.ofTo (To.base (by decide) (To.of (o := Hds0 zs g off n cp m is gi oi ni ci ((((0 : Nat) + 1 : Nat) : Int) % 256) l) eX_ok hmS (Nat.le_refl 6) OrcOk.nil rfl (Hds0_ok (by simp only [allP, Con.h, bne_iff_ne, and_true]; omega)) Hds0_ex Hds0_fm Hds0_tab)) hamb ?_)
  refine YWp.seq (YWp.block (YWp.seq (YWp.ofTo (To.ofG (o := R4as zs g off n cp m is gi oi ni ci ((((0 : Nat) + 1 : Nat) : Int) % 256) l) (fm' := [(0, .func (.yield l) [] []), (1, .var 4 0), (2, .var 5 0), (4, .slice 1 6 31 0 32 none), (5, .int .u8 ((((0 : Nat) + 1 : Nat) : Int) % 256))]) (T' := [some ⟨.ints .u8 zs, g, false, 5⟩, some ⟨.ints .u8 is, gi, false, 5⟩, some ⟨.ints .i64 [m], 0, true, 3⟩, some ⟨.agg [.nilSlice], 0, true, 22⟩, some ⟨.agg [.slice 1 0 g off n cp], 0, true, 22⟩, some ⟨.agg [.slice 1 1 gi oi ni ci], 0, true, 22⟩, some ⟨.ints .u8 (tLaw (subLaw zs off n) (subLaw is oi ni) (1)), 31, true, 5⟩]) eX_ok hmS (Nat.le_refl 6) OrcOk.nil rfl (R4as_ok ?_) R4as_ex R4as_fm ?_) hamb ?_)))
  · simp only [allP, Con.h, hx1, t_len, t_bs, Nat.le_refl, h.h1, h.h2, h.h3, h.h4, h.j1, h.j2, h.j3, eq_self, true_and, and_true]
    try (have := h.j2; omega)
  · rw [R4as_tab, show ((((0 : Nat) + 1 : Nat) : Int) % 256) = ((0 + 1 : Nat) : Int) by omega]
    skip
    simp only [sub_one, tLaw, List.nil_append, List.append_nil]
  refine YWp.seq (YWp.yieldRegion eX_ok (l1 := ops5.toList.take 2) (l2 := ops5.toList.drop 3) (oy := ops5.toList.getD 2 default) (by kernel_rfl) (ds1 := []) (o1 := Yps1 zs g off n cp m is gi oi ni ci ((((0 : Nat) + 1 : Nat) : Int) % 256) (tLaw (subLaw zs off n) (subLaw is oi ni) (1)) l) (by kernel_rfl) (Yps1_ok trivial) (f := .tmp 17) (x := .tmp 18) (t := 19) (c := theCall (ops5.toList.getD 2 default)) (by kernel_rfl) (by kernel_rfl) (by kernel_rfl) (by kernel_rfl) (by kernel_rfl) (by decide) (i := 0) (l := l) (H := Hss) (by rw [Yps1_fm]; rfl) (v := .slice 1 6 31 0 32 none) (by rw [Yps1_fm]; rfl) rfl rfl (p := 19) rfl (by decide) (kk := 7) (by decide) (by rw [Yps1_fm]; exact fmIn_of rfl) hamb ?_)
  rw [Yps1_tab]
  refine YWp.ofTo (To.base (by decide) (To.of (o := Ras1 zs g off n cp m is gi oi ni ci (tLaw (subLaw zs off n) (subLaw is oi ni) (1))) eX_ok hmS (Nat.le_refl 7) OrcOk.nil rfl (Ras1_ok trivial) Ras1_ex Ras1_fm Ras1_tab)) hamb1 ⟨rfl, rfl, ?_⟩
  by_cases hm : 32 * ((0 : Nat) : Int) < m
  · refine YWp.ofTo (To.base (by decide) (To.of (o := Rbs1 zs g off n cp m is gi oi ni ci (tLaw (subLaw zs off n) (subLaw is oi ni) (1))) (fm' := [(5, .var 2 0)]) (T' := [some ⟨.ints .u8 zs, g, false, 5⟩, some ⟨.ints .u8 is, gi, false, 5⟩, some ⟨.ints .i64 [m], 0, true, 3⟩, some ⟨.agg [.slice 1 7 0 0 32 none], 0, true, 22⟩, some ⟨.agg [.slice 1 0 g off n cp], 0, true, 22⟩, some ⟨.agg [.slice 1 1 gi oi ni ci], 0, true, 22⟩, some ⟨.ints .u8 (tLaw (subLaw zs off n) (subLaw is oi ni) (1)), 31, true, 5⟩, some ⟨.ints .u8 (outLaw (subLaw zs off n) (subLaw is oi ni) (1)), 0, true, 5⟩]) eX_ok hmS (Nat.le_refl 7) OrcOk.nil rfl (Rbs1_ok ?_) Rbs1_ex Rbs1_fm ?_)) hamb1 ⟨by decide, [], Yns zs g off n cp m is gi oi ni ci ((((0 : Nat) + 1 : Nat) : Int) % 256) (tLaw (subLaw zs off n) (subLaw is oi ni) (1)) (outLaw (subLaw zs off n) (subLaw is oi ni) (1)) 0 32 l, by rw [Yps1_fm]; rfl, Yns_ok trivial, ?_⟩
    · simp only [allP, Con.h, addO_eq, t_len, out_len, decide_eq_false_iff_not, Nat.zero_add, Nat.le_refl, eq_self, true_and, and_true]
      omega
    · rw [Rbs1_tab]
      
      simp only [take_t]
      simp only [outLaw, List.nil_append]
    rw [Yns_fm, Yns_tab]
    refine YWp.ofTo (To.base (by decide) (To.of (o := Cns zs g off n cp m is gi oi ni ci ((((0 : Nat) + 1 : Nat) : Int) % 256) (tLaw (subLaw zs off n) (subLaw is oi ni) (1)) (outLaw (subLaw zs off n) (subLaw is oi ni) (1)) 0 32 l) eX_ok hmS (Nat.le_refl 8) OrcOk.nil rfl (Cns_ok trivial) Cns_ex Cns_fm Cns_tab)) hamb ?_
    refine YWp.ofTo (To.base (by decide) (To.of (o := R3s zs g off n cp m is gi oi ni ci ((((0 : Nat) + 1 : Nat) : Int) % 256) (tLaw (subLaw zs off n) (subLaw is oi ni) (1)) (outLaw (subLaw zs off n) (subLaw is oi ni) (1)) 0 32 l) eX_ok hmS (Nat.le_refl 8) OrcOk.nil rfl (R3s_ok trivial) R3s_ex R3s_fm R3s_tab)) hamb ?_
    show (if 32 * ((0 : Nat) : Int) < m then _ else _)
    rw [if_pos hm]
    refine ⟨rfl, ?_, rfl, rfl⟩
    unfold Fcs tvs
    rw [show (((((0 : Nat) + 1 : Nat) : Int) % 256) + 1) % 256 = ((0 + 1 + 1 : Nat) : Int) % 256 by omega]
  · refine YWp.ofTo (To.base (by decide) (To.of (o := Rxs1 zs g off n cp m is gi oi ni ci (tLaw (subLaw zs off n) (subLaw is oi ni) (1))) eX_ok hmS (Nat.le_refl 7) OrcOk.nil rfl (Rxs1_ok ?_) Rxs1_ex Rxs1_fm Rxs1_tab)) hamb1 ⟨by decide, [], Ye1s zs g off n cp m is gi oi ni ci ((((0 : Nat) + 1 : Nat) : Int) % 256) (tLaw (subLaw zs off n) (subLaw is oi ni) (1)) l, by rw [Yps1_fm]; rfl, Ye1s_ok trivial, ?_⟩
    · simp only [allP, Con.h, decide_eq_true_eq, Nat.le_refl, eq_self, true_and, and_true]
      omega
    rw [Ye1s_fm, Ye1s_tab]
    refine YWp.ofTo (To.base (by decide) (To.of (o := Ces1 zs g off n cp m is gi oi ni ci ((((0 : Nat) + 1 : Nat) : Int) % 256) (tLaw (subLaw zs off n) (subLaw is oi ni) (1)) l) eX_ok hmS (Nat.le_refl 7) OrcOk.nil rfl (Ces1_ok trivial) Ces1_ex Ces1_fm Ces1_tab)) hamb ?_
    show (if 32 * ((0 : Nat) : Int) < m then _ else _)
    rw [if_neg hm]
    exact ⟨rfl, rfl, rfl⟩
theorem rnds1 {zs : List Int} {g off n : Nat} {cp : Option Nat} {m : Int} {is : List Int} {gi oi ni : Nat} {ci : Option Nat} (h : Exs zs g off n cp m is gi oi ni ci) (l : Nat) {i : Nat} (hi : i + 1 < 255) :
    YWp eX 21 6 [(l, Hss)] (roundOf 0 f53) (Fcs l (i + 1)) (TTs zs g off n cp m is gi oi ni ci (i + 1)) [(.ready, none)] fun ex fm T' σ' => if 32 * ((i + 1 : Nat) : Int) < m then ex = .normal ∧ fm = Fcs l (i + 1 + 1) ∧ T' = TTs zs g off n cp m is gi oi ni ci (i + 1 + 1) ∧ σ' = [(.ready, none)] else ex = .ret ∧ T' = TFs zs g off n cp m is gi oi ni ci (i + 1) ∧ σ' = [(.done, some (.exit 0))] := by
  have hamb : ambIn 6 [(l, Hss)] := ambIn_one rfl
  have hamb1 : ambIn 7 [(l, Hss)] := ambIn_one rfl
  have m0 := h.m0
  have m1 := h.m1
  have e1 := t_len (subLaw zs off n) (subLaw is oi ni) (i + 1)
  have e2 := t_bs (subLaw zs off n) (subLaw is oi ni) (i + 1 + 1)
  have e2' := t_bs (subLaw zs off n) (subLaw is oi ni) (i + 1)
  have e3 := out_len (subLaw zs off n) (subLaw is oi ni) (i + 1)
  have hx1 : BsLaw [(((i + 1 + 1 : Nat) : Int) % 256)] := .cons ⟨by omega, by omega⟩ .nil
  rw [split53]
  refine YWp.seq (YWp.ofTo (To.base (by decide) (To.of (o := Hds1 zs g off n cp m is gi oi ni ci (((i + 1 + 1 : Nat) : Int) % 256) (tLaw (subLaw zs off n) (subLaw is oi ni) (i + 1)) (outLaw (subLaw zs off n) (subLaw is oi ni) (i + 1)) i (32 * (i + 1)) l) eX_ok hmS (Nat.le_refl 8) OrcOk.nil rfl (Hds1_ok (by simp only [allP, Con.h, bne_iff_ne, and_true]; omega)) Hds1_ex Hds1_fm Hds1_tab)) hamb ?_)
  refine YWp.seq (YWp.block (YWp.seq (YWp.ofTo (To.ofG (o := R4bs zs g off n cp m is gi oi ni ci (((i + 1 + 1 : Nat) : Int) % 256) (tLaw (subLaw zs off n) (subLaw is oi ni) (i + 1)) (outLaw (subLaw zs off n) (subLaw is oi ni) (i + 1)) i (32 * (i + 1)) l) (fm' := [(0, .func (.yield l) [] []), (1, .var 4 0), (2, .var 5 0), (4, .slice 1 6 31 0 32 none), (5, .int .u8 (((i + 1 + 1 : Nat) : Int) % 256))]) (T' := [some ⟨.ints .u8 zs, g, false, 5⟩, some ⟨.ints .u8 is, gi, false, 5⟩, some ⟨.ints .i64 [m], 0, true, 3⟩, some ⟨.agg [.slice 1 7 i 0 (32 * (i + 1)) none], 0, true, 22⟩, some ⟨.agg [.slice 1 0 g off n cp], 0, true, 22⟩, some ⟨.agg [.slice 1 1 gi oi ni ci], 0, true, 22⟩, some ⟨.ints .u8 (tLaw (subLaw zs off n) (subLaw is oi ni) (i + 2)), 31, true, 5⟩, some ⟨.ints .u8 (outLaw (subLaw zs off n) (subLaw is oi ni) (i + 1)), i, true, 5⟩]) eX_ok hmS (Nat.le_refl 6) OrcOk.nil rfl (R4bs_ok ?_) R4bs_ex R4bs_fm ?_) hamb ?_)))
  · simp only [allP, Con.h, hx1, t_len, t_bs, Nat.le_refl, h.h1, h.h2, h.h3, h.h4, h.j1, h.j2, h.j3, eq_self, true_and, and_true]
    try (have := h.j2; omega)
  · rw [R4bs_tab, show (((i + 1 + 1 : Nat) : Int) % 256) = ((i + 1 + 1 : Nat) : Int) by omega]
    simp only [sub_one, sub_t]
    simp only [sub_one, tLaw, List.nil_append, List.append_nil]
  refine YWp.seq (YWp.yieldRegion eX_ok (l1 := ops5.toList.take 2) (l2 := ops5.toList.drop 3) (oy := ops5.toList.getD 2 default) (by kernel_rfl) (ds1 := []) (o1 := Yps2 zs g off n cp m is gi oi ni ci (((i + 1 + 1 : Nat) : Int) % 256) (tLaw (subLaw zs off n) (subLaw is oi ni) (i + 2)) (outLaw (subLaw zs off n) (subLaw is oi ni) (i + 1)) i (32 * (i + 1)) l) (by kernel_rfl) (Yps2_ok trivial) (f := .tmp 17) (x := .tmp 18) (t := 19) (c := theCall (ops5.toList.getD 2 default)) (by kernel_rfl) (by kernel_rfl) (by kernel_rfl) (by kernel_rfl) (by kernel_rfl) (by decide) (i := 0) (l := l) (H := Hss) (by rw [Yps2_fm]; rfl) (v := .slice 1 6 31 0 32 none) (by rw [Yps2_fm]; rfl) rfl rfl (p := 19) rfl (by decide) (kk := 7) (by decide) (by rw [Yps2_fm]; exact fmIn_of rfl) hamb ?_)
  rw [Yps2_tab]
  refine YWp.ofTo (To.base (by decide) (To.of (o := Ras2 zs g off n cp m is gi oi ni ci (tLaw (subLaw zs off n) (subLaw is oi ni) (i + 2)) (outLaw (subLaw zs off n) (subLaw is oi ni) (i + 1)) i (32 * (i + 1))) eX_ok hmS (Nat.le_refl 8) OrcOk.nil rfl (Ras2_ok trivial) Ras2_ex Ras2_fm Ras2_tab)) hamb1 ⟨rfl, rfl, ?_⟩
  by_cases hm : 32 * ((i + 1 : Nat) : Int) < m
  · refine YWp.ofTo (To.base (by decide) (To.of (o := Rbs2 zs g off n cp m is gi oi ni ci (tLaw (subLaw zs off n) (subLaw is oi ni) (i + 2)) (outLaw (subLaw zs off n) (subLaw is oi ni) (i + 1)) i (32 * (i + 1))) (fm' := [(5, .var 2 0)]) (T' := [some ⟨.ints .u8 zs, g, false, 5⟩, some ⟨.ints .u8 is, gi, false, 5⟩, some ⟨.ints .i64 [m], 0, true, 3⟩, some ⟨.agg [.slice 1 7 (i + 1) 0 (32 * (i + 2)) none], 0, true, 22⟩, some ⟨.agg [.slice 1 0 g off n cp], 0, true, 22⟩, some ⟨.agg [.slice 1 1 gi oi ni ci], 0, true, 22⟩, some ⟨.ints .u8 (tLaw (subLaw zs off n) (subLaw is oi ni) (i + 2)), 31, true, 5⟩, some ⟨.ints .u8 (outLaw (subLaw zs off n) (subLaw is oi ni) (i + 2)), (i + 1), true, 5⟩]) eX_ok hmS (Nat.le_refl 8) OrcOk.nil rfl (Rbs2_ok ?_) Rbs2_ex Rbs2_fm ?_)) hamb1 ⟨by decide, [], Yns zs g off n cp m is gi oi ni ci (((i + 1 + 1 : Nat) : Int) % 256) (tLaw (subLaw zs off n) (subLaw is oi ni) (i + 2)) (outLaw (subLaw zs off n) (subLaw is oi ni) (i + 2)) (i + 1) (32 * (i + 2)) l, by rw [Yps2_fm]; rfl, Yns_ok trivial, ?_⟩
    · simp only [allP, Con.h, addO_eq, t_len, out_len, decide_eq_false_iff_not, Nat.zero_add, Nat.le_refl, eq_self, true_and, and_true]
      omega
    · rw [Rbs2_tab]
      rw [show 32 * (i + 2) = 32 * (i + 1) + 32 by omega]
      simp only [addO_eq, take_t, take_out]
      simp only [outLaw, List.nil_append]
    rw [Yns_fm, Yns_tab]
    refine YWp.ofTo (To.base (by decide) (To.of (o := Cns zs g off n cp m is gi oi ni ci (((i + 1 + 1 : Nat) : Int) % 256) (tLaw (subLaw zs off n) (subLaw is oi ni) (i + 2)) (outLaw (subLaw zs off n) (subLaw is oi ni) (i + 2)) (i + 1) (32 * (i + 2)) l) eX_ok hmS (Nat.le_refl 8) OrcOk.nil rfl (Cns_ok trivial) Cns_ex Cns_fm Cns_tab)) hamb ?_
    refine YWp.ofTo (To.base (by decide) (To.of (o := R3s zs g off n cp m is gi oi ni ci (((i + 1 + 1 : Nat) : Int) % 256) (tLaw (subLaw zs off n) (subLaw is oi ni) (i + 2)) (outLaw (subLaw zs off n) (subLaw is oi ni) (i + 2)) (i + 1) (32 * (i + 2)) l) eX_ok hmS (Nat.le_refl 8) OrcOk.nil rfl (R3s_ok trivial) R3s_ex R3s_fm R3s_tab)) hamb ?_
    show (if 32 * ((i + 1 : Nat) : Int) < m then _ else _)
    rw [if_pos hm]
    refine ⟨rfl, ?_, rfl, rfl⟩
    unfold Fcs tvs
    rw [show ((((i + 1 + 1 : Nat) : Int) % 256) + 1) % 256 = ((i + 1 + 1 + 1 : Nat) : Int) % 256 by omega]
  · refine YWp.ofTo (To.base (by decide) (To.of (o := Rxs2 zs g off n cp m is gi oi ni ci (tLaw (subLaw zs off n) (subLaw is oi ni) (i + 2)) (outLaw (subLaw zs off n) (subLaw is oi ni) (i + 1)) i (32 * (i + 1))) eX_ok hmS (Nat.le_refl 8) OrcOk.nil rfl (Rxs2_ok ?_) Rxs2_ex Rxs2_fm Rxs2_tab)) hamb1 ⟨by decide, [], Ye2s zs g off n cp m is gi oi ni ci (((i + 1 + 1 : Nat) : Int) % 256) (tLaw (subLaw zs off n) (subLaw is oi ni) (i + 2)) (outLaw (subLaw zs off n) (subLaw is oi ni) (i + 1)) i (32 * (i + 1)) l, by rw [Yps2_fm]; rfl, Ye2s_ok trivial, ?_⟩
    · simp only [allP, Con.h, decide_eq_true_eq, Nat.le_refl, eq_self, true_and, and_true]
      omega
    rw [Ye2s_fm, Ye2s_tab]
    refine YWp.ofTo (To.base (by decide) (To.of (o := Ces2 zs g off n cp m is gi oi ni ci (((i + 1 + 1 : Nat) : Int) % 256) (tLaw (subLaw zs off n) (subLaw is oi ni) (i + 2)) (outLaw (subLaw zs off n) (subLaw is oi ni) (i + 1)) i (32 * (i + 1)) l) eX_ok hmS (Nat.le_refl 8) OrcOk.nil rfl (Ces2_ok trivial) Ces2_ex Ces2_fm Ces2_tab)) hamb ?_
    show (if 32 * ((i + 1 : Nat) : Int) < m then _ else _)
    rw [if_neg hm]
    exact ⟨rfl, rfl, rfl⟩
/-! info n -/
def tvn : Nat → AVal
  | 0 => .nilSlice
  | _ + 1 => .slice 1 5 31 0 32 none
def TTn (zs : List Int) (g off n : Nat) (cp : Option Nat) (m : Int) : Nat → Tab
  | 0 => [some ⟨.ints .u8 zs, g, false, 5⟩, some ⟨.ints .i64 [m], 0, true, 3⟩, some ⟨.agg [.nilSlice], 0, true, 22⟩, some ⟨.agg [.slice 1 0 g off n cp], 0, true, 22⟩, some ⟨.agg [.nilSlice], 0, true, 22⟩]
  | i + 1 => [some ⟨.ints .u8 zs, g, false, 5⟩, some ⟨.ints .i64 [m], 0, true, 3⟩, some ⟨.agg [.slice 1 6 i 0 (32 * (i + 1)) none], 0, true, 22⟩, some ⟨.agg [.slice 1 0 g off n cp], 0, true, 22⟩, some ⟨.agg [.nilSlice], 0, true, 22⟩, some ⟨.ints .u8 (tLaw (subLaw zs off n) [] (i + 1)), 31, true, 5⟩, some ⟨.ints .u8 (outLaw (subLaw zs off n) [] (i + 1)), i, true, 5⟩]
def TFn (zs : List Int) (g off n : Nat) (cp : Option Nat) (m : Int) : Nat → Tab
  | 0 => [some ⟨.ints .u8 zs, g, false, 5⟩, some ⟨.ints .i64 [m], 0, true, 3⟩, some ⟨.agg [.nilSlice], 0, true, 22⟩, some ⟨.agg [.slice 1 0 g off n cp], 0, true, 22⟩, some ⟨.agg [.nilSlice], 0, true, 22⟩, some ⟨.ints .u8 (tLaw (subLaw zs off n) [] (1)), 31, true, 5⟩]
  | i + 1 => [some ⟨.ints .u8 zs, g, false, 5⟩, some ⟨.ints .i64 [m], 0, true, 3⟩, some ⟨.agg [.slice 1 6 i 0 (32 * (i + 1)) none], 0, true, 22⟩, some ⟨.agg [.slice 1 0 g off n cp], 0, true, 22⟩, some ⟨.agg [.nilSlice], 0, true, 22⟩, some ⟨.ints .u8 (tLaw (subLaw zs off n) [] (i + 2)), 31, true, 5⟩, some ⟨.ints .u8 (outLaw (subLaw zs off n) [] (i + 1)), i, true, 5⟩]
def Fcn (l i : Nat) : Fm := [(0, .func (.yield l) [] []), (1, .var 3 0), (2, .var 4 0), (4, tvn i), (5, .int .u8 (((i + 1 : Nat) : Int) % 256))]
noncomputable def Hsn : Host := ⟨#[19], as27, bd27, [(5, .var 1 0), (8, .var 2 0), (18, .func (.func 53) [] [.var 3 0, .var 4 0])], 30⟩
structure Exn (zs : List Int) (g off n : Nat) (cp : Option Nat) (m : Int) : Prop where
  h1 : off + n ≤ zs.length
  h2 : n ≤ 140737488355000
  h3 : BsLaw zs
  h4 : capLaw n cp
  m0 : 0 ≤ m
  m1 : m ≤ 8160
theorem rndn0 {zs : List Int} {g off n : Nat} {cp : Option Nat} {m : Int} (h : Exn zs g off n cp m) (l : Nat) :
    YWp eX 21 5 [(l, Hsn)] (roundOf 0 f53) (Fcn l 0) (TTn zs g off n cp m 0) [(.ready, none)] fun ex fm T' σ' => if 32 * ((0 : Nat) : Int) < m then ex = .normal ∧ fm = Fcn l (0 + 1) ∧ T' = TTn zs g off n cp m (0 + 1) ∧ σ' = [(.ready, none)] else ex = .ret ∧ T' = TFn zs g off n cp m 0 ∧ σ' = [(.done, some (.exit 0))] := by
  have hamb : ambIn 5 [(l, Hsn)] := ambIn_one rfl
  have hamb1 : ambIn 6 [(l, Hsn)] := ambIn_one rfl
  have m0 := h.m0
  have m1 := h.m1
  have e1 := t_len (subLaw zs off n) [] (0)
  have e2 := t_bs (subLaw zs off n) [] (0 + 1)
  have e2' := t_bs (subLaw zs off n) [] (0)
  have e3 := out_len (subLaw zs off n) [] (0)
  have hx1 : BsLaw [((((0 : Nat) + 1 : Nat) : Int) % 256)] := .cons ⟨by omega, by omega⟩ .nil
  rw [split53]
  refine YWp.seq (YWp.ofTo (To.base (by decide) (To.of (o := Hdn0 zs g off n cp m ((((0 : Nat) + 1 : Nat) : Int) % 256) l) eX_ok hmS (Nat.le_refl 5) OrcOk.nil rfl (Hdn0_ok (by simp only [allP, Con.h, bne_iff_ne, and_true]; omega)) Hdn0_ex Hdn0_fm Hdn0_tab)) hamb ?_)
  refine YWp.seq (YWp.block (YWp.seq (YWp.ofTo (To.ofG (o := R4an zs g off n cp m ((((0 : Nat) + 1 : Nat) : Int) % 256) l) (fm' := [(0, .func (.yield l) [] []), (1, .var 3 0), (2, .var 4 0), (4, .slice 1 5 31 0 32 none), (5, .int .u8 ((((0 : Nat) + 1 : Nat) : Int) % 256))]) (T' := [some ⟨.ints .u8 zs, g, false, 5⟩, some ⟨.ints .i64 [m], 0, true, 3⟩, some ⟨.agg [.nilSlice], 0, true, 22⟩, some ⟨.agg [.slice 1 0 g off n cp], 0, true, 22⟩, some ⟨.agg [.nilSlice], 0, true, 22⟩, some ⟨.ints .u8 (tLaw (subLaw zs off n) [] (1)), 31, true, 5⟩]) eX_ok hmS (Nat.le_refl 5) OrcOk.nil rfl (R4an_ok ?_) R4an_ex R4an_fm ?_) hamb ?_)))
  · simp only [allP, Con.h, hx1, t_len, t_bs, Nat.le_refl, h.h1, h.h2, h.h3, h.h4, eq_self, true_and, and_true]
    try (have := h.j2; omega)
  · rw [R4an_tab, show ((((0 : Nat) + 1 : Nat) : Int) % 256) = ((0 + 1 : Nat) : Int) by omega]
    skip
    simp only [sub_one, tLaw, List.nil_append, List.append_nil]
  refine YWp.seq (YWp.yieldRegion eX_ok (l1 := ops5.toList.take 2) (l2 := ops5.toList.drop 3) (oy := ops5.toList.getD 2 default) (by kernel_rfl) (ds1 := []) (o1 := Ypn1 zs g off n cp m ((((0 : Nat) + 1 : Nat) : Int) % 256) (tLaw (subLaw zs off n) [] (1)) l) (by kernel_rfl) (Ypn1_ok trivial) (f := .tmp 17) (x := .tmp 18) (t := 19) (c := theCall (ops5.toList.getD 2 default)) (by kernel_rfl) (by kernel_rfl) (by kernel_rfl) (by kernel_rfl) (by kernel_rfl) (by decide) (i := 0) (l := l) (H := Hsn) (by rw [Ypn1_fm]; rfl) (v := .slice 1 5 31 0 32 none) (by rw [Ypn1_fm]; rfl) rfl rfl (p := 19) rfl (by decide) (kk := 6) (by decide) (by rw [Ypn1_fm]; exact fmIn_of rfl) hamb ?_)
  rw [Ypn1_tab]
  refine YWp.ofTo (To.base (by decide) (To.of (o := Ran1 zs g off n cp m (tLaw (subLaw zs off n) [] (1))) eX_ok hmS (Nat.le_refl 6) OrcOk.nil rfl (Ran1_ok trivial) Ran1_ex Ran1_fm Ran1_tab)) hamb1 ⟨rfl, rfl, ?_⟩
  by_cases hm : 32 * ((0 : Nat) : Int) < m
  · refine YWp.ofTo (To.base (by decide) (To.of (o := Rbn1 zs g off n cp m (tLaw (subLaw zs off n) [] (1))) (fm' := [(5, .var 1 0)]) (T' := [some ⟨.ints .u8 zs, g, false, 5⟩, some ⟨.ints .i64 [m], 0, true, 3⟩, some ⟨.agg [.slice 1 6 0 0 32 none], 0, true, 22⟩, some ⟨.agg [.slice 1 0 g off n cp], 0, true, 22⟩, some ⟨.agg [.nilSlice], 0, true, 22⟩, some ⟨.ints .u8 (tLaw (subLaw zs off n) [] (1)), 31, true, 5⟩, some ⟨.ints .u8 (outLaw (subLaw zs off n) [] (1)), 0, true, 5⟩]) eX_ok hmS (Nat.le_refl 6) OrcOk.nil rfl (Rbn1_ok ?_) Rbn1_ex Rbn1_fm ?_)) hamb1 ⟨by decide, [], Ynn zs g off n cp m ((((0 : Nat) + 1 : Nat) : Int) % 256) (tLaw (subLaw zs off n) [] (1)) (outLaw (subLaw zs off n) [] (1)) 0 32 l, by rw [Ypn1_fm]; rfl, Ynn_ok trivial, ?_⟩
    · simp only [allP, Con.h, addO_eq, t_len, out_len, decide_eq_false_iff_not, Nat.zero_add, Nat.le_refl, eq_self, true_and, and_true]
      omega
    · rw [Rbn1_tab]
      
      simp only [take_t]
      simp only [outLaw, List.nil_append]
    rw [Ynn_fm, Ynn_tab]
    refine YWp.ofTo (To.base (by decide) (To.of (o := Cnn zs g off n cp m ((((0 : Nat) + 1 : Nat) : Int) % 256) (tLaw (subLaw zs off n) [] (1)) (outLaw (subLaw zs off n) [] (1)) 0 32 l) eX_ok hmS (Nat.le_refl 7) OrcOk.nil rfl (Cnn_ok trivial) Cnn_ex Cnn_fm Cnn_tab)) hamb ?_
    refine YWp.ofTo (To.base (by decide) (To.of (o := R3n zs g off n cp m ((((0 : Nat) + 1 : Nat) : Int) % 256) (tLaw (subLaw zs off n) [] (1)) (outLaw (subLaw zs off n) [] (1)) 0 32 l) eX_ok hmS (Nat.le_refl 7) OrcOk.nil rfl (R3n_ok trivial) R3n_ex R3n_fm R3n_tab)) hamb ?_
    show (if 32 * ((0 : Nat) : Int) < m then _ else _)
    rw [if_pos hm]
    refine ⟨rfl, ?_, rfl, rfl⟩
    unfold Fcn tvn
    rw [show (((((0 : Nat) + 1 : Nat) : Int) % 256) + 1) % 256 = ((0 + 1 + 1 : Nat) : Int) % 256 by omega]
  · refine YWp.ofTo (To.base (by decide) (To.of (o := Rxn1 zs g off n cp m (tLaw (subLaw zs off n) [] (1))) eX_ok hmS (Nat.le_refl 6) OrcOk.nil rfl (Rxn1_ok ?_) Rxn1_ex Rxn1_fm Rxn1_tab)) hamb1 ⟨by decide, [], Ye1n zs g off n cp m ((((0 : Nat) + 1 : Nat) : Int) % 256) (tLaw (subLaw zs off n) [] (1)) l, by rw [Ypn1_fm]; rfl, Ye1n_ok trivial, ?_⟩
    · simp only [allP, Con.h, decide_eq_true_eq, Nat.le_refl, eq_self, true_and, and_true]
      omega
    rw [Ye1n_fm, Ye1n_tab]
    refine YWp.ofTo (To.base (by decide) (To.of (o := Cen1 zs g off n cp m ((((0 : Nat) + 1 : Nat) : Int) % 256) (tLaw (subLaw zs off n) [] (1)) l) eX_ok hmS (Nat.le_refl 6) OrcOk.nil rfl (Cen1_ok trivial) Cen1_ex Cen1_fm Cen1_tab)) hamb ?_
    show (if 32 * ((0 : Nat) : Int) < m then _ else _)
    rw [if_neg hm]
    exact ⟨rfl, rfl, rfl⟩
theorem rndn1 {zs : List Int} {g off n : Nat} {cp : Option Nat} {m : Int} (h : Exn zs g off n cp m) (l : Nat) {i : Nat} (hi : i + 1 < 255) :
    YWp eX 21 5 [(l, Hsn)] (roundOf 0 f53) (Fcn l (i + 1)) (TTn zs g off n cp m (i + 1)) [(.ready, none)] fun ex fm T' σ' => if 32 * ((i + 1 : Nat) : Int) < m then ex = .normal ∧ fm = Fcn l (i + 1 + 1) ∧ T' = TTn zs g off n cp m (i + 1 + 1) ∧ σ' = [(.ready, none)] else ex = .ret ∧ T' = TFn zs g off n cp m (i + 1) ∧ σ' = [(.done, some (.exit 0))] := by
  have hamb : ambIn 5 [(l, Hsn)] := ambIn_one rfl
  have hamb1 : ambIn 6 [(l, Hsn)] := ambIn_one rfl
  have m0 := h.m0
  have m1 := h.m1
  have e1 := t_len (subLaw zs off n) [] (i + 1)
  have e2 := t_bs (subLaw zs off n) [] (i + 1 + 1)
  have e2' := t_bs (subLaw zs off n) [] (i + 1)
  have e3 := out_len (subLaw zs off n) [] (i + 1)
  have hx1 : BsLaw [(((i + 1 + 1 : Nat) : Int) % 256)] := .cons ⟨by omega, by omega⟩ .nil
  rw [split53]
  refine YWp.seq (YWp.ofTo (To.base (by decide) (To.of (o := Hdn1 zs g off n cp m (((i + 1 + 1 : Nat) : Int) % 256) (tLaw (subLaw zs off n) [] (i + 1)) (outLaw (subLaw zs off n) [] (i + 1)) i (32 * (i + 1)) l) eX_ok hmS (Nat.le_refl 7) OrcOk.nil rfl (Hdn1_ok (by simp only [allP, Con.h, bne_iff_ne, and_true]; omega)) Hdn1_ex Hdn1_fm Hdn1_tab)) hamb ?_)
  refine YWp.seq (YWp.block (YWp.seq (YWp.ofTo (To.ofG (o := R4bn zs g off n cp m (((i + 1 + 1 : Nat) : Int) % 256) (tLaw (subLaw zs off n) [] (i + 1)) (outLaw (subLaw zs off n) [] (i + 1)) i (32 * (i + 1)) l) (fm' := [(0, .func (.yield l) [] []), (1, .var 3 0), (2, .var 4 0), (4, .slice 1 5 31 0 32 none), (5, .int .u8 (((i + 1 + 1 : Nat) : Int) % 256))]) (T' := [some ⟨.ints .u8 zs, g, false, 5⟩, some ⟨.ints .i64 [m], 0, true, 3⟩, some ⟨.agg [.slice 1 6 i 0 (32 * (i + 1)) none], 0, true, 22⟩, some ⟨.agg [.slice 1 0 g off n cp], 0, true, 22⟩, some ⟨.agg [.nilSlice], 0, true, 22⟩, some ⟨.ints .u8 (tLaw (subLaw zs off n) [] (i + 2)), 31, true, 5⟩, some ⟨.ints .u8 (outLaw (subLaw zs off n) [] (i + 1)), i, true, 5⟩]) eX_ok hmS (Nat.le_refl 5) OrcOk.nil rfl (R4bn_ok ?_) R4bn_ex R4bn_fm ?_) hamb ?_)))
  · simp only [allP, Con.h, hx1, t_len, t_bs, Nat.le_refl, h.h1, h.h2, h.h3, h.h4, eq_self, true_and, and_true]
    try (have := h.j2; omega)
  · rw [R4bn_tab, show (((i + 1 + 1 : Nat) : Int) % 256) = ((i + 1 + 1 : Nat) : Int) by omega]
    simp only [sub_one, sub_t]
    simp only [sub_one, tLaw, List.nil_append, List.append_nil]
  refine YWp.seq (YWp.yieldRegion eX_ok (l1 := ops5.toList.take 2) (l2 := ops5.toList.drop 3) (oy := ops5.toList.getD 2 default) (by kernel_rfl) (ds1 := []) (o1 := Ypn2 zs g off n cp m (((i + 1 + 1 : Nat) : Int) % 256) (tLaw (subLaw zs off n) [] (i + 2)) (outLaw (subLaw zs off n) [] (i + 1)) i (32 * (i + 1)) l) (by kernel_rfl) (Ypn2_ok trivial) (f := .tmp 17) (x := .tmp 18) (t := 19) (c := theCall (ops5.toList.getD 2 default)) (by kernel_rfl) (by kernel_rfl) (by kernel_rfl) (by kernel_rfl) (by kernel_rfl) (by decide) (i := 0) (l := l) (H := Hsn) (by rw [Ypn2_fm]; rfl) (v := .slice 1 5 31 0 32 none) (by rw [Ypn2_fm]; rfl) rfl rfl (p := 19) rfl (by decide) (kk := 6) (by decide) (by rw [Ypn2_fm]; exact fmIn_of rfl) hamb ?_)
  rw [Ypn2_tab]
  refine YWp.ofTo (To.base (by decide) (To.of (o := Ran2 zs g off n cp m (tLaw (subLaw zs off n) [] (i + 2)) (outLaw (subLaw zs off n) [] (i + 1)) i (32 * (i + 1))) eX_ok hmS (Nat.le_refl 7) OrcOk.nil rfl (Ran2_ok trivial) Ran2_ex Ran2_fm Ran2_tab)) hamb1 ⟨rfl, rfl, ?_⟩
  by_cases hm : 32 * ((i + 1 : Nat) : Int) < m
  · refine YWp.ofTo (To.base (by decide) (To.of (o := Rbn2 zs g off n cp m (tLaw (subLaw zs off n) [] (i + 2)) (outLaw (subLaw zs off n) [] (i + 1)) i (32 * (i + 1))) (fm' := [(5, .var 1 0)]) (T' := [some ⟨.ints .u8 zs, g, false, 5⟩, some ⟨.ints .i64 [m], 0, true, 3⟩, some ⟨.agg [.slice 1 6 (i + 1) 0 (32 * (i + 2)) none], 0, true, 22⟩, some ⟨.agg [.slice 1 0 g off n cp], 0, true, 22⟩, some ⟨.agg [.nilSlice], 0, true, 22⟩, some ⟨.ints .u8 (tLaw (subLaw zs off n) [] (i + 2)), 31, true, 5⟩, some ⟨.ints .u8 (outLaw (subLaw zs off n) [] (i + 2)), (i + 1), true, 5⟩]) eX_ok hmS (Nat.le_refl 7) OrcOk.nil rfl (Rbn2_ok ?_) Rbn2_ex Rbn2_fm ?_)) hamb1 ⟨by decide, [], Ynn zs g off n cp m (((i + 1 + 1 : Nat) : Int) % 256) (tLaw (subLaw zs off n) [] (i + 2)) (outLaw (subLaw zs off n) [] (i + 2)) (i + 1) (32 * (i + 2)) l, by rw [Ypn2_fm]; rfl, Ynn_ok trivial, ?_⟩
    · simp only [allP, Con.h, addO_eq, t_len, out_len, decide_eq_false_iff_not, Nat.zero_add, Nat.le_refl, eq_self, true_and, and_true]
      omega
    · rw [Rbn2_tab]
      rw [show 32 * (i + 2) = 32 * (i + 1) + 32 by omega]
      simp only [addO_eq, take_t, take_out]
      simp only [outLaw, List.nil_append]
    rw [Ynn_fm, Ynn_tab]
    refine YWp.ofTo (To.base (by decide) (To.of (o := Cnn zs g off n cp m (((i + 1 + 1 : Nat) : Int) % 256) (tLaw (subLaw zs off n) [] (i + 2)) (outLaw (subLaw zs off n) [] (i + 2)) (i + 1) (32 * (i + 2)) l) eX_ok hmS (Nat.le_refl 7) OrcOk.nil rfl (Cnn_ok trivial) Cnn_ex Cnn_fm Cnn_tab)) hamb ?_
    refine YWp.ofTo (To.base (by decide) (To.of (o := R3n zs g off n cp m (((i + 1 + 1 : Nat) : Int) % 256) (tLaw (subLaw zs off n) [] (i + 2)) (outLaw (subLaw zs off n) [] (i + 2)) (i + 1) (32 * (i + 2)) l) eX_ok hmS (Nat.le_refl 7) OrcOk.nil rfl (R3n_ok trivial) R3n_ex R3n_fm R3n_tab)) hamb ?_
    show (if 32 * ((i + 1 : Nat) : Int) < m then _ else _)
    rw [if_pos hm]
    refine ⟨rfl, ?_, rfl, rfl⟩
    unfold Fcn tvn
    rw [show ((((i + 1 + 1 : Nat) : Int) % 256) + 1) % 256 = ((i + 1 + 1 + 1 : Nat) : Int) % 256 by omega]
  · refine YWp.ofTo (To.base (by decide) (To.of (o := Rxn2 zs g off n cp m (tLaw (subLaw zs off n) [] (i + 2)) (outLaw (subLaw zs off n) [] (i + 1)) i (32 * (i + 1))) eX_ok hmS (Nat.le_refl 7) OrcOk.nil rfl (Rxn2_ok ?_) Rxn2_ex Rxn2_fm Rxn2_tab)) hamb1 ⟨by decide, [], Ye2n zs g off n cp m (((i + 1 + 1 : Nat) : Int) % 256) (tLaw (subLaw zs off n) [] (i + 2)) (outLaw (subLaw zs off n) [] (i + 1)) i (32 * (i + 1)) l, by rw [Ypn2_fm]; rfl, Ye2n_ok trivial, ?_⟩
    · simp only [allP, Con.h, decide_eq_true_eq, Nat.le_refl, eq_self, true_and, and_true]
      omega
    rw [Ye2n_fm, Ye2n_tab]
    refine YWp.ofTo (To.base (by decide) (To.of (o := Cen2 zs g off n cp m (((i + 1 + 1 : Nat) : Int) % 256) (tLaw (subLaw zs off n) [] (i + 2)) (outLaw (subLaw zs off n) [] (i + 1)) i (32 * (i + 1)) l) eX_ok hmS (Nat.le_refl 7) OrcOk.nil rfl (Cen2_ok trivial) Cen2_ex Cen2_fm Cen2_tab)) hamb ?_
    show (if 32 * ((i + 1 : Nat) : Int) < m then _ else _)
    rw [if_neg hm]
    exact ⟨rfl, rfl, rfl⟩
end Go.Abs

set_option linter.unusedVariables false
set_option linter.unusedSimpArgs false
set_option maxRecDepth 8000
set_option maxHeartbeats 4000000
namespace Go.Abs
open Go.Proofs Go.Proofs.Tryd
/-! ### Expand: the loop over the pieces -/
def rLaw (m : Int) : Nat := ((m + 31) / 32).toNat
def upLaw (r : Nat) : Nat := if r < 255 then r + 1 else 255
theorem splitb53 : bodyOf f53 = .seq (fstC (bodyOf f53)) (.seq (fstC (sndC (bodyOf f53))) (.block 0 (.loop (roundOf 0 f53)))) := by kernel_rfl
theorem rf27_eq : rf27 = .rangeFunc (.tmp 18) #[19] as27 bd27 := by kernel_rfl
theorem res53 : f53.results.toList = [] := by kernel_rfl
/-! info s -/
noncomputable def Rss1 (zs : List Int) (g off n : Nat) (cp : Option Nat) (m : Int) (is : List Int) (gi oi ni : Nat) (ci : Option Nat) (l : Nat) : Out := trim 6 6 [0,1,2,4] (run eX 21 ⟨6, []⟩ 400 (fstC (bodyOf f53)) (argF [.func (.yield l) [] [], .var 4 0, .var 5 0] 0) [some ⟨.ints .u8 zs, g, false, 5⟩, some ⟨.ints .u8 is, gi, false, 5⟩, some ⟨.ints .i64 [m], 0, true, 3⟩, some ⟨.agg [.nilSlice], 0, true, 22⟩, some ⟨.agg [.slice 1 0 g off n cp], 0, true, 22⟩, some ⟨.agg [.slice 1 1 gi oi ni ci], 0, true, 22⟩] [])
theorem Rss1_ok {zs : List Int} {g off n : Nat} {cp : Option Nat} {m : Int} {is : List Int} {gi oi ni : Nat} {ci : Option Nat} {l : Nat} (h : allP []) : Ok (Rss1 zs g off n cp m is gi oi ni ci l) := Ok.dem (fl := []) (by kernel_rfl) (by kernel_rfl) (by kernel_rfl) h
theorem Rss1_ex {zs : List Int} {g off n : Nat} {cp : Option Nat} {m : Int} {is : List Int} {gi oi ni : Nat} {ci : Option Nat} {l : Nat} : (Rss1 zs g off n cp m is gi oi ni ci l).ex = .normal := by kernel_rfl
theorem Rss1_fm {zs : List Int} {g off n : Nat} {cp : Option Nat} {m : Int} {is : List Int} {gi oi ni : Nat} {ci : Option Nat} {l : Nat} : (Rss1 zs g off n cp m is gi oi ni ci l).fm = [(0, .func (Fn.yield l) [] []), (1, .var 4 0), (2, .var 5 0), (4, .nilSlice)] := by kernel_rfl
theorem Rss1_tab {zs : List Int} {g off n : Nat} {cp : Option Nat} {m : Int} {is : List Int} {gi oi ni : Nat} {ci : Option Nat} {l : Nat} : (Rss1 zs g off n cp m is gi oi ni ci l).tab = [some ⟨.ints .u8 zs, g, false, 5⟩, some ⟨.ints .u8 is, gi, false, 5⟩, some ⟨.ints .i64 [m], 0, true, 3⟩, some ⟨.agg [.nilSlice], 0, true, 22⟩, some ⟨.agg [.slice 1 0 g off n cp], 0, true, 22⟩, some ⟨.agg [.slice 1 1
 gi oi ni ci], 0, true, 22⟩] := by kernel_rfl
noncomputable def Rss2 (zs : List Int) (g off n : Nat) (cp : Option Nat) (m : Int) (is : List Int) (gi oi ni : Nat) (ci : Option Nat) (l : Nat) : Out := trim 6 6 [0,1,2,4,5] (run eX 21 ⟨6, []⟩ 400 (fstC (sndC (bodyOf f53))) [(0, .func (.yield l) [] []), (1, .var 4 0), (2, .var 5 0), (4, .nilSlice)] [some ⟨.ints .u8 zs, g, false, 5⟩, some ⟨.ints .u8 is, gi, false, 5⟩, some ⟨.ints .i64 [m], 0, true, 3⟩, some ⟨.agg [.nilSlice], 0, true, 22⟩, some ⟨.agg [.slice 1 0 g off n cp], 0, true, 22⟩, some ⟨.agg [.slice 1 1 gi oi ni ci], 0, true, 22⟩] [])
theorem Rss2_ok {zs : List Int} {g off n : Nat} {cp : Option Nat} {m : Int} {is : List Int} {gi oi ni : Nat} {ci : Option Nat} {l : Nat} (h : allP []) : Ok (Rss2 zs g off n cp m is gi oi ni ci l) := Ok.dem (fl := []) (by kernel_rfl) (by kernel_rfl) (by kernel_rfl) h
theorem Rss2_ex {zs : List Int} {g off n : Nat} {cp : Option Nat} {m : Int} {is : List Int} {gi oi ni : Nat} {ci : Option Nat} {l : Nat} : (Rss2 zs g off n cp m is gi oi ni ci l).ex = .normal := by kernel_rfl
theorem Rss2_fm {zs : List Int} {g off n : Nat} {cp : Option Nat} {m : Int} {is : List Int} {gi oi ni : Nat} {ci : Option Nat} {l : Nat} : (Rss2 zs g off n cp m is gi oi ni ci l).fm = [(0, .func (Fn.yield l) [] []), (1, .var 4 0), (2, .var 5 0), (4, .nilSlice), (5, .int .u8 1)] := by kernel_rfl
theorem Rss2_tab {zs : List Int} {g off n : Nat} {cp : Option Nat} {m : Int} {is : List Int} {gi oi ni : Nat} {ci : Option Nat} {l : Nat} : (Rss2 zs g off n cp m is gi oi ni ci l).tab = [some ⟨.ints .u8 zs, g, false, 5⟩, some ⟨.ints .u8 is, gi, false, 5⟩, some ⟨.ints .i64 [m], 0, true, 3⟩, some ⟨.agg [.nilSlice], 0, true, 22⟩, some ⟨.agg [.slice 1 0 g off n cp], 0, true, 22⟩, some ⟨.agg [.slice 1 1
 gi oi ni ci], 0, true, 22⟩] := by kernel_rfl
def TEs (zs : List Int) (g off n : Nat) (cp : Option Nat) (m : Int) (is : List Int) (gi oi ni : Nat) (ci : Option Nat) : Tab := if m ≤ 0 then TFs zs g off n cp m is gi oi ni ci 0 else [some ⟨.ints .u8 zs, g, false, 5⟩, some ⟨.ints .u8 is, gi, false, 5⟩, some ⟨.ints .i64 [m], 0, true, 3⟩, some ⟨.agg [.slice 1 7 (rLaw m - 1) 0 (32 * rLaw m) none], 0, true, 22⟩, some ⟨.agg [.slice 1 0 g off n cp], 0, true, 22⟩, some ⟨.agg [.slice 1 1 gi oi ni ci], 0, true, 22⟩, some ⟨.ints .u8 (tLaw (subLaw zs off n) (subLaw is oi ni) (upLaw (rLaw m))), 31, true, 5⟩, some ⟨.ints .u8 (outLaw (subLaw zs off n) (subLaw is oi ni) (rLaw m)), (rLaw m - 1), true, 5⟩]
theorem te0s {zs : List Int} {g off n : Nat} {cp : Option Nat} {m : Int} {is : List Int} {gi oi ni : Nat} {ci : Option Nat} (h : m ≤ 0) : TFs zs g off n cp m is gi oi ni ci 0 = TEs zs g off n cp m is gi oi ni ci := by unfold TEs; rw [if_pos h]
theorem tefs {zs : List Int} {g off n : Nat} {cp : Option Nat} {m : Int} {is : List Int} {gi oi ni : Nat} {ci : Option Nat} {i : Nat} (hi : i + 1 < 255) (h1 : 32 * (i : Int) < m) (h2 : ¬ 32 * ((i + 1 : Nat) : Int) < m) : TFs zs g off n cp m is gi oi ni ci (i + 1) = TEs zs g off n cp m is gi oi ni ci := by
  have hr : rLaw m = i + 1 := by unfold rLaw; omega
  unfold TEs upLaw
  rw [if_neg (by omega), hr, if_pos hi]
  rfl
theorem tets {zs : List Int} {g off n : Nat} {cp : Option Nat} {m : Int} {is : List Int} {gi oi ni : Nat} {ci : Option Nat} (h1 : 32 * ((254 : Nat) : Int) < m) (h2 : m ≤ 8160) : TTs zs g off n cp m is gi oi ni ci 255 = TEs zs g off n cp m is gi oi ni ci := by
  have hr : rLaw m = 255 := by unfold rLaw; omega
  unfold TEs upLaw
  rw [if_neg (by omega), hr, if_neg (by decide)]
  rfl
theorem rnds {zs : List Int} {g off n : Nat} {cp : Option Nat} {m : Int} {is : List Int} {gi oi ni : Nat} {ci : Option Nat} (h : Exs zs g off n cp m is gi oi ni ci) (l : Nat) : ∀ (i : Nat), i < 255 → YWp eX 21 6 [(l, Hss)] (roundOf 0 f53) (Fcs l i) (TTs zs g off n cp m is gi oi ni ci i) [(.ready, none)] fun ex fm T' σ' => if 32 * (i : Int) < m then ex = .normal ∧ fm = Fcs l (i + 1) ∧ T' = TTs zs g off n cp m is gi oi ni ci (i + 1) ∧ σ' = [(.ready, none)] else ex = .ret ∧ T' = TFs zs g off n cp m is gi oi ni ci i ∧ σ' = [(.done, some (.exit 0))]
  | 0, _ => rnds0 h l
  | i + 1, hi => rnds1 h l hi
theorem callees {zs : List Int} {g off n : Nat} {cp : Option Nat} {m : Int} {is : List Int} {gi oi ni : Nat} {ci : Option Nat} (h : Exs zs g off n cp m is gi oi ni ci) (l : Nat) : YWp eX 21 6 [(l, Hss)] (bodyOf f53) (argF ([] ++ (.func (.yield l) [] [] :: [.var 4 0, .var 5 0])) 0) (TTs zs g off n cp m is gi oi ni ci 0) [(.ready, none)] fun ex fm' T' σ' =>
    (ex = .normal ∨ ex = .ret) ∧ (∃ cs us, aRes eX fm' T' f53.results.toList = some (cs, us) ∧ allP cs) ∧ ∃ st σ2, σ' = st :: σ2 ∧ st.1 ≠ .busy ∧
      match st.2 with
      | none => (AExit.normal = .normal ∨ AExit.normal = .exit 0) ∧ [(5, .var 2 0), (8, .var 3 0), (18, .func (.func 53) [] [.var 4 0, .var 5 0])] = Hss.fm ∧ T' = TEs zs g off n cp m is gi oi ni ci
      | some (.exit id) => (AExit.exit id = .normal ∨ AExit.exit id = .exit 0) ∧ [(5, .var 2 0), (8, .var 3 0), (18, .func (.func 53) [] [.var 4 0, .var 5 0])] = Hss.fm ∧ T' = TEs zs g off n cp m is gi oi ni ci
      | some .ret => (AExit.ret = .normal ∨ AExit.ret = .exit 0) ∧ [(5, .var 2 0), (8, .var 3 0), (18, .func (.func 53) [] [.var 4 0, .var 5 0])] = Hss.fm ∧ T' = TEs zs g off n cp m is gi oi ni ci
      | _ => False := by
  have hamb : ambIn 6 [(l, Hss)] := ambIn_one rfl
  have m0 := h.m0
  have m1 := h.m1
  rw [splitb53, res53]
  refine YWp.seq (YWp.ofTo (To.of (o := Rss1 zs g off n cp m is gi oi ni ci l) eX_ok hmS (Nat.le_refl 6) OrcOk.nil rfl (Rss1_ok trivial) Rss1_ex Rss1_fm Rss1_tab) hamb ?_)
  refine YWp.seq (YWp.ofTo (To.of (o := Rss2 zs g off n cp m is gi oi ni ci l) eX_ok hmS (Nat.le_refl 6) OrcOk.nil rfl (Rss2_ok trivial) Rss2_ex Rss2_fm Rss2_tab) hamb ?_)
  refine YWp.block (YWp.loop (fun fm T σ μ => ∃ i, i ≤ 255 ∧ μ = 255 - i ∧ fm = Fcs l i ∧ T = TTs zs g off n cp m is gi oi ni ci i ∧ σ = [(.ready, none)] ∧ (0 < i → 32 * ((i - 1 : Nat) : Int) < m)) 255 ⟨0, Nat.zero_le _, rfl, rfl, rfl, rfl, fun h => by omega⟩ ?_)
  rintro fm T σ μ ⟨i, hi, rfl, rfl, rfl, rfl, hm⟩
  by_cases h255 : i < 255
  · refine YWp.mono (rnds h l i h255) fun ex fm T σ hP => ?_
    by_cases hlt : 32 * (i : Int) < m
    · rw [if_pos hlt] at hP
      obtain ⟨rfl, rfl, rfl, rfl⟩ := hP
      exact ⟨255 - (i + 1), by omega, i + 1, by omega, rfl, rfl, rfl, rfl, fun _ => by rw [Nat.add_sub_cancel]; exact hlt⟩
    · rw [if_neg hlt] at hP
      obtain ⟨rfl, rfl, rfl⟩ := hP
      refine ⟨.inr rfl, ⟨[], [], rfl, trivial⟩, (.done, some (.exit 0)), [], rfl, by decide, .inr rfl, rfl, ?_⟩
      cases i with
      | zero => exact te0s (by omega)
      | succ i => exact tefs h255 (by have := hm (by omega); simpa using this) hlt
  · obtain rfl : i = 255 := by omega
    have h254 := hm (by omega)
    rw [split53]
    refine YWp.seq (YWp.ofTo (To.base (by decide) (To.of (o := Hes zs g off n cp m is gi oi ni ci (((254 + 1 + 1 : Nat) : Int) % 256) (tLaw (subLaw zs off n) (subLaw is oi ni) (254 + 1)) (outLaw (subLaw zs off n) (subLaw is oi ni) (254 + 1)) 254 (32 * (254 + 1)) l) (T := TTs zs g off n cp m is gi oi ni ci 255) (fm := Fcs l 255) eX_ok hmS (Nat.le_refl 8) OrcOk.nil rfl (Hes_ok (by simp only [allP, Con.h, and_true]; decide)) Hes_ex Hes_fm Hes_tab)) hamb ?_)
    refine ⟨.inl rfl, ⟨[], [], rfl, trivial⟩, (.ready, none), [], rfl, by decide, .inl rfl, rfl, tets h254 m1⟩
theorem blk27s {zs : List Int} {g off n : Nat} {cp : Option Nat} {m : Int} {is : List Int} {gi oi ni : Nat} {ci : Option Nat} (h : Exs zs g off n cp m is gi oi ni ci) : To eX 30 6 (.block 0 rf27) [(5, .var 2 0), (8, .var 3 0), (18, .func (.func 53) [] [.var 4 0, .var 5 0])] [some ⟨.ints .u8 zs, g, false, 5⟩, some ⟨.ints .u8 is, gi, false, 5⟩, some ⟨.ints .i64 [m], 0, true, 3⟩, some ⟨.agg [.nilSlice], 0, true, 22⟩, some ⟨.agg [.slice 1 0 g off n cp], 0, true, 22⟩, some ⟨.agg [.slice 1 1 gi oi ni ci], 0, true, 22⟩] .normal [(5, .var 2 0), (8, .var 3 0), (18, .func (.func 53) [] [.var 4 0, .var 5 0])] (TEs zs g off n cp m is gi oi ni ci) := by
  refine AWp.block (AWp.ofY ?_)
  rw [rf27_eq]
  refine YWp.mono (YWp.rangeFunc (post := fun ex fm T' σ' => (ex = .normal ∨ ex = .exit 0) ∧ fm = Hss.fm ∧ T' = TEs zs g off n cp m is gi oi ni ci) eX_ok (gf := 53) (gfn := f53) (c := bodyOf f53) (first := []) (caps := [.var 4 0, .var 5 0]) rfl (by kernel_rfl) (by kernel_rfl) (by kernel_rfl) (kk := 6) (Nat.le_refl _) (fmIn_of rfl) (by kernel_rfl) (fun l => callees h l)) fun ex fm T σ hP => ?_
  obtain ⟨h1, rfl, rfl⟩ := hP
  rcases h1 with rfl | rfl
  · exact ⟨rfl, rfl, rfl⟩
  · exact ⟨rfl, rfl, rfl⟩
/-! info n -/
noncomputable def Rsn1 (zs : List Int) (g off n : Nat) (cp : Option Nat) (m : Int) (l : Nat) : Out := trim 5 5 [0,1,2,4] (run eX 21 ⟨5, []⟩ 400 (fstC (bodyOf f53)) (argF [.func (.yield l) [] [], .var 3 0, .var 4 0] 0) [some ⟨.ints .u8 zs, g, false, 5⟩, some ⟨.ints .i64 [m], 0, true, 3⟩, some ⟨.agg [.nilSlice], 0, true, 22⟩, some ⟨.agg [.slice 1 0 g off n cp], 0, true, 22⟩, some ⟨.agg [.nilSlice], 0, true, 22⟩] [])
theorem Rsn1_ok {zs : List Int} {g off n : Nat} {cp : Option Nat} {m : Int} {l : Nat} (h : allP []) : Ok (Rsn1 zs g off n cp m l) := Ok.dem (fl := []) (by kernel_rfl) (by kernel_rfl) (by kernel_rfl) h
theorem Rsn1_ex {zs : List Int} {g off n : Nat} {cp : Option Nat} {m : Int} {l : Nat} : (Rsn1 zs g off n cp m l).ex = .normal := by kernel_rfl
theorem Rsn1_fm {zs : List Int} {g off n : Nat} {cp : Option Nat} {m : Int} {l : Nat} : (Rsn1 zs g off n cp m l).fm = [(0, .func (Fn.yield l) [] []), (1, .var 3 0), (2, .var 4 0), (4, .nilSlice)] := by kernel_rfl
theorem Rsn1_tab {zs : List Int} {g off n : Nat} {cp : Option Nat} {m : Int} {l : Nat} : (Rsn1 zs g off n cp m l).tab = [some ⟨.ints .u8 zs, g, false, 5⟩, some ⟨.ints .i64 [m], 0, true, 3⟩, some ⟨.agg [.nilSlice], 0, true, 22⟩, some ⟨.agg [.slice 1 0 g off n cp], 0, true, 22⟩, some ⟨.agg [.nilSlice], 0, true, 22⟩] := by kernel_rfl
noncomputable def Rsn2 (zs : List Int) (g off n : Nat) (cp : Option Nat) (m : Int) (l : Nat) : Out := trim 5 5 [0,1,2,4,5] (run eX 21 ⟨5, []⟩ 400 (fstC (sndC (bodyOf f53))) [(0, .func (.yield l) [] []), (1, .var 3 0), (2, .var 4 0), (4, .nilSlice)] [some ⟨.ints .u8 zs, g, false, 5⟩, some ⟨.ints .i64 [m], 0, true, 3⟩, some ⟨.agg [.nilSlice], 0, true, 22⟩, some ⟨.agg [.slice 1 0 g off n cp], 0, true, 22⟩, some ⟨.agg [.nilSlice], 0, true, 22⟩] [])
theorem Rsn2_ok {zs : List Int} {g off n : Nat} {cp : Option Nat} {m : Int} {l : Nat} (h : allP []) : Ok (Rsn2 zs g off n cp m l) := Ok.dem (fl := []) (by kernel_rfl) (by kernel_rfl) (by kernel_rfl) h
theorem Rsn2_ex {zs : List Int} {g off n : Nat} {cp : Option Nat} {m : Int} {l : Nat} : (Rsn2 zs g off n cp m l).ex = .normal := by kernel_rfl
theorem Rsn2_fm {zs : List Int} {g off n : Nat} {cp : Option Nat} {m : Int} {l : Nat} : (Rsn2 zs g off n cp m l).fm = [(0, .func (Fn.yield l) [] []), (1, .var 3 0), (2, .var 4 0), (4, .nilSlice), (5, .int .u8 1)] := by kernel_rfl
theorem Rsn2_tab {zs : List Int} {g off n : Nat} {cp : Option Nat} {m : Int} {l : Nat} : (Rsn2 zs g off n cp m l).tab = [some ⟨.ints .u8 zs, g, false, 5⟩, some ⟨.ints .i64 [m], 0, true, 3⟩, some ⟨.agg [.nilSlice], 0, true, 22⟩, some ⟨.agg [.slice 1 0 g off n cp], 0, true, 22⟩, some ⟨.agg [.nilSlice], 0, true, 22⟩] := by kernel_rfl
def TEn (zs : List Int) (g off n : Nat) (cp : Option Nat) (m : Int) : Tab := if m ≤ 0 then TFn zs g off n cp m 0 else [some ⟨.ints .u8 zs, g, false, 5⟩, some ⟨.ints .i64 [m], 0, true, 3⟩, some ⟨.agg [.slice 1 6 (rLaw m - 1) 0 (32 * rLaw m) none], 0, true, 22⟩, some ⟨.agg [.slice 1 0 g off n cp], 0, true, 22⟩, some ⟨.agg [.nilSlice], 0, true, 22⟩, some ⟨.ints .u8 (tLaw (subLaw zs off n) [] (upLaw (rLaw m))), 31, true, 5⟩, some ⟨.ints .u8 (outLaw (subLaw zs off n) [] (rLaw m)), (rLaw m - 1), true, 5⟩]
theorem te0n {zs : List Int} {g off n : Nat} {cp : Option Nat} {m : Int} (h : m ≤ 0) : TFn zs g off n cp m 0 = TEn zs g off n cp m := by unfold TEn; rw [if_pos h]
theorem tefn {zs : List Int} {g off n : Nat} {cp : Option Nat} {m : Int} {i : Nat} (hi : i + 1 < 255) (h1 : 32 * (i : Int) < m) (h2 : ¬ 32 * ((i + 1 : Nat) : Int) < m) : TFn zs g off n cp m (i + 1) = TEn zs g off n cp m := by
  have hr : rLaw m = i + 1 := by unfold rLaw; omega
  unfold TEn upLaw
  rw [if_neg (by omega), hr, if_pos hi]
  rfl
theorem tetn {zs : List Int} {g off n : Nat} {cp : Option Nat} {m : Int} (h1 : 32 * ((254 : Nat) : Int) < m) (h2 : m ≤ 8160) : TTn zs g off n cp m 255 = TEn zs g off n cp m := by
  have hr : rLaw m = 255 := by unfold rLaw; omega
  unfold TEn upLaw
  rw [if_neg (by omega), hr, if_neg (by decide)]
  rfl
theorem rndn {zs : List Int} {g off n : Nat} {cp : Option Nat} {m : Int} (h : Exn zs g off n cp m) (l : Nat) : ∀ (i : Nat), i < 255 → YWp eX 21 5 [(l, Hsn)] (roundOf 0 f53) (Fcn l i) (TTn zs g off n cp m i) [(.ready, none)] fun ex fm T' σ' => if 32 * (i : Int) < m then ex = .normal ∧ fm = Fcn l (i + 1) ∧ T' = TTn zs g off n cp m (i + 1) ∧ σ' = [(.ready, none)] else ex = .ret ∧ T' = TFn zs g off n cp m i ∧ σ' = [(.done, some (.exit 0))]
  | 0, _ => rndn0 h l
  | i + 1, hi => rndn1 h l hi
theorem calleen {zs : List Int} {g off n : Nat} {cp : Option Nat} {m : Int} (h : Exn zs g off n cp m) (l : Nat) : YWp eX 21 5 [(l, Hsn)] (bodyOf f53) (argF ([] ++ (.func (.yield l) [] [] :: [.var 3 0, .var 4 0])) 0) (TTn zs g off n cp m 0) [(.ready, none)] fun ex fm' T' σ' =>
    (ex = .normal ∨ ex = .ret) ∧ (∃ cs us, aRes eX fm' T' f53.results.toList = some (cs, us) ∧ allP cs) ∧ ∃ st σ2, σ' = st :: σ2 ∧ st.1 ≠ .busy ∧
      match st.2 with
      | none => (AExit.normal = .normal ∨ AExit.normal = .exit 0) ∧ [(5, .var 1 0), (8, .var 2 0), (18, .func (.func 53) [] [.var 3 0, .var 4 0])] = Hsn.fm ∧ T' = TEn zs g off n cp m
      | some (.exit id) => (AExit.exit id = .normal ∨ AExit.exit id = .exit 0) ∧ [(5, .var 1 0), (8, .var 2 0), (18, .func (.func 53) [] [.var 3 0, .var 4 0])] = Hsn.fm ∧ T' = TEn zs g off n cp m
      | some .ret => (AExit.ret = .normal ∨ AExit.ret = .exit 0) ∧ [(5, .var 1 0), (8, .var 2 0), (18, .func (.func 53) [] [.var 3 0, .var 4 0])] = Hsn.fm ∧ T' = TEn zs g off n cp m
      | _ => False := by
  have hamb : ambIn 5 [(l, Hsn)] := ambIn_one rfl
  have m0 := h.m0
  have m1 := h.m1
  rw [splitb53, res53]
  refine YWp.seq (YWp.ofTo (To.of (o := Rsn1 zs g off n cp m l) eX_ok hmS (Nat.le_refl 5) OrcOk.nil rfl (Rsn1_ok trivial) Rsn1_ex Rsn1_fm Rsn1_tab) hamb ?_)
  refine YWp.seq (YWp.ofTo (To.of (o := Rsn2 zs g off n cp m l) eX_ok hmS (Nat.le_refl 5) OrcOk.nil rfl (Rsn2_ok trivial) Rsn2_ex Rsn2_fm Rsn2_tab) hamb ?_)
  refine YWp.block (YWp.loop (fun fm T σ μ => ∃ i, i ≤ 255 ∧ μ = 255 - i ∧ fm = Fcn l i ∧ T = TTn zs g off n cp m i ∧ σ = [(.ready, none)] ∧ (0 < i → 32 * ((i - 1 : Nat) : Int) < m)) 255 ⟨0, Nat.zero_le _, rfl, rfl, rfl, rfl, fun h => by omega⟩ ?_)
  rintro fm T σ μ ⟨i, hi, rfl, rfl, rfl, rfl, hm⟩
  by_cases h255 : i < 255
  · refine YWp.mono (rndn h l i h255) fun ex fm T σ hP => ?_
    by_cases hlt : 32 * (i : Int) < m
    · rw [if_pos hlt] at hP
      obtain ⟨rfl, rfl, rfl, rfl⟩ := hP
      exact ⟨255 - (i + 1), by omega, i + 1, by omega, rfl, rfl, rfl, rfl, fun _ => by rw [Nat.add_sub_cancel]; exact hlt⟩
    · rw [if_neg hlt] at hP
      obtain ⟨rfl, rfl, rfl⟩ := hP
      refine ⟨.inr rfl, ⟨[], [], rfl, trivial⟩, (.done, some (.exit 0)), [], rfl, by decide, .inr rfl, rfl, ?_⟩
      cases i with
      | zero => exact te0n (by omega)
      | succ i => exact tefn h255 (by have := hm (by omega); simpa using this) hlt
  · obtain rfl : i = 255 := by omega
    have h254 := hm (by omega)
    rw [split53]
    refine YWp.seq (YWp.ofTo (To.base (by decide) (To.of (o := Hen zs g off n cp m (((254 + 1 + 1 : Nat) : Int) % 256) (tLaw (subLaw zs off n) [] (254 + 1)) (outLaw (subLaw zs off n) [] (254 + 1)) 254 (32 * (254 + 1)) l) (T := TTn zs g off n cp m 255) (fm := Fcn l 255) eX_ok hmS (Nat.le_refl 7) OrcOk.nil rfl (Hen_ok (by simp only [allP, Con.h, and_true]; decide)) Hen_ex Hen_fm Hen_tab)) hamb ?_)
    refine ⟨.inl rfl, ⟨[], [], rfl, trivial⟩, (.ready, none), [], rfl, by decide, .inl rfl, rfl, tetn h254 m1⟩
theorem blk27n {zs : List Int} {g off n : Nat} {cp : Option Nat} {m : Int} (h : Exn zs g off n cp m) : To eX 30 5 (.block 0 rf27) [(5, .var 1 0), (8, .var 2 0), (18, .func (.func 53) [] [.var 3 0, .var 4 0])] [some ⟨.ints .u8 zs, g, false, 5⟩, some ⟨.ints .i64 [m], 0, true, 3⟩, some ⟨.agg [.nilSlice], 0, true, 22⟩, some ⟨.agg [.slice 1 0 g off n cp], 0, true, 22⟩, some ⟨.agg [.nilSlice], 0, true, 22⟩] .normal [(5, .var 1 0), (8, .var 2 0), (18, .func (.func 53) [] [.var 3 0, .var 4 0])] (TEn zs g off n cp m) := by
  refine AWp.block (AWp.ofY ?_)
  rw [rf27_eq]
  refine YWp.mono (YWp.rangeFunc (post := fun ex fm T' σ' => (ex = .normal ∨ ex = .exit 0) ∧ fm = Hsn.fm ∧ T' = TEn zs g off n cp m) eX_ok (gf := 53) (gfn := f53) (c := bodyOf f53) (first := []) (caps := [.var 3 0, .var 4 0]) rfl (by kernel_rfl) (by kernel_rfl) (by kernel_rfl) (kk := 5) (Nat.le_refl _) (fmIn_of rfl) (by kernel_rfl) (fun l => calleen h l)) fun ex fm T σ hP => ?_
  obtain ⟨h1, rfl, rfl⟩ := hP
  rcases h1 with rfl | rfl
  · exact ⟨rfl, rfl, rfl⟩
  · exact ⟨rfl, rfl, rfl⟩
end Go.Abs

set_option linter.unusedVariables false
set_option linter.unusedSimpArgs false
set_option maxRecDepth 8000
set_option maxHeartbeats 4000000
namespace Go.Abs
open Go.Proofs Go.Proofs.Tryd
/-! ### Expand: told, run -/
noncomputable def g27spc (vs : List AVal) (T : Tab) (zs : List Int) (g : Nat) (off : Nat) (n : Nat) (cp : Option Nat) (m : Int) (is : List Int) (gi : Nat) (oi : Nat) (ni : Nat) (ci : Option Nat) : Out := ⟨[.tab T [some ⟨.ints .u8 zs, g, false, 5⟩, some ⟨.ints .u8 is, gi, false, 5⟩, some ⟨.ints .i64 [m], 0, true, 3⟩, some ⟨.agg [.nilSlice], 0, true, 22⟩, some ⟨.agg [.slice 1 0 g off n cp], 0, true, 22⟩, some ⟨.agg [.slice 1 1 gi oi ni ci], 0, true, 22⟩], .val (.tuple vs) (.tuple [.var 2 0, .var 3 0, .func (.func 53) [] [.var 4 0, .var 5 0]]), .leN (off + n) zs.length, .leN n 140737488355000, .p (BsLaw zs), .p (capLaw n cp), .leN (oi + ni) is.length, .leN ni 140737488354000, .p (BsLaw is), .rng 1 m 8160], .normal, [(5, .var 2 0), (8, .var 3 0), (18, .func (.func 53) [] [.var 4 0, .var 5 0])], [some ⟨.ints .u8 zs, g, false, 5⟩, some ⟨.ints .u8 is, gi, false, 5⟩, some ⟨.ints .i64 [m], 0, true, 3⟩, some ⟨.agg [.slice 1 7 (rLaw m - 1) 0 (32 * rLaw m) none], 0, true, 22⟩, some ⟨.agg [.slice 1 0 g off n cp], 0, true, 22⟩, some ⟨.agg [.slice 1 1 gi oi ni ci], 0, true, 22⟩, some ⟨.ints .u8 (tLaw (subLaw zs off n) (subLaw is oi ni) (upLaw (rLaw m))), 31, true, 5⟩, some ⟨.ints .u8 (outLaw (subLaw zs off n) (subLaw is oi ni) (rLaw m)), (rLaw m - 1), true, 5⟩], []⟩
theorem g27spc_ok {vs : List AVal} {T : Tab} {zs : List Int} {g : Nat} {off : Nat} {n : Nat} {cp : Option Nat} {m : Int} {is : List Int} {gi : Nat} {oi : Nat} {ni : Nat} {ci : Option Nat} (h : Ok (g27spc vs T zs g off n cp m is gi oi ni ci)) : To eX 30 6 (.block 0 rf27) (zipF [5,8,18] vs) T (g27spc vs T zs g off n cp m is gi oi ni ci).ex (g27spc vs T zs g off n cp m is gi oi ni ci).fm (g27spc vs T zs g off n cp m is gi oi ni ci).tab := by
  obtain ⟨hT, hv, h1, h2, h3, h4, h5, h6, h7, h8, _⟩ := h.h
  simp only [Con.h] at hT hv h1 h2 h3 h4 h5 h6 h7 h8
  injection hv with hv
  subst hT hv
  have hE : TEs zs g off n cp m is gi oi ni ci = [some ⟨.ints .u8 zs, g, false, 5⟩, some ⟨.ints .u8 is, gi, false, 5⟩, some ⟨.ints .i64 [m], 0, true, 3⟩, some ⟨.agg [.slice 1 7 (rLaw m - 1) 0 (32 * rLaw m) none], 0, true, 22⟩, some ⟨.agg [.slice 1 0 g off n cp], 0, true, 22⟩, some ⟨.agg [.slice 1 1 gi oi ni ci], 0, true, 22⟩, some ⟨.ints .u8 (tLaw (subLaw zs off n) (subLaw is oi ni) (upLaw (rLaw m))), 31, true, 5⟩, some ⟨.ints .u8 (outLaw (subLaw zs off n) (subLaw is oi ni) (rLaw m)), (rLaw m - 1), true, 5⟩] := by unfold TEs; rw [if_neg (by have := h8.1; omega)]
  have := blk27s (g := g) (gi := gi) (ci := ci) (h := ⟨h1, h2, h3, h4, h5, h6, h7, by have := h8.1; omega, h8.2⟩)
  rw [hE] at this
  exact this
noncomputable def g27sp : List AVal → Tab → Out := fun vs T => g27spc vs T (xsAt T 0) (gAt T 0) (offOf (vAt (aggAt T 4) 0)) (lenOf (vAt (aggAt T 4) 0)) (capOf (vAt (aggAt T 4) 0)) ((xsAt T 2).getD 0 0) (xsAt T 1) (gAt T 1) (offOf (vAt (aggAt T 5) 0)) (lenOf (vAt (aggAt T 5) 0)) (capOf (vAt (aggAt T 5) 0))
theorem g27sp_ok : BlkOk eX f27 0 rf27 (blkS 6 [5,8,18] g27sp) := blkS_ok fun vs T h => g27spc_ok h
noncomputable def g27szc (vs : List AVal) (T : Tab) (zs : List Int) (g : Nat) (off : Nat) (n : Nat) (cp : Option Nat) (is : List Int) (gi : Nat) (oi : Nat) (ni : Nat) (ci : Option Nat) : Out := ⟨[.tab T [some ⟨.ints .u8 zs, g, false, 5⟩, some ⟨.ints .u8 is, gi, false, 5⟩, some ⟨.ints .i64 [0], 0, true, 3⟩, some ⟨.agg [.nilSlice], 0, true, 22⟩, some ⟨.agg [.slice 1 0 g off n cp], 0, true, 22⟩, some ⟨.agg [.slice 1 1 gi oi ni ci], 0, true, 22⟩], .val (.tuple vs) (.tuple [.var 2 0, .var 3 0, .func (.func 53) [] [.var 4 0, .var 5 0]]), .leN (off + n) zs.length, .leN n 140737488355000, .p (BsLaw zs), .p (capLaw n cp), .leN (oi + ni) is.length, .leN ni 140737488354000, .p (BsLaw is)], .normal, [(5, .var 2 0), (8, .var 3 0), (18, .func (.func 53) [] [.var 4 0, .var 5 0])], [some ⟨.ints .u8 zs, g, false, 5⟩, some ⟨.ints .u8 is, gi, false, 5⟩, some ⟨.ints .i64 [0], 0, true, 3⟩, some ⟨.agg [.nilSlice], 0, true, 22⟩, some ⟨.agg [.slice 1 0 g off n cp], 0, true, 22⟩, some ⟨.agg [.slice 1 1 gi oi ni ci], 0, true, 22⟩, some ⟨.ints .u8 (tLaw (subLaw zs off n) (subLaw is oi ni) (1)), 31, true, 5⟩], []⟩
theorem g27szc_ok {vs : List AVal} {T : Tab} {zs : List Int} {g : Nat} {off : Nat} {n : Nat} {cp : Option Nat} {is : List Int} {gi : Nat} {oi : Nat} {ni : Nat} {ci : Option Nat} (h : Ok (g27szc vs T zs g off n cp is gi oi ni ci)) : To eX 30 6 (.block 0 rf27) (zipF [5,8,18] vs) T (g27szc vs T zs g off n cp is gi oi ni ci).ex (g27szc vs T zs g off n cp is gi oi ni ci).fm (g27szc vs T zs g off n cp is gi oi ni ci).tab := by
  obtain ⟨hT, hv, h1, h2, h3, h4, h5, h6, h7, _⟩ := h.h
  simp only [Con.h] at hT hv h1 h2 h3 h4 h5 h6 h7
  injection hv with hv
  subst hT hv
  have := blk27s (g := g) (m := 0) (gi := gi) (ci := ci) (h := ⟨h1, h2, h3, h4, h5, h6, h7, by decide, by decide⟩)
  rw [← te0s (by decide)] at this
  exact this
noncomputable def g27sz : List AVal → Tab → Out := fun vs T => g27szc vs T (xsAt T 0) (gAt T 0) (offOf (vAt (aggAt T 4) 0)) (lenOf (vAt (aggAt T 4) 0)) (capOf (vAt (aggAt T 4) 0)) (xsAt T 1) (gAt T 1) (offOf (vAt (aggAt T 5) 0)) (lenOf (vAt (aggAt T 5) 0)) (capOf (vAt (aggAt T 5) 0))
theorem g27sz_ok : BlkOk eX f27 0 rf27 (blkS 6 [5,8,18] g27sz) := blkS_ok fun vs T h => g27szc_ok h
noncomputable def orc27sp : OrcL := [(0, blkS 6 [5,8,18] g27sp)]
theorem orc27sp_ok : FnOrc eX f27 orc27sp := FnOrc.cons g27sp_ok (by kernel_rfl) FnOrc.nil
noncomputable def orc27sz : OrcL := [(0, blkS 6 [5,8,18] g27sz)]
theorem orc27sz_ok : FnOrc eX f27 orc27sz := FnOrc.cons g27sz_ok (by kernel_rfl) FnOrc.nil
noncomputable def R27sp (zs : List Int) (g off n : Nat) (cp : Option Nat) (m : Int) (is : List Int) (gi oi ni : Nat) (ci : Option Nat) : Res := resG 2 [0, 1, 7] (runF eX f27 orc27sp 400 [.slice 1 0 g off n cp, .slice 1 1 gi oi ni ci, .int .i64 m] [some ⟨.ints .u8 zs, g, false, 5⟩, some ⟨.ints .u8 is, gi, false, 5⟩] [some false, some false])
theorem R27sp_ok {zs : List Int} {g off n : Nat} {cp : Option Nat} {m : Int} {is : List Int} {gi oi ni : Nat} {ci : Option Nat} (h : allP [.p (decide (m < 0) = false), .p (decide (8160 < m) = false), .eqN g g, .eqN gi gi, .leN (off + n) zs.length, .leN n 140737488355000, .p (BsLaw zs), .p (capLaw n cp), .leN (oi + ni) is.length, .leN ni 140737488354000, .p (BsLaw is), .rng 1 m 8160, .leI 0 m, .eqN
 (rLaw m - 1) (rLaw m - 1), .leN 0 m.toNat, .orN m.toNat (32 * rLaw m) (0 + m.toNat) (outLaw (subLaw zs off n) (subLaw is oi ni) (rLaw m)).length]) : OkR (R27sp zs g off n cp m is gi oi ni ci) := OkR.dem (fl := bitsF 26 3932187) (by kernel_rfl) (by kernel_rfl) (by kernel_rfl) h
theorem R27sp_val {zs : List Int} {g off n : Nat} {cp : Option Nat} {m : Int} {is : List Int} {gi oi ni : Nat} {ci : Option Nat} : (R27sp zs g off n cp m is gi oi ni ci).val = .tuple [.slice 1 2 (rLaw m - 1) 0 m.toNat none, .int .i64 0] := by kernel_rfl
theorem R27sp_tab {zs : List Int} {g off n : Nat} {cp : Option Nat} {m : Int} {is : List Int} {gi oi ni : Nat} {ci : Option Nat} : (R27sp zs g off n cp m is gi oi ni ci).tab = [some ⟨.ints .u8 zs, g, false, 5⟩, some ⟨.ints .u8 is, gi, false, 5⟩, some ⟨.ints .u8 (outLaw (subLaw zs off n) (subLaw is oi ni) (rLaw m)), rLaw m - 1, true, 5⟩] := by kernel_rfl
noncomputable def R27sz (zs : List Int) (g off n : Nat) (cp : Option Nat) (is : List Int) (gi oi ni : Nat) (ci : Option Nat) : Res := resG 2 [0, 1] (runF eX f27 orc27sz 400 [.slice 1 0 g off n cp, .slice 1 1 gi oi ni ci, .int .i64 0] [some ⟨.ints .u8 zs, g, false, 5⟩, some ⟨.ints .u8 is, gi, false, 5⟩] [])
theorem R27sz_ok {zs : List Int} {g off n : Nat} {cp : Option Nat} {is : List Int} {gi oi ni : Nat} {ci : Option Nat} (h : allP [.eqN g g, .eqN gi gi, .leN (off + n) zs.length, .leN n 140737488355000, .p (BsLaw zs), .p (capLaw n cp), .leN (oi + ni) is.length, .leN ni 140737488354000, .p (BsLaw is)]) : OkR (R27sz zs g off n cp is gi oi ni ci) := OkR.dem (fl := bitsF 22 4161551) (by kernel_rfl) (by
 kernel_rfl) (by kernel_rfl) h
theorem R27sz_val {zs : List Int} {g off n : Nat} {cp : Option Nat} {is : List Int} {gi oi ni : Nat} {ci : Option Nat} : (R27sz zs g off n cp is gi oi ni ci).val = .tuple [.nilSlice, .int .i64 0] := by kernel_rfl
theorem R27sz_tab {zs : List Int} {g off n : Nat} {cp : Option Nat} {is : List Int} {gi oi ni : Nat} {ci : Option Nat} : (R27sz zs g off n cp is gi oi ni ci).tab = [some ⟨.ints .u8 zs, g, false, 5⟩, some ⟨.ints .u8 is, gi, false, 5⟩] := by kernel_rfl
noncomputable def R27sl (zs : List Int) (g off n : Nat) (cp : Option Nat) (m : Int) (is : List Int) (gi oi ni : Nat) (ci : Option Nat) : Res := resG 2 [0, 1] (runF eX f27 [] 400 [.slice 1 0 g off n cp, .slice 1 1 gi oi ni ci, .int .i64 m] [some ⟨.ints .u8 zs, g, false, 5⟩, some ⟨.ints .u8 is, gi, false, 5⟩] [some true])
theorem R27sl_ok {zs : List Int} {g off n : Nat} {cp : Option Nat} {m : Int} {is : List Int} {gi oi ni : Nat} {ci : Option Nat} (h : allP [.p (decide (m < 0) = true)]) : OkR (R27sl zs g off n cp m is gi oi ni ci) := OkR.dem (fl := [true, true, false]) (by kernel_rfl) (by kernel_rfl) (by kernel_rfl) h
theorem R27sl_val {zs : List Int} {g off n : Nat} {cp : Option Nat} {m : Int} {is : List Int} {gi oi ni : Nat} {ci : Option Nat} : (R27sl zs g off n cp m is gi oi ni ci).val = .tuple [.nilSlice, .int .i64 6] := by kernel_rfl
theorem R27sl_tab {zs : List Int} {g off n : Nat} {cp : Option Nat} {m : Int} {is : List Int} {gi oi ni : Nat} {ci : Option Nat} : (R27sl zs g off n cp m is gi oi ni ci).tab = [some ⟨.ints .u8 zs, g, false, 5⟩, some ⟨.ints .u8 is, gi, false, 5⟩] := by kernel_rfl
noncomputable def R27sh (zs : List Int) (g off n : Nat) (cp : Option Nat) (m : Int) (is : List Int) (gi oi ni : Nat) (ci : Option Nat) : Res := resG 2 [0, 1] (runF eX f27 [] 400 [.slice 1 0 g off n cp, .slice 1 1 gi oi ni ci, .int .i64 m] [some ⟨.ints .u8 zs, g, false, 5⟩, some ⟨.ints .u8 is, gi, false, 5⟩] [some false, some true])
theorem R27sh_ok {zs : List Int} {g off n : Nat} {cp : Option Nat} {m : Int} {is : List Int} {gi oi ni : Nat} {ci : Option Nat} (h : allP [.p (decide (m < 0) = false), .p (decide (8160 < m) = true)]) : OkR (R27sh zs g off n cp m is gi oi ni ci) := OkR.dem (fl := [true, true, false, true, true, false]) (by kernel_rfl) (by kernel_rfl) (by kernel_rfl) h
theorem R27sh_val {zs : List Int} {g off n : Nat} {cp : Option Nat} {m : Int} {is : List Int} {gi oi ni : Nat} {ci : Option Nat} : (R27sh zs g off n cp m is gi oi ni ci).val = .tuple [.nilSlice, .int .i64 6] := by kernel_rfl
theorem R27sh_tab {zs : List Int} {g off n : Nat} {cp : Option Nat} {m : Int} {is : List Int} {gi oi ni : Nat} {ci : Option Nat} : (R27sh zs g off n cp m is gi oi ni ci).tab = [some ⟨.ints .u8 zs, g, false, 5⟩, some ⟨.ints .u8 is, gi, false, 5⟩] := by kernel_rfl
noncomputable def g27npc (vs : List AVal) (T : Tab) (zs : List Int) (g : Nat) (off : Nat) (n : Nat) (cp : Option Nat) (m : Int) : Out := ⟨[.tab T [some ⟨.ints .u8 zs, g, false, 5⟩, some ⟨.ints .i64 [m], 0, true, 3⟩, some ⟨.agg [.nilSlice], 0, true, 22⟩, some ⟨.agg [.slice 1 0 g off n cp], 0, true, 22⟩, some ⟨.agg [.nilSlice], 0, true, 22⟩], .val (.tuple vs) (.tuple [.var 1 0, .var 2 0, .func (.func 53) [] [.var 3 0, .var 4 0]]), .leN (off + n) zs.length, .leN n 140737488355000, .p (BsLaw zs), .p (capLaw n cp), .rng 1 m 8160], .normal, [(5, .var 1 0), (8, .var 2 0), (18, .func (.func 53) [] [.var 3 0, .var 4 0])], [some ⟨.ints .u8 zs, g, false, 5⟩, some ⟨.ints .i64 [m], 0, true, 3⟩, some ⟨.agg [.slice 1 6 (rLaw m - 1) 0 (32 * rLaw m) none], 0, true, 22⟩, some ⟨.agg [.slice 1 0 g off n cp], 0, true, 22⟩, some ⟨.agg [.nilSlice], 0, true, 22⟩, some ⟨.ints .u8 (tLaw (subLaw zs off n) [] (upLaw (rLaw m))), 31, true, 5⟩, some ⟨.ints .u8 (outLaw (subLaw zs off n) [] (rLaw m)), (rLaw m - 1), true, 5⟩], []⟩
theorem g27npc_ok {vs : List AVal} {T : Tab} {zs : List Int} {g : Nat} {off : Nat} {n : Nat} {cp : Option Nat} {m : Int} (h : Ok (g27npc vs T zs g off n cp m)) : To eX 30 5 (.block 0 rf27) (zipF [5,8,18] vs) T (g27npc vs T zs g off n cp m).ex (g27npc vs T zs g off n cp m).fm (g27npc vs T zs g off n cp m).tab := by
  obtain ⟨hT, hv, h1, h2, h3, h4, h5, _⟩ := h.h
  simp only [Con.h] at hT hv h1 h2 h3 h4 h5
  injection hv with hv
  subst hT hv
  have hE : TEn zs g off n cp m = [some ⟨.ints .u8 zs, g, false, 5⟩, some ⟨.ints .i64 [m], 0, true, 3⟩, some ⟨.agg [.slice 1 6 (rLaw m - 1) 0 (32 * rLaw m) none], 0, true, 22⟩, some ⟨.agg [.slice 1 0 g off n cp], 0, true, 22⟩, some ⟨.agg [.nilSlice], 0, true, 22⟩, some ⟨.ints .u8 (tLaw (subLaw zs off n) [] (upLaw (rLaw m))), 31, true, 5⟩, some ⟨.ints .u8 (outLaw (subLaw zs off n) [] (rLaw m)), (rLaw m - 1), true, 5⟩] := by unfold TEn; rw [if_neg (by have := h5.1; omega)]
  have := blk27n (g := g) (h := ⟨h1, h2, h3, h4, by have := h5.1; omega, h5.2⟩)
  rw [hE] at this
  exact this
noncomputable def g27np : List AVal → Tab → Out := fun vs T => g27npc vs T (xsAt T 0) (gAt T 0) (offOf (vAt (aggAt T 3) 0)) (lenOf (vAt (aggAt T 3) 0)) (capOf (vAt (aggAt T 3) 0)) ((xsAt T 1).getD 0 0)
theorem g27np_ok : BlkOk eX f27 0 rf27 (blkS 5 [5,8,18] g27np) := blkS_ok fun vs T h => g27npc_ok h
noncomputable def g27nzc (vs : List AVal) (T : Tab) (zs : List Int) (g : Nat) (off : Nat) (n : Nat) (cp : Option Nat) : Out := ⟨[.tab T [some ⟨.ints .u8 zs, g, false, 5⟩, some ⟨.ints .i64 [0], 0, true, 3⟩, some ⟨.agg [.nilSlice], 0, true, 22⟩, some ⟨.agg [.slice 1 0 g off n cp], 0, true, 22⟩, some ⟨.agg [.nilSlice], 0, true, 22⟩], .val (.tuple vs) (.tuple [.var 1 0, .var 2 0, .func (.func 53) [] [.var 3 0, .var 4 0]]), .leN (off + n) zs.length, .leN n 140737488355000, .p (BsLaw zs), .p (capLaw n cp)], .normal, [(5, .var 1 0), (8, .var 2 0), (18, .func (.func 53) [] [.var 3 0, .var 4 0])], [some ⟨.ints .u8 zs, g, false, 5⟩, some ⟨.ints .i64 [0], 0, true, 3⟩, some ⟨.agg [.nilSlice], 0, true, 22⟩, some ⟨.agg [.slice 1 0 g off n cp], 0, true, 22⟩, some ⟨.agg [.nilSlice], 0, true, 22⟩, some ⟨.ints .u8 (tLaw (subLaw zs off n) [] (1)), 31, true, 5⟩], []⟩
theorem g27nzc_ok {vs : List AVal} {T : Tab} {zs : List Int} {g : Nat} {off : Nat} {n : Nat} {cp : Option Nat} (h : Ok (g27nzc vs T zs g off n cp)) : To eX 30 5 (.block 0 rf27) (zipF [5,8,18] vs) T (g27nzc vs T zs g off n cp).ex (g27nzc vs T zs g off n cp).fm (g27nzc vs T zs g off n cp).tab := by
  obtain ⟨hT, hv, h1, h2, h3, h4, _⟩ := h.h
  simp only [Con.h] at hT hv h1 h2 h3 h4
  injection hv with hv
  subst hT hv
  have := blk27n (g := g) (m := 0) (h := ⟨h1, h2, h3, h4, by decide, by decide⟩)
  rw [← te0n (by decide)] at this
  exact this
noncomputable def g27nz : List AVal → Tab → Out := fun vs T => g27nzc vs T (xsAt T 0) (gAt T 0) (offOf (vAt (aggAt T 3) 0)) (lenOf (vAt (aggAt T 3) 0)) (capOf (vAt (aggAt T 3) 0))
theorem g27nz_ok : BlkOk eX f27 0 rf27 (blkS 5 [5,8,18] g27nz) := blkS_ok fun vs T h => g27nzc_ok h
noncomputable def orc27np : OrcL := [(0, blkS 5 [5,8,18] g27np)]
theorem orc27np_ok : FnOrc eX f27 orc27np := FnOrc.cons g27np_ok (by kernel_rfl) FnOrc.nil
noncomputable def orc27nz : OrcL := [(0, blkS 5 [5,8,18] g27nz)]
theorem orc27nz_ok : FnOrc eX f27 orc27nz := FnOrc.cons g27nz_ok (by kernel_rfl) FnOrc.nil
noncomputable def R27np (zs : List Int) (g off n : Nat) (cp : Option Nat) (m : Int) : Res := resG 1 [0, 6] (runF eX f27 orc27np 400 [.slice 1 0 g off n cp, .nilSlice, .int .i64 m] [some ⟨.ints .u8 zs, g, false, 5⟩] [some false, some false])
theorem R27np_ok {zs : List Int} {g off n : Nat} {cp : Option Nat} {m : Int} (h : allP [.p (decide (m < 0) = false), .p (decide (8160 < m) = false), .eqN g g, .leN (off + n) zs.length, .leN n 140737488355000, .p (BsLaw zs), .p (capLaw n cp), .rng 1 m 8160, .leI 0 m, .eqN (rLaw m - 1) (rLaw m - 1), .leN 0 m.toNat, .orN m.toNat (32 * rLaw m) (0 + m.toNat) (outLaw (subLaw zs off n) [] (rLaw
 m)).length]) : OkR (R27np zs g off n cp m) := OkR.dem (fl := bitsF 22 245787) (by kernel_rfl) (by kernel_rfl) (by kernel_rfl) h
theorem R27np_val {zs : List Int} {g off n : Nat} {cp : Option Nat} {m : Int} : (R27np zs g off n cp m).val = .tuple [.slice 1 1 (rLaw m - 1) 0 m.toNat none, .int .i64 0] := by kernel_rfl
theorem R27np_tab {zs : List Int} {g off n : Nat} {cp : Option Nat} {m : Int} : (R27np zs g off n cp m).tab = [some ⟨.ints .u8 zs, g, false, 5⟩, some ⟨.ints .u8 (outLaw (subLaw zs off n) [] (rLaw m)), rLaw m - 1, true, 5⟩] := by kernel_rfl
noncomputable def R27nz (zs : List Int) (g off n : Nat) (cp : Option Nat) : Res := resG 1 [0] (runF eX f27 orc27nz 400 [.slice 1 0 g off n cp, .nilSlice, .int .i64 0] [some ⟨.ints .u8 zs, g, false, 5⟩] [])
theorem R27nz_ok {zs : List Int} {g off n : Nat} {cp : Option Nat} (h : allP [.eqN g g, .leN (off + n) zs.length, .leN n 140737488355000, .p (BsLaw zs), .p (capLaw n cp)]) : OkR (R27nz zs g off n cp) := OkR.dem (fl := bitsF 18 260111) (by kernel_rfl) (by kernel_rfl) (by kernel_rfl) h
theorem R27nz_val {zs : List Int} {g off n : Nat} {cp : Option Nat} : (R27nz zs g off n cp).val = .tuple [.nilSlice, .int .i64 0] := by kernel_rfl
theorem R27nz_tab {zs : List Int} {g off n : Nat} {cp : Option Nat} : (R27nz zs g off n cp).tab = [some ⟨.ints .u8 zs, g, false, 5⟩] := by kernel_rfl
noncomputable def R27nl (zs : List Int) (g off n : Nat) (cp : Option Nat) (m : Int) : Res := resG 1 [0] (runF eX f27 [] 400 [.slice 1 0 g off n cp, .nilSlice, .int .i64 m] [some ⟨.ints .u8 zs, g, false, 5⟩] [some true])
theorem R27nl_ok {zs : List Int} {g off n : Nat} {cp : Option Nat} {m : Int} (h : allP [.p (decide (m < 0) = true)]) : OkR (R27nl zs g off n cp m) := OkR.dem (fl := [true, true, false]) (by kernel_rfl) (by kernel_rfl) (by kernel_rfl) h
theorem R27nl_val {zs : List Int} {g off n : Nat} {cp : Option Nat} {m : Int} : (R27nl zs g off n cp m).val = .tuple [.nilSlice, .int .i64 6] := by kernel_rfl
theorem R27nl_tab {zs : List Int} {g off n : Nat} {cp : Option Nat} {m : Int} : (R27nl zs g off n cp m).tab = [some ⟨.ints .u8 zs, g, false, 5⟩] := by kernel_rfl
noncomputable def R27nh (zs : List Int) (g off n : Nat) (cp : Option Nat) (m : Int) : Res := resG 1 [0] (runF eX f27 [] 400 [.slice 1 0 g off n cp, .nilSlice, .int .i64 m] [some ⟨.ints .u8 zs, g, false, 5⟩] [some false, some true])
theorem R27nh_ok {zs : List Int} {g off n : Nat} {cp : Option Nat} {m : Int} (h : allP [.p (decide (m < 0) = false), .p (decide (8160 < m) = true)]) : OkR (R27nh zs g off n cp m) := OkR.dem (fl := [true, true, false, true, true, false]) (by kernel_rfl) (by kernel_rfl) (by kernel_rfl) h
theorem R27nh_val {zs : List Int} {g off n : Nat} {cp : Option Nat} {m : Int} : (R27nh zs g off n cp m).val = .tuple [.nilSlice, .int .i64 6] := by kernel_rfl
theorem R27nh_tab {zs : List Int} {g off n : Nat} {cp : Option Nat} {m : Int} : (R27nh zs g off n cp m).tab = [some ⟨.ints .u8 zs, g, false, 5⟩] := by kernel_rfl
end Go.Abs
