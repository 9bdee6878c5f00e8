
/- The machine's side, written by a program of this session (a turned print): each function as a plain Lean function, and that the call comes to it. -/
import Derived.Test.YtjiaigjmihmdjaaDoorPFnExactTakeAnswerx0
import Derived.Test.YtjiaigjmihmdjaaDoorPFnExactTakeAnswerx1
import Derived.Test.YtjiaigjmihmdjaaDoorPFnExactTakeAnswerx5
import Derived.Test.YtjiaigjmihmdjaaDoorPFnExactTakeAnswerx10
import Derived.Test.YtjiaigjmihmdjaaDoorPFnExactTakeAnswerx11
namespace Go.Proofs.YtjiaigjmihmdjaaDoor.PFnExactTakeAnswer
open Go.RowKit Go.Proofs.YtjiaigjmihmdjaaDoorW.PrintWords Go.Proofs.YtjiaigjmihmdjaaDoorW.PrintLast Go.Proofs.YtjiaigjmihmdjaaDoorW.PrintMore
attribute [local go_sem] max2_int min2_int max_two min_two max_three min_three max_four min_four   -- for this text's walks alone
set_option linter.unusedVariables false
set_option linter.unusedSimpArgs false

/-! ### laws_eqMsg: function 25 -/
def laws_eqMsg.f (k : Nat) (a0_0 : Int) (a0_1 : Int) (a0_2 : Int) (a0_3 : Int) (l0_4 : List Int) (l0_5 : List ByteArray) (l0_6 : List (S148)) (a0_7 : ByteArray) (a1_0 : Int) (a1_1 : Int) (a1_2 : Int) (a1_3 : Int) (l1_4 : List Int) (l1_5 : List ByteArray) (l1_6 : List (S148)) (a1_7 : ByteArray) : Option (Bool) := if a0_0 = a1_0 then (if a0_1 = a1_1 then ((laws_eqSig.f k a0_2 a0_3 l0_4 l0_5 a1_2 a1_3 l1_4 l1_5).bind fun t334 => (if t334 = true then ((laws_eqTokenS.f k l0_6 l1_6).bind fun t335 => (if t335 = true then (if a0_7.toList = a1_7.toList then (some true) else (some false)) else (some false))) else (some false))) else (some false)) else (some false)
theorem laws_eqMsg.mono : ∀ a0 a1 a2 a3 a4 a5 a6 a7 a8 a9 a10 a11 a12 a13 a14 a15 k, LeO (laws_eqMsg.f k a0 a1 a2 a3 a4 a5 a6 a7 a8 a9 a10 a11 a12 a13 a14 a15) (laws_eqMsg.f (k + 1) a0 a1 a2 a3 a4 a5 a6 a7 a8 a9 a10 a11 a12 a13 a14 a15) := by
 intro a0 a1 a2 a3 a4 a5 a6 a7 a8 a9 a10 a11 a12 a13 a14 a15 k
 unfold laws_eqMsg.f
 repeat' first | (with_reducible first | exact laws_eqSig.mono _ _ _ _ _ _ _ _ _ | exact laws_eqTokenS.mono _ _ _ | exact LeO.refl _ | exact LeO.none _ | refine LeO.ite ?_ ?_ | refine LeO.bind ?_ (fun _ => ?_)) | exact laws_eqSig.mono _ _ _ _ _ _ _ _ _ | exact laws_eqTokenS.mono _ _ _ | exact LeO.none _ | refine LeO.ite ?_ ?_ | refine LeO.bind ?_ (fun _ => ?_)
set_option maxHeartbeats 8000000 in
set_option maxRecDepth 100000 in
theorem laws_eqMsg.calls (k : Nat) (a0_0 : Int) (a0_1 : Int) (a0_2 : Int) (a0_3 : Int) (A0_4 : Option Addr) (c0_4 : Nat) (l0_4 : List Int) (A0_5 : Option Addr) (c0_5 : Nat) (l0_5 : List ByteArray) (A0_6 : Option Addr) (c0_6 : Nat) (l0_6 : List (S148)) (a0_7 : ByteArray) (a1_0 : Int) (a1_1 : Int) (a1_2 : Int) (a1_3 : Int) (A1_4 : Option Addr) (c1_4 : Nat) (l1_4 : List Int) (A1_5 : Option Addr) (c1_5 : Nat) (l1_5 : List ByteArray) (A1_6 : Option Addr) (c1_6 : Nat) (l1_6 : List (S148)) (a1_7 : ByteArray) (r : Bool) (w : World) (hr0_4 : Kd.C (Kd.int .u32) w A0_4 l0_4.length l0_4) (hc0_4 : l0_4.length ≤ c0_4) (hr0_5 : Kd.C Kd.string w A0_5 l0_5.length l0_5) (hc0_5 : l0_5.length ≤ c0_5) (hr0_6 : Kd.C k148 w A0_6 l0_6.length l0_6) (hc0_6 : l0_6.length ≤ c0_6) (hr1_4 : Kd.C (Kd.int .u32) w A1_4 l1_4.length l1_4) (hc1_4 : l1_4.length ≤ c1_4) (hr1_5 : Kd.C Kd.string w A1_5 l1_5.length l1_5) (hc1_5 : l1_5.length ≤ c1_5) (hr1_6 : Kd.C k148 w A1_6 l1_6.length l1_6) (hc1_6 : l1_6.length ≤ c1_6) (h : laws_eqMsg.f k a0_0 a0_1 a0_2 a0_3 l0_4 l0_5 l0_6 a0_7 a1_0 a1_1 a1_2 a1_3 l1_4 l1_5 l1_6 a1_7 = some r) :
  Calls Tryd.prog 25 #[.agg #[.int .i64 a0_0, .int .i64 a0_1, .int .i64 a0_2, .int .i64 a0_3, .slice A0_4 l0_4.length c0_4, .slice A0_5 l0_5.length c0_5, .slice A0_6 l0_6.length c0_6, .string a0_7], .agg #[.int .i64 a1_0, .int .i64 a1_1, .int .i64 a1_2, .int .i64 a1_3, .slice A1_4 l1_4.length c1_4, .slice A1_5 l1_5.length c1_5, .slice A1_6 l1_6.length c1_6, .string a1_7]] w fun e w' => e = .returned (.bool r) ∧ Below w.heap.size w w' := by
 have hu49 := Tryd.underlying49
 have hu30 := Tryd.underlying30
 have HR0_4 := Aside0.mk hr0_4
 have HC0_4 := Aside0.mk hc0_4
 clear hr0_4 hc0_4
 have HR0_5 := Aside0.mk hr0_5
 have HC0_5 := Aside0.mk hc0_5
 clear hr0_5 hc0_5
 have HR0_6 := Aside0.mk hr0_6
 have HC0_6 := Aside0.mk hc0_6
 clear hr0_6 hc0_6
 have HR1_4 := Aside0.mk hr1_4
 have HC1_4 := Aside0.mk hc1_4
 clear hr1_4 hc1_4
 have HR1_5 := Aside0.mk hr1_5
 have HC1_5 := Aside0.mk hc1_5
 clear hr1_5 hc1_5
 have HR1_6 := Aside0.mk hr1_6
 have HC1_6 := Aside0.mk hc1_6
 clear hr1_6 hc1_6
 have HB := Aside0.mk (Below.refl w.heap.size w)
 have H : (if a0_0 = a1_0 then (if a0_1 = a1_1 then ((laws_eqSig.f k a0_2 a0_3 l0_4 l0_5 a1_2 a1_3 l1_4 l1_5).bind fun t334 => (if t334 = true then ((laws_eqTokenS.f k l0_6 l1_6).bind fun t335 => (if t335 = true then (if a0_7.toList = a1_7.toList then (some true) else (some false)) else (some false))) else (some false))) else (some false)) else (some false)) = some r := h
 clear h
 have HC3 := Aside0.mk H
 clear H
 go_enter Tryd.func25, Tryd.ntmps25
 go_upto_if 9 with (first | ((with_reducible refine gate_dst (N := 2) rfl ?_); refine box_event ?hg (N := 2) ?hd (cs := #[.int .i64 a0_0, .int .i64 a0_1, .int .i64 a0_2, .int .i64 a0_3, .slice A0_4 l0_4.length c0_4, .slice A0_5 l0_5.length c0_5, .slice A0_6 l0_6.length c0_6, .string a0_7]) (t := 49) ?hr ?_; (case hd => rfl); (case hg => rfl); (case hr => first | (go_simp; done) | (go_simp; rfl)); intro gb332 hg w4 hbox hb; have n0_ := Aside0.mk (below_step bz hb); have n1_ := Aside0.mk (hbox); have n2_ := Aside0.mk (bg : w.heap.size ≤ gb332); have n3_ := Aside0.mk (bg : w.heap.size ≤ gb332); clear HB; have HB := n0_; have BK332 := n1_; have GW332 := n2_; have GE332 := n3_; clear n0_ n1_ n2_ n3_; clear hb hbox hg) | ((with_reducible refine gate_dst (N := 3) rfl ?_); refine box_event ?hg (N := 3) ?hd (cs := #[.int .i64 a1_0, .int .i64 a1_1, .int .i64 a1_2, .int .i64 a1_3, .slice A1_4 l1_4.length c1_4, .slice A1_5 l1_5.length c1_5, .slice A1_6 l1_6.length c1_6, .string a1_7]) (t := 49) ?hr ?_; (case hd => rfl); (case hg => rfl); (case hr => first | (go_simp; done) | (go_simp; rfl)); intro gb333 hg w5 hbox hb; have n0_ := Aside0.mk (blk_below (bo BK332) hb); have n1_ := Aside0.mk (below_step bz hb); have n2_ := Aside0.mk (hbox); have n3_ := Aside0.mk (bg : w.heap.size ≤ gb333); have n4_ := Aside0.mk (bg : w.heap.size ≤ gb333); have n5_ := Aside0.mk ((by rw [hg]; exact Nat.ne_of_lt (blk_lt (bo BK332)) : gb332 ≠ gb333)); have n6_ := Aside0.mk ((by rw [hg]; exact Nat.ne_of_gt (blk_lt (bo BK332)) : gb333 ≠ gb332)); clear BK332; clear HB; have BK332 := n0_; have HB := n1_; have BK333 := n2_; have GW333 := n3_; have GE333 := n4_; have NB332_333 := n5_; have NB333_332 := n6_; clear n0_ n1_ n2_ n3_ n4_ n5_ n6_; clear hb hbox hg; have hnb6 := NB332_333.out; have hnc6 := NB333_332.out; obtain ⟨hcz7_0, hcz7_1, hcz7_2, hcz7_3, hcz7_4, hcz7_5, hcz7_6, hcz7_7, hfz7_0, hfz7_1, hfz7_2, hfz7_3, hfz7_4, hfz7_5, hfz7_6, hfz7_7⟩ := bc8 BK332.out; obtain ⟨hcz8_0, hcz8_1, hcz8_2, hcz8_3, hcz8_4, hcz8_5, hcz8_6, hcz8_7, hfz8_0, hfz8_1, hfz8_2, hfz8_3, hfz8_4, hfz8_5, hfz8_6, hfz8_7⟩ := bc8 BK333.out))
 (try simp only [Act.put, List.setIfInBounds_toArray, List.set_cons_zero, List.set_cons_succ])
 have H := HC3.out
 clear HC3
 by_cases c9 : a0_0 = a1_0
 ·rw [if_pos c9] at H
  have c9b0 : (a0_0 == a1_0) = true := beq_iff_eq.mpr c9
  have c9b1 : (a0_0 != a1_0) = false := bne_eq_false_iff_eq.mpr c9
  clear c9
  (first | rw [c9b0] | (simp only [i64_w, i32_w]; rw [c9b0]) | skip)
  by_cases c10 : a0_1 = a1_1
  ·rw [if_pos c10] at H
   have c10b0 : (a0_1 == a1_1) = true := beq_iff_eq.mpr c10
   have c10b1 : (a0_1 != a1_1) = false := bne_eq_false_iff_eq.mpr c10
   clear c10
   replace H := Option.bind_eq_some_iff.mp H
   obtain ⟨t334, A110, H⟩ := H
   try dsimp -simprocs only at H
   have A11 := Aside0.mk A110
   clear A110
   have HC12 := Aside0.mk H
   clear H
   have hnb13 := NB332_333.out
   have hnc13 := NB333_332.out
   obtain ⟨hcz14_0, hcz14_1, hcz14_2, hcz14_3, hcz14_4, hcz14_5, hcz14_6, hcz14_7, hfz14_0, hfz14_1, hfz14_2, hfz14_3, hfz14_4, hfz14_5, hfz14_6, hfz14_7⟩ := bc8 BK332.out
   obtain ⟨hcz15_0, hcz15_1, hcz15_2, hcz15_3, hcz15_4, hcz15_5, hcz15_6, hcz15_7, hfz15_0, hfz15_1, hfz15_2, hfz15_3, hfz15_4, hfz15_5, hfz15_6, hfz15_7⟩ := bc8 BK333.out
   go_upto_if 20 with (first | ((with_reducible refine gate_callee (f := 95) rfl ?_); refine goesL_ (some 19) rfl rfl Tryd.func95 (by kernel_rfl) rfl #[.agg #[.int .i64 a0_2, .int .i64 a0_3, .slice A0_4 l0_4.length c0_4, .slice A0_5 l0_5.length c0_5], .agg #[.int .i64 a1_2, .int .i64 a1_3, .slice A1_4 l1_4.length c1_4, .slice A1_5 l1_5.length c1_5]] rfl mt ?_; (with_reducible refine (laws_eqSig.calls k a0_2 a0_3 _ _ l0_4 _ _ l0_5 a1_2 a1_3 _ _ l1_4 _ _ l1_5 t334 _ ?side1 ?side2 ?side3 ?side4 ?side5 ?side6 ?side7 ?side8 A11.out).mono ?_); (case side1 => exact cz HR0_4); (case side2 => exact HC0_4.out); (case side3 => exact cz HR0_5); (case side4 => exact HC0_5.out); (case side5 => exact cz HR1_4); (case side6 => exact HC1_4.out); (case side7 => exact cz HR1_5); (case side8 => exact HC1_5.out); rintro e w16 ⟨rfl, hb⟩; refine ⟨_, rfl, ?_⟩; have n0_ := Aside0.mk (blk_below (bo BK332) hb); have n1_ := Aside0.mk (blk_below (bo BK333) hb); have n2_ := Aside0.mk (below_step bz hb); clear BK332; clear BK333; clear HB; have BK332 := n0_; have BK333 := n1_; have HB := n2_; clear n0_ n1_ n2_; (try clear hb); (try clear hb2); (try clear hk); (try clear hi)))
   (try simp only [Act.put, List.setIfInBounds_toArray, List.set_cons_zero, List.set_cons_succ])
   have H := HC12.out
   clear HC12
   by_cases c17 : t334 = true
   ·subst c17
    have H1 : ((laws_eqTokenS.f k l0_6 l1_6).bind fun t335 => (if t335 = true then (if a0_7.toList = a1_7.toList then (some true) else (some false)) else (some false))) = some r := by rw [if_pos rfl] at H; exact H
    clear H
    have H := H1
    clear H1
    replace H := Option.bind_eq_some_iff.mp H
    obtain ⟨t335, A180, H⟩ := H
    try dsimp -simprocs only at H
    have A18 := Aside0.mk A180
    clear A180
    have HC19 := Aside0.mk H
    clear H
    have hnb20 := NB332_333.out
    have hnc20 := NB333_332.out
    obtain ⟨hcz21_0, hcz21_1, hcz21_2, hcz21_3, hcz21_4, hcz21_5, hcz21_6, hcz21_7, hfz21_0, hfz21_1, hfz21_2, hfz21_3, hfz21_4, hfz21_5, hfz21_6, hfz21_7⟩ := bc8 BK332.out
    obtain ⟨hcz22_0, hcz22_1, hcz22_2, hcz22_3, hcz22_4, hcz22_5, hcz22_6, hcz22_7, hfz22_0, hfz22_1, hfz22_2, hfz22_3, hfz22_4, hfz22_5, hfz22_6, hfz22_7⟩ := bc8 BK333.out
    go_upto_if 26 with (first | ((with_reducible refine gate_callee (f := 96) rfl ?_); refine goesL_ (some 25) rfl rfl Tryd.func96 (by kernel_rfl) rfl #[.slice A0_6 l0_6.length c0_6, .slice A1_6 l1_6.length c1_6] rfl mt ?_; (with_reducible refine (laws_eqTokenS.calls k _ _ l0_6 _ _ l1_6 t335 _ ?side1 ?side2 ?side3 ?side4 A18.out).mono ?_); (case side1 => exact cz HR0_6); (case side2 => exact HC0_6.out); (case side3 => exact cz HR1_6); (case side4 => exact HC1_6.out); rintro e w23 ⟨rfl, hb⟩; refine ⟨_, rfl, ?_⟩; have n0_ := Aside0.mk (blk_below (bo BK332) hb); have n1_ := Aside0.mk (blk_below (bo BK333) hb); have n2_ := Aside0.mk (below_step bz hb); clear BK332; clear BK333; clear HB; have BK332 := n0_; have BK333 := n1_; have HB := n2_; clear n0_ n1_ n2_; (try clear hb); (try clear hb2); (try clear hk); (try clear hi)))
    (try simp only [Act.put, List.setIfInBounds_toArray, List.set_cons_zero, List.set_cons_succ])
    have H := HC19.out
    clear HC19
    by_cases c24 : t335 = true
    ·subst c24
     have H1 : (if a0_7.toList = a1_7.toList then (some true) else (some false)) = some r := by rw [if_pos rfl] at H; exact H
     clear H
     have H := H1
     clear H1
     by_cases c25 : a0_7.toList = a1_7.toList
     ·rw [if_pos c25] at H
      have c25b0 : (a0_7.toList == a1_7.toList) = true := beq_iff_eq.mpr c25
      have c25b1 : (a0_7.toList != a1_7.toList) = false := bne_eq_false_iff_eq.mpr c25
      clear c25
      (first | rw [c25b0] | (simp only [i64_w, i32_w]; rw [c25b0]) | skip)
      obtain rfl := Option.some.inj H
      have hnb26 := NB332_333.out
      have hnc26 := NB333_332.out
      obtain ⟨hcz27_0, hcz27_1, hcz27_2, hcz27_3, hcz27_4, hcz27_5, hcz27_6, hcz27_7, hfz27_0, hfz27_1, hfz27_2, hfz27_3, hfz27_4, hfz27_5, hfz27_6, hfz27_7⟩ := bc8 BK332.out
      obtain ⟨hcz28_0, hcz28_1, hcz28_2, hcz28_3, hcz28_4, hcz28_5, hcz28_6, hcz28_7, hfz28_0, hfz28_1, hfz28_2, hfz28_3, hfz28_4, hfz28_5, hfz28_6, hfz28_7⟩ := bc8 BK333.out
      go_wp2
      go_ret
      exact ⟨rq, bz⟩
     ·rw [if_neg c25] at H
      have c25b0 : (a0_7.toList == a1_7.toList) = false := beq_eq_false_iff_ne.mpr c25
      have c25b1 : (a0_7.toList != a1_7.toList) = true := bne_iff_ne.mpr c25
      (first | rw [c25b0] | (simp only [i64_w, i32_w]; rw [c25b0]) | skip)
      obtain rfl := Option.some.inj H
      have hnb29 := NB332_333.out
      have hnc29 := NB333_332.out
      obtain ⟨hcz30_0, hcz30_1, hcz30_2, hcz30_3, hcz30_4, hcz30_5, hcz30_6, hcz30_7, hfz30_0, hfz30_1, hfz30_2, hfz30_3, hfz30_4, hfz30_5, hfz30_6, hfz30_7⟩ := bc8 BK332.out
      obtain ⟨hcz31_0, hcz31_1, hcz31_2, hcz31_3, hcz31_4, hcz31_5, hcz31_6, hcz31_7, hfz31_0, hfz31_1, hfz31_2, hfz31_3, hfz31_4, hfz31_5, hfz31_6, hfz31_7⟩ := bc8 BK333.out
      go_wp2
      go_ret
      exact ⟨rq, bz⟩
    ·replace c24 := Bool.eq_false_iff.mpr c24
     subst c24
     have H1 : (some false) = some r := by rw [if_neg (show ¬ (false = true) by decide)] at H; exact H
     clear H
     have H := H1
     clear H1
     obtain rfl := Option.some.inj H
     go_wp2
     go_ret
     exact ⟨rq, bz⟩
   ·replace c17 := Bool.eq_false_iff.mpr c17
    subst c17
    have H1 : (some false) = some r := by rw [if_neg (show ¬ (false = true) by decide)] at H; exact H
    clear H
    have H := H1
    clear H1
    obtain rfl := Option.some.inj H
    go_wp2
    go_ret
    exact ⟨rq, bz⟩
  ·rw [if_neg c10] at H
   have c10b0 : (a0_1 == a1_1) = false := beq_eq_false_iff_ne.mpr c10
   have c10b1 : (a0_1 != a1_1) = true := bne_iff_ne.mpr c10
   obtain rfl := Option.some.inj H
   have hnb32 := NB332_333.out
   have hnc32 := NB333_332.out
   obtain ⟨hcz33_0, hcz33_1, hcz33_2, hcz33_3, hcz33_4, hcz33_5, hcz33_6, hcz33_7, hfz33_0, hfz33_1, hfz33_2, hfz33_3, hfz33_4, hfz33_5, hfz33_6, hfz33_7⟩ := bc8 BK332.out
   obtain ⟨hcz34_0, hcz34_1, hcz34_2, hcz34_3, hcz34_4, hcz34_5, hcz34_6, hcz34_7, hfz34_0, hfz34_1, hfz34_2, hfz34_3, hfz34_4, hfz34_5, hfz34_6, hfz34_7⟩ := bc8 BK333.out
   go_wp2
   go_ret
   exact ⟨rq, bz⟩
 ·rw [if_neg c9] at H
  have c9b0 : (a0_0 == a1_0) = false := beq_eq_false_iff_ne.mpr c9
  have c9b1 : (a0_0 != a1_0) = true := bne_iff_ne.mpr c9
  (first | rw [c9b0] | (simp only [i64_w, i32_w]; rw [c9b0]) | skip)
  obtain rfl := Option.some.inj H
  go_wp2
  go_ret
  exact ⟨rq, bz⟩

/-! ### laws_FnExactTakeAnswer: function 4 -/
def laws_FnExactTakeAnswer.j0 : Nat → Bool → Int → Int → Int → Int → List Int → List ByteArray → List (S165) → ByteArray → Int → Int → Int → Int → List Int → List ByteArray → List (S148) → ByteArray → Option (Bool)
 | 0, _, _, _, _, _, _, _, _, _, _, _, _, _, _, _, _, _ => none
 | k + 1, x41, x337000, x337001, x337002, x337003, x337004, x337005, x337006, x337007, x369000, x369001, x369002, x369003, x369004, x369005, x369006, x369007 => if x41 = true then (some false) else ((laws_toMsg.f k x337000 x337001 x337002 x337003 x337004 x337005 x337006 x337007).bind fun bt371 => ((laws_eqMsg.f k x369000 x369001 x369002 x369003 x369004 x369005 x369006 x369007 bt371.1 bt371.2.1 bt371.2.2.1 bt371.2.2.2.1 bt371.2.2.2.2.1 bt371.2.2.2.2.2.1 bt371.2.2.2.2.2.2.1 bt371.2.2.2.2.2.2.2).bind fun t385 => (if t385 = true then (some true) else (some false))))
def laws_FnExactTakeAnswer.f (k : Nat) (a0_0 : Int) (a0_1 : Int) (a0_2 : Int) (a0_3 : Int) (l0_4 : List Int) (l0_5 : List ByteArray) (l0_6 : List (S165)) (a0_7 : ByteArray) (a1 : ByteArray) : Option (Bool) := if (a1.size : Int) > 1048576 then (some true) else ((laws_szMsg.f k a0_0 a0_1 a0_2 a0_3 l0_4 l0_5 l0_6 a0_7 1048576).bind fun t337 => (if t337 < 0 then (some true) else ((laws_toMsg.f k a0_0 a0_1 a0_2 a0_3 l0_4 l0_5 l0_6 a0_7).bind fun bt338 => ((spec_TakeAnswer.f k bt338.1 bt338.2.1 bt338.2.2.1 bt338.2.2.2.1 bt338.2.2.2.2.1 bt338.2.2.2.2.2.1 bt338.2.2.2.2.2.2.1 bt338.2.2.2.2.2.2.2 a1).bind fun bt352 => ((laws_toMsg.f k a0_0 a0_1 a0_2 a0_3 l0_4 l0_5 l0_6 a0_7).bind fun bt354 => ((impl_TakeAnswer.f k bt354.1 bt354.2.1 bt354.2.2.1 bt354.2.2.2.1 bt354.2.2.2.2.1 bt354.2.2.2.2.2.1 bt354.2.2.2.2.2.2.1 bt354.2.2.2.2.2.2.2 a1).bind fun bt369 => (if bt369.1.toList = bt352.1.toList then (laws_FnExactTakeAnswer.j0 k (bt369.2 != bt352.2) a0_0 a0_1 a0_2 a0_3 l0_4 l0_5 l0_6 a0_7 bt354.1 bt354.2.1 bt354.2.2.1 bt354.2.2.2.1 bt354.2.2.2.2.1 bt354.2.2.2.2.2.1 bt354.2.2.2.2.2.2.1 bt354.2.2.2.2.2.2.2) else (laws_FnExactTakeAnswer.j0 k true a0_0 a0_1 a0_2 a0_3 l0_4 l0_5 l0_6 a0_7 bt354.1 bt354.2.1 bt354.2.2.1 bt354.2.2.2.1 bt354.2.2.2.2.1 bt354.2.2.2.2.2.1 bt354.2.2.2.2.2.2.1 bt354.2.2.2.2.2.2.2))))))))
theorem laws_FnExactTakeAnswer.mono_l : ∀ k, (∀ y0 y1 y2 y3 y4 y5 y6 y7 y8 y9 y10 y11 y12 y13 y14 y15 y16, LeO (laws_FnExactTakeAnswer.j0 k y0 y1 y2 y3 y4 y5 y6 y7 y8 y9 y10 y11 y12 y13 y14 y15 y16) (laws_FnExactTakeAnswer.j0 (k + 1) y0 y1 y2 y3 y4 y5 y6 y7 y8 y9 y10 y11 y12 y13 y14 y15 y16))
 | 0 => fun _ _ _ _ _ _ _ _ _ _ _ _ _ _ _ _ _ r h => by simp [laws_FnExactTakeAnswer.j0] at h
 | k + 1 => by
  have ih0 := laws_FnExactTakeAnswer.mono_l k
  ·intro y0 y1 y2 y3 y4 y5 y6 y7 y8 y9 y10 y11 y12 y13 y14 y15 y16
   unfold laws_FnExactTakeAnswer.j0
   repeat' first | (with_reducible first | exact ih0 _ _ _ _ _ _ _ _ _ _ _ _ _ _ _ _ _ | exact impl_TakeAnswer.mono _ _ _ _ _ _ _ _ _ _ | exact laws_eqMsg.mono _ _ _ _ _ _ _ _ _ _ _ _ _ _ _ _ _ | exact laws_szMsg.mono _ _ _ _ _ _ _ _ _ _ | exact laws_toMsg.mono _ _ _ _ _ _ _ _ _ | exact spec_TakeAnswer.mono _ _ _ _ _ _ _ _ _ _ | exact LeO.refl _ | exact LeO.none _ | refine LeO.ite ?_ ?_ | refine LeO.bind ?_ (fun _ => ?_)) | exact ih0 _ _ _ _ _ _ _ _ _ _ _ _ _ _ _ _ _ | exact impl_TakeAnswer.mono _ _ _ _ _ _ _ _ _ _ | exact laws_eqMsg.mono _ _ _ _ _ _ _ _ _ _ _ _ _ _ _ _ _ | exact laws_szMsg.mono _ _ _ _ _ _ _ _ _ _ | exact laws_toMsg.mono _ _ _ _ _ _ _ _ _ | exact spec_TakeAnswer.mono _ _ _ _ _ _ _ _ _ _ | exact LeO.none _ | refine LeO.ite ?_ ?_ | refine LeO.bind ?_ (fun _ => ?_)
theorem laws_FnExactTakeAnswer.mono : ∀ a0 a1 a2 a3 a4 a5 a6 a7 a8 k, LeO (laws_FnExactTakeAnswer.f k a0 a1 a2 a3 a4 a5 a6 a7 a8) (laws_FnExactTakeAnswer.f (k + 1) a0 a1 a2 a3 a4 a5 a6 a7 a8) := by
 intro a0 a1 a2 a3 a4 a5 a6 a7 a8 k
 have ih0 := laws_FnExactTakeAnswer.mono_l k
 unfold laws_FnExactTakeAnswer.f
 repeat' first | (with_reducible first | exact ih0 _ _ _ _ _ _ _ _ _ _ _ _ _ _ _ _ _ | exact impl_TakeAnswer.mono _ _ _ _ _ _ _ _ _ _ | exact laws_eqMsg.mono _ _ _ _ _ _ _ _ _ _ _ _ _ _ _ _ _ | exact laws_szMsg.mono _ _ _ _ _ _ _ _ _ _ | exact laws_toMsg.mono _ _ _ _ _ _ _ _ _ | exact spec_TakeAnswer.mono _ _ _ _ _ _ _ _ _ _ | exact LeO.refl _ | exact LeO.none _ | refine LeO.ite ?_ ?_ | refine LeO.bind ?_ (fun _ => ?_)) | exact ih0 _ _ _ _ _ _ _ _ _ _ _ _ _ _ _ _ _ | exact impl_TakeAnswer.mono _ _ _ _ _ _ _ _ _ _ | exact laws_eqMsg.mono _ _ _ _ _ _ _ _ _ _ _ _ _ _ _ _ _ | exact laws_szMsg.mono _ _ _ _ _ _ _ _ _ _ | exact laws_toMsg.mono _ _ _ _ _ _ _ _ _ | exact spec_TakeAnswer.mono _ _ _ _ _ _ _ _ _ _ | exact LeO.none _ | refine LeO.ite ?_ ?_ | refine LeO.bind ?_ (fun _ => ?_)
set_option maxHeartbeats 8000000 in
set_option maxRecDepth 100000 in
theorem laws_FnExactTakeAnswer.calls (k : Nat) (a0_0 : Int) (a0_1 : Int) (a0_2 : Int) (a0_3 : Int) (A0_4 : Option Addr) (c0_4 : Nat) (l0_4 : List Int) (A0_5 : Option Addr) (c0_5 : Nat) (l0_5 : List ByteArray) (A0_6 : Option Addr) (c0_6 : Nat) (l0_6 : List (S165)) (a0_7 : ByteArray) (a1 : ByteArray) (r : Bool) (w : World) (hr0_4 : Kd.C (Kd.int .u32) w A0_4 l0_4.length l0_4) (hc0_4 : l0_4.length ≤ c0_4) (hr0_5 : Kd.C Kd.string w A0_5 l0_5.length l0_5) (hc0_5 : l0_5.length ≤ c0_5) (hr0_6 : Kd.C k165 w A0_6 l0_6.length l0_6) (hc0_6 : l0_6.length ≤ c0_6) (h : laws_FnExactTakeAnswer.f k a0_0 a0_1 a0_2 a0_3 l0_4 l0_5 l0_6 a0_7 a1 = some r) (hT : Go.Proofs.YtjiaigjmihmdjaaDoor.Sum.Tabs w := by exact Go.Proofs.YtjiaigjmihmdjaaDoor.Sum.Tabs.at HT.out (by repeat (first | (with_reducible first | exact HB.out | apply below_alloc | apply pw_below_drewN | apply below_drew1 | refine below_set ?_ (Aside0.out (by assumption))) | exact HB.out))) :
  Calls Tryd.prog 4 #[.agg #[.int .i64 a0_0, .int .i64 a0_1, .int .i64 a0_2, .int .i64 a0_3, .slice A0_4 l0_4.length c0_4, .slice A0_5 l0_5.length c0_5, .slice A0_6 l0_6.length c0_6, .string a0_7], .string a1] w fun e w' => e = .returned (.bool r) ∧ Below w.heap.size w w' := by
 have HT := Aside0.mk hT
 clear hT
 have hu43 := Tryd.underlying43
 have hu49 := Tryd.underlying49
 have HR0_4 := Aside0.mk hr0_4
 have HC0_4 := Aside0.mk hc0_4
 clear hr0_4 hc0_4
 have HR0_5 := Aside0.mk hr0_5
 have HC0_5 := Aside0.mk hc0_5
 clear hr0_5 hc0_5
 have HR0_6 := Aside0.mk hr0_6
 have HC0_6 := Aside0.mk hc0_6
 clear hr0_6 hc0_6
 have HB := Aside0.mk (Below.refl w.heap.size w)
 have H : (if (a1.size : Int) > 1048576 then (some true) else ((laws_szMsg.f k a0_0 a0_1 a0_2 a0_3 l0_4 l0_5 l0_6 a0_7 1048576).bind fun t337 => (if t337 < 0 then (some true) else ((laws_toMsg.f k a0_0 a0_1 a0_2 a0_3 l0_4 l0_5 l0_6 a0_7).bind fun bt338 => ((spec_TakeAnswer.f k bt338.1 bt338.2.1 bt338.2.2.1 bt338.2.2.2.1 bt338.2.2.2.2.1 bt338.2.2.2.2.2.1 bt338.2.2.2.2.2.2.1 bt338.2.2.2.2.2.2.2 a1).bind fun bt352 => ((laws_toMsg.f k a0_0 a0_1 a0_2 a0_3 l0_4 l0_5 l0_6 a0_7).bind fun bt354 => ((impl_TakeAnswer.f k bt354.1 bt354.2.1 bt354.2.2.1 bt354.2.2.2.1 bt354.2.2.2.2.1 bt354.2.2.2.2.2.1 bt354.2.2.2.2.2.2.1 bt354.2.2.2.2.2.2.2 a1).bind fun bt369 => (if bt369.1.toList = bt352.1.toList then (laws_FnExactTakeAnswer.j0 k (bt369.2 != bt352.2) a0_0 a0_1 a0_2 a0_3 l0_4 l0_5 l0_6 a0_7 bt354.1 bt354.2.1 bt354.2.2.1 bt354.2.2.2.1 bt354.2.2.2.2.1 bt354.2.2.2.2.2.1 bt354.2.2.2.2.2.2.1 bt354.2.2.2.2.2.2.2) else (laws_FnExactTakeAnswer.j0 k true a0_0 a0_1 a0_2 a0_3 l0_4 l0_5 l0_6 a0_7 bt354.1 bt354.2.1 bt354.2.2.1 bt354.2.2.2.1 bt354.2.2.2.2.1 bt354.2.2.2.2.2.1 bt354.2.2.2.2.2.2.1 bt354.2.2.2.2.2.2.2))))))))) = some r := h
 clear h
 have HC3 := Aside0.mk H
 clear H
 go_enter Tryd.func4, Tryd.ntmps4
 go_upto_if 13 with (first | ((with_reducible refine gate_dst (N := 2) rfl ?_); refine box_event ?hg (N := 2) ?hd (cs := #[.int .i64 a0_0, .int .i64 a0_1, .int .i64 a0_2, .int .i64 a0_3, .slice A0_4 l0_4.length c0_4, .slice A0_5 l0_5.length c0_5, .slice A0_6 l0_6.length c0_6, .string a0_7]) (t := 43) ?hr ?_; (case hd => rfl); (case hg => rfl); (case hr => first | (go_simp; done) | (go_simp; rfl)); intro gb336 hg w4 hbox hb; have n0_ := Aside0.mk (below_step bz hb); have n1_ := Aside0.mk (hbox); have n2_ := Aside0.mk (bg : w.heap.size ≤ gb336); have n3_ := Aside0.mk (bg : w.heap.size ≤ gb336); clear HB; have HB := n0_; have BK336 := n1_; have GW336 := n2_; have GE336 := n3_; clear n0_ n1_ n2_ n3_; clear hb hbox hg))
 (try simp only [Act.put, List.setIfInBounds_toArray, List.set_cons_zero, List.set_cons_succ])
 have H := HC3.out
 clear HC3
 by_cases c5 : (a1.size : Int) > 1048576
 ·rw [if_pos c5] at H
  have c5b0 : decide (1048576 < (a1.size : Int)) = true := decide_eq_true c5
  have c5b1 : decide (1048576 < a1.size) = true := decide_eq_true (by omega)
  clear c5
  (first | rw [c5b0] | (simp only [i64_w, i32_w]; rw [c5b0]) | skip)
  obtain rfl := Option.some.inj H
  go_wp2
  go_ret
  exact ⟨rq, bz⟩
 ·rw [if_neg c5] at H
  have c5b0 : decide (1048576 < (a1.size : Int)) = false := decide_eq_false c5
  have c5b1 : decide (1048576 < a1.size) = false := decide_eq_false (by omega)
  clear c5
  (first | rw [c5b0] | (simp only [i64_w, i32_w]; rw [c5b0]) | skip)
  replace H := Option.bind_eq_some_iff.mp H
  obtain ⟨t337, A60, H⟩ := H
  try dsimp -simprocs only at H
  have A6 := Aside0.mk A60
  clear A60
  have HC7 := Aside0.mk H
  clear H
  obtain ⟨hcz8_0, hcz8_1, hcz8_2, hcz8_3, hcz8_4, hcz8_5, hcz8_6, hcz8_7, hfz8_0, hfz8_1, hfz8_2, hfz8_3, hfz8_4, hfz8_5, hfz8_6, hfz8_7⟩ := bc8 BK336.out
  go_upto_if 18 with (first | ((with_reducible refine gate_callee (f := 21) rfl ?_); refine goesL_ (some 16) rfl rfl Tryd.func21 (by kernel_rfl) rfl #[.agg #[.int .i64 a0_0, .int .i64 a0_1, .int .i64 a0_2, .int .i64 a0_3, .slice A0_4 l0_4.length c0_4, .slice A0_5 l0_5.length c0_5, .slice A0_6 l0_6.length c0_6, .string a0_7], .int .i64 1048576] rfl mt ?_; (with_reducible refine (laws_szMsg.calls k a0_0 a0_1 a0_2 a0_3 _ _ l0_4 _ _ l0_5 _ _ l0_6 a0_7 1048576 t337 _ ?side1 ?side2 ?side3 ?side4 ?side5 ?side6 A6.out).mono ?_); (case side1 => exact cz HR0_4); (case side2 => exact HC0_4.out); (case side3 => exact cz HR0_5); (case side4 => exact HC0_5.out); (case side5 => exact cz HR0_6); (case side6 => exact HC0_6.out); rintro e w9 ⟨rfl, hb⟩; refine ⟨_, rfl, ?_⟩; have n0_ := Aside0.mk (blk_below (bo BK336) hb); have n1_ := Aside0.mk (below_step bz hb); clear BK336; clear HB; have BK336 := n0_; have HB := n1_; clear n0_ n1_; (try clear hb); (try clear hb2); (try clear hk); (try clear hi)))
  (try simp only [Act.put, List.setIfInBounds_toArray, List.set_cons_zero, List.set_cons_succ])
  have H := HC7.out
  clear HC7
  by_cases c10 : t337 < 0
  ·rw [if_pos c10] at H
   have c10b0 : decide (t337 < 0) = true := decide_eq_true c10
   clear c10
   (first | rw [c10b0] | (simp only [i64_w, i32_w]; rw [c10b0]) | skip)
   obtain rfl := Option.some.inj H
   go_wp2
   go_ret
   exact ⟨rq, bz⟩
  ·rw [if_neg c10] at H
   have c10b0 : decide (t337 < 0) = false := decide_eq_false c10
   clear c10
   (first | rw [c10b0] | (simp only [i64_w, i32_w]; rw [c10b0]) | skip)
   replace H := Option.bind_eq_some_iff.mp H
   obtain ⟨⟨t338, t339, t340, t341, t342, t345, t348, t351⟩, A110, H⟩ := H
   try dsimp -simprocs only at H
   have A11 := Aside0.mk A110
   clear A110
   replace H := Option.bind_eq_some_iff.mp H
   obtain ⟨⟨t352, t353⟩, A120, H⟩ := H
   try dsimp -simprocs only at H
   have A12 := Aside0.mk A120
   clear A120
   replace H := Option.bind_eq_some_iff.mp H
   obtain ⟨⟨t354, t355, t356, t357, t358, t361, t364, t367⟩, A130, H⟩ := H
   try dsimp -simprocs only at H
   have A13 := Aside0.mk A130
   clear A130
   replace H := Option.bind_eq_some_iff.mp H
   obtain ⟨⟨t369, t370⟩, A140, H⟩ := H
   try dsimp -simprocs only at H
   have A14 := Aside0.mk A140
   clear A140
   have HC15 := Aside0.mk H
   clear H
   obtain ⟨hcz16_0, hcz16_1, hcz16_2, hcz16_3, hcz16_4, hcz16_5, hcz16_6, hcz16_7, hfz16_0, hfz16_1, hfz16_2, hfz16_3, hfz16_4, hfz16_5, hfz16_6, hfz16_7⟩ := bc8 BK336.out
   go_upto_region 10 with (first | ((with_reducible refine gate_callee (f := 23) rfl ?_); refine goesL_ (some 21) rfl rfl Tryd.func23 (by kernel_rfl) rfl #[.agg #[.int .i64 a0_0, .int .i64 a0_1, .int .i64 a0_2, .int .i64 a0_3, .slice A0_4 l0_4.length c0_4, .slice A0_5 l0_5.length c0_5, .slice A0_6 l0_6.length c0_6, .string a0_7]] rfl mt ?_; (with_reducible refine (laws_toMsg.calls k a0_0 a0_1 a0_2 a0_3 _ _ l0_4 _ _ l0_5 _ _ l0_6 a0_7 t338 t339 t340 t341 t342 t345 t348 t351 _ ?side1 ?side2 ?side3 ?side4 ?side5 ?side6 A11.out).mono ?_); (case side1 => exact cz HR0_4); (case side2 => exact HC0_4.out); (case side3 => exact cz HR0_5); (case side4 => exact HC0_5.out); (case side5 => exact cz HR0_6); (case side6 => exact HC0_6.out); rintro e w17 ⟨v343, v346, v349, rfl, ho0, ho1, ho2, hb⟩; refine ⟨_, rfl, ?_⟩; have n0_ := Aside0.mk (Kd.R_lower ho0 (below_size bz)); have n1_ := Aside0.mk (Kd.R_lower ho1 (below_size bz)); have n2_ := Aside0.mk (Kd.R_lower ho2 (below_size bz)); have n3_ := Aside0.mk (blk_below (bo BK336) hb); have n4_ := Aside0.mk (below_step bz hb); clear BK336; clear HB; have HO344 := n0_; have HO347 := n1_; have HO350 := n2_; have BK336 := n3_; have HB := n4_; clear n0_ n1_ n2_ n3_ n4_; (try clear hb); (try clear hb2); (try clear hk); (try clear hi); (try clear ho0); (try clear ho1); (try clear ho2); obtain ⟨Ao18, co18, eo18⟩ := Kd.R_slice HO344.out; subst eo18; obtain ⟨Ao19, co19, eo19⟩ := Kd.R_slice HO347.out; subst eo19; obtain ⟨Ao20, co20, eo20⟩ := Kd.R_slice HO350.out; subst eo20) | ((with_reducible refine gate_callee (f := 22) rfl ?_); refine goesL_ (some 23) rfl rfl Tryd.func22 (by kernel_rfl) rfl #[.agg #[.int .i64 t338, .int .i64 t339, .int .i64 t340, .int .i64 t341, .slice Ao18 t342.length co18, .slice Ao19 t345.length co19, .slice Ao20 t348.length co20, .string t351], .string a1] rfl mt ?_; (with_reducible refine (spec_TakeAnswer.calls k t338 t339 t340 t341 _ _ t342 _ _ t345 _ _ t348 t351 a1 t352 t353 _ ?side1 ?side2 ?side3 ?side4 ?side5 ?side6 A12.out).mono ?_); (case side1 => repeat (first | exact (Kd.R_reads' HO344.out).2.2 | (with_reducible refine Kd.C_alloc ?_ _) | (with_reducible refine Kd.C_drewN ?_ _) | (with_reducible refine Kd.C_drew ?_))); (case side2 => exact (Kd.R_reads' HO344.out).2.1); (case side3 => repeat (first | exact (Kd.R_reads' HO347.out).2.2 | (with_reducible refine Kd.C_alloc ?_ _) | (with_reducible refine Kd.C_drewN ?_ _) | (with_reducible refine Kd.C_drew ?_))); (case side4 => exact (Kd.R_reads' HO347.out).2.1); (case side5 => repeat (first | exact (Kd.R_reads' HO350.out).2.2 | (with_reducible refine Kd.C_alloc ?_ _) | (with_reducible refine Kd.C_drewN ?_ _) | (with_reducible refine Kd.C_drew ?_))); (case side6 => exact (Kd.R_reads' HO350.out).2.1); rintro e w21 ⟨rfl, hb⟩; refine ⟨_, rfl, ?_⟩; have n0_ := Aside0.mk (Kd.R_below (by refine rs ?_; exact HO344.out) hb); have n1_ := Aside0.mk (Kd.R_below (by refine rs ?_; exact HO347.out) hb); have n2_ := Aside0.mk (Kd.R_below (by refine rs ?_; exact HO350.out) hb); have n3_ := Aside0.mk (blk_below (bo BK336) hb); have n4_ := Aside0.mk (below_step bz hb); clear HO344; clear HO347; clear HO350; clear BK336; clear HB; have HO344 := n0_; have HO347 := n1_; have HO350 := n2_; have BK336 := n3_; have HB := n4_; clear n0_ n1_ n2_ n3_ n4_; (try clear hb); (try clear hb2); (try clear hk); (try clear hi); obtain ⟨hcz22_0, hcz22_1, hcz22_2, hcz22_3, hcz22_4, hcz22_5, hcz22_6, hcz22_7, hfz22_0, hfz22_1, hfz22_2, hfz22_3, hfz22_4, hfz22_5, hfz22_6, hfz22_7⟩ := bc8 BK336.out) | ((with_reducible refine gate_callee (f := 23) rfl ?_); refine goesL_ (some 27) rfl rfl Tryd.func23 (by kernel_rfl) rfl #[.agg #[.int .i64 a0_0, .int .i64 a0_1, .int .i64 a0_2, .int .i64 a0_3, .slice A0_4 l0_4.length c0_4, .slice A0_5 l0_5.length c0_5, .slice A0_6 l0_6.length c0_6, .string a0_7]] rfl mt ?_; (with_reducible refine (laws_toMsg.calls k a0_0 a0_1 a0_2 a0_3 _ _ l0_4 _ _ l0_5 _ _ l0_6 a0_7 t354 t355 t356 t357 t358 t361 t364 t367 _ ?side1 ?side2 ?side3 ?side4 ?side5 ?side6 A13.out).mono ?_); (case side1 => exact cz HR0_4); (case side2 => exact HC0_4.out); (case side3 => exact cz HR0_5); (case side4 => exact HC0_5.out); (case side5 => exact cz HR0_6); (case side6 => exact HC0_6.out); rintro e w23 ⟨v359, v362, v365, rfl, ho0, ho1, ho2, hb⟩; refine ⟨_, rfl, ?_⟩; have n0_ := Aside0.mk (Kd.R_elder' (by refine rs ?_; exact HO344.out) (Kd.R_base ho0) hb); have n1_ := Aside0.mk (Kd.R_elder' (by refine rs ?_; exact HO347.out) (Kd.R_base ho1) hb); have n2_ := Aside0.mk (Kd.R_elder' (by refine rs ?_; exact HO350.out) (Kd.R_base ho2) hb); have n3_ := Aside0.mk (Kd.R_lower (Kd.R_new' ho0 (Kd.R_lt (by refine rs ?_; exact HO344.out))) (below_size bz)); have n4_ := Aside0.mk (Kd.R_lower (Kd.R_new' ho1 (Kd.R_lt (by refine rs ?_; exact HO347.out))) (below_size bz)); have n5_ := Aside0.mk (Kd.R_lower (Kd.R_new' ho2 (Kd.R_lt (by refine rs ?_; exact HO350.out))) (below_size bz)); have n6_ := Aside0.mk (blk_below (bo BK336) hb); have n7_ := Aside0.mk (below_step bz hb); clear HO344; clear HO347; clear HO350; clear BK336; clear HB; have HO344 := n0_; have HO347 := n1_; have HO350 := n2_; have HO360 := n3_; have HO363 := n4_; have HO366 := n5_; have BK336 := n6_; have HB := n7_; clear n0_ n1_ n2_ n3_ n4_ n5_ n6_ n7_; (try clear hb); (try clear hb2); (try clear hk); (try clear hi); (try clear ho0); (try clear ho1); (try clear ho2)) | ((with_reducible refine gate_dst (N := 8) rfl ?_); refine box_event ?hg (N := 8) ?hd (cs := #[.int .i64 0, .int .i64 0, .int .i64 0, .int .i64 0, .slice none 0 0, .slice none 0 0, .slice none 0 0, .string (⟨#[]⟩ : ByteArray)]) (t := 49) ?hr ?_; (case hd => rfl); (case hg => rfl); (case hr => first | (go_simp; done) | (go_simp; rfl)); intro gb368 hg w24 hbox hb; have n0_ := Aside0.mk (Kd.R_below (by refine rs ?_; exact HO344.out) hb); have n1_ := Aside0.mk (Kd.R_below (by refine rs ?_; exact HO347.out) hb); have n2_ := Aside0.mk (Kd.R_below (by refine rs ?_; exact HO350.out) hb); have n3_ := Aside0.mk (Kd.R_below (by refine rs ?_; exact HO360.out) hb); have n4_ := Aside0.mk (Kd.R_below (by refine rs ?_; exact HO363.out) hb); have n5_ := Aside0.mk (Kd.R_below (by refine rs ?_; exact HO366.out) hb); have n6_ := Aside0.mk (blk_below (bo BK336) hb); have n7_ := Aside0.mk (below_step bz hb); have n8_ := Aside0.mk (hbox); have n9_ := Aside0.mk (bg : w.heap.size ≤ gb368); have n10_ := Aside0.mk (bg : w.heap.size ≤ gb368); have n11_ := Aside0.mk ((by rw [hg]; exact Nat.ne_of_lt (blk_lt (bo BK336)) : gb336 ≠ gb368)); have n12_ := Aside0.mk ((by rw [hg]; exact Nat.ne_of_gt (blk_lt (bo BK336)) : gb368 ≠ gb336)); clear HO344; clear HO347; clear HO350; clear HO360; clear HO363; clear HO366; clear BK336; clear HB; have HO344 := n0_; have HO347 := n1_; have HO350 := n2_; have HO360 := n3_; have HO363 := n4_; have HO366 := n5_; have BK336 := n6_; have HB := n7_; have BK368 := n8_; have GW368 := n9_; have GE368 := n10_; have NB336_368 := n11_; have NB368_336 := n12_; clear n0_ n1_ n2_ n3_ n4_ n5_ n6_ n7_ n8_ n9_ n10_ n11_ n12_; clear hb hbox hg; have hnb25 := NB368_336.out; have hnc25 := NB336_368.out; obtain ⟨hcz26_0, hcz26_1, hcz26_2, hcz26_3, hcz26_4, hcz26_5, hcz26_6, hcz26_7, hfz26_0, hfz26_1, hfz26_2, hfz26_3, hfz26_4, hfz26_5, hfz26_6, hfz26_7⟩ := bc8 BK368.out; obtain ⟨Ao27, co27, eo27⟩ := Kd.R_slice HO360.out; subst eo27; obtain ⟨Ao28, co28, eo28⟩ := Kd.R_slice HO363.out; subst eo28; obtain ⟨Ao29, co29, eo29⟩ := Kd.R_slice HO366.out; subst eo29) | ((with_reducible refine gate_callee (f := 24) rfl ?_); refine goesL_ (some 31) rfl rfl Tryd.func24 (by kernel_rfl) rfl #[.agg #[.int .i64 t354, .int .i64 t355, .int .i64 t356, .int .i64 t357, .slice Ao27 t358.length co27, .slice Ao28 t361.length co28, .slice Ao29 t364.length co29, .string t367], .string a1] rfl mt ?_; (with_reducible refine (impl_TakeAnswer.calls k t354 t355 t356 t357 _ _ t358 _ _ t361 _ _ t364 t367 a1 t369 t370 _ ?side1 ?side2 ?side3 ?side4 ?side5 ?side6 A14.out).mono ?_); (case side1 => refine (Kd.R_reads' (e := 24) (base := w.heap.size) (ok := fun k_ => (True ∧ some k_ ≠ (.slice Ao18 t342.length co18 : Value).ownBlock)) (n := t358.length) (c := co27) ?_).2.2; exact (by refine rs ?_; exact (Kd.R_mono (Kd.rf (Kd.rf (Kd.rf (Kd.rf (Kd.rf (Kd.rf (Kd.rf (Kd.rf (Kd.R_types HO360.out BK368.out (by decide)))))))))) (fun _ h_ => h_.1)))); (case side2 => exact (Kd.R_reads' HO360.out).2.1); (case side3 => refine (Kd.R_reads' (e := 9) (base := w.heap.size) (ok := fun k_ => (True ∧ some k_ ≠ (.slice Ao19 t345.length co19 : Value).ownBlock)) (n := t361.length) (c := co28) ?_).2.2; exact (by refine rs ?_; exact (Kd.R_mono (Kd.rf (Kd.rf (Kd.rf (Kd.rf (Kd.rf (Kd.rf (Kd.rf (Kd.rf (Kd.R_types HO363.out BK368.out (by decide)))))))))) (fun _ h_ => h_.1)))); (case side4 => exact (Kd.R_reads' HO363.out).2.1); (case side5 => refine (Kd.R_reads' (e := 148) (base := w.heap.size) (ok := fun k_ => (True ∧ some k_ ≠ (.slice Ao20 t348.length co20 : Value).ownBlock)) (n := t364.length) (c := co29) ?_).2.2; exact (by refine rs ?_; exact (Kd.R_mono (Kd.rf (Kd.rf (Kd.rf (Kd.rf (Kd.rf (Kd.rf (Kd.rf (Kd.rf (Kd.R_types HO366.out BK368.out (by decide)))))))))) (fun _ h_ => h_.1)))); (case side6 => exact (Kd.R_reads' HO366.out).2.1); rintro e w30 ⟨rfl, hb⟩; refine ⟨_, rfl, ?_⟩; have n0_ := Aside0.mk (Kd.R_below (by refine rs ?_; exact (Kd.R_mono (Kd.rf (Kd.rf (Kd.rf (Kd.rf (Kd.rf (Kd.rf (Kd.rf (Kd.rf (Kd.R_types HO344.out BK368.out (by decide)))))))))) (fun _ h_ => h_.1))) hb); have n1_ := Aside0.mk (Kd.R_below (by refine rs ?_; exact (Kd.R_mono (Kd.rf (Kd.rf (Kd.rf (Kd.rf (Kd.rf (Kd.rf (Kd.rf (Kd.rf (Kd.R_types HO347.out BK368.out (by decide)))))))))) (fun _ h_ => h_.1))) hb); have n2_ := Aside0.mk (Kd.R_below (by refine rs ?_; exact (Kd.R_mono (Kd.rf (Kd.rf (Kd.rf (Kd.rf (Kd.rf (Kd.rf (Kd.rf (Kd.rf (Kd.R_types HO350.out BK368.out (by decide)))))))))) (fun _ h_ => h_.1))) hb); have n3_ := Aside0.mk (Kd.R_below (by refine rs ?_; exact (Kd.R_mono (Kd.rf (Kd.rf (Kd.rf (Kd.rf (Kd.rf (Kd.rf (Kd.rf (Kd.rf (Kd.R_types HO360.out BK368.out (by decide)))))))))) (fun _ h_ => h_.1))) hb); have n4_ := Aside0.mk (Kd.R_below (by refine rs ?_; exact (Kd.R_mono (Kd.rf (Kd.rf (Kd.rf (Kd.rf (Kd.rf (Kd.rf (Kd.rf (Kd.rf (Kd.R_types HO363.out BK368.out (by decide)))))))))) (fun _ h_ => h_.1))) hb); have n5_ := Aside0.mk (Kd.R_below (by refine rs ?_; exact (Kd.R_mono (Kd.rf (Kd.rf (Kd.rf (Kd.rf (Kd.rf (Kd.rf (Kd.rf (Kd.rf (Kd.R_types HO366.out BK368.out (by decide)))))))))) (fun _ h_ => h_.1))) hb); have n6_ := Aside0.mk (blk_below (bo BK336) hb); have n7_ := Aside0.mk (blk_below (g := gb368) (o := .cells #[.int .i64 t354, .int .i64 t355, .int .i64 t356, .int .i64 t357, .slice Ao27 t358.length co27, .slice Ao28 t361.length co28, .slice Ao29 t364.length co29, .string t367] 49 (0, 0)) bk hb); have n8_ := Aside0.mk (below_step bz hb); clear HO344; clear HO347; clear HO350; clear HO360; clear HO363; clear HO366; clear BK336; clear BK368; clear HB; have HO344 := n0_; have HO347 := n1_; have HO350 := n2_; have HO360 := n3_; have HO363 := n4_; have HO366 := n5_; have BK336 := n6_; have BK368 := n7_; have HB := n8_; clear n0_ n1_ n2_ n3_ n4_ n5_ n6_ n7_ n8_; (try clear hb); (try clear hb2); (try clear hk); (try clear hi)))
   (try simp only [Act.put, List.setIfInBounds_toArray, List.set_cons_zero, List.set_cons_succ])
   go_cut [41] (fun v41 wc => ∃ (kq : Nat) (x41_14 : Bool), v41 = .bool x41_14 ∧ Aside0 (laws_FnExactTakeAnswer.j0 kq x41_14 a0_0 a0_1 a0_2 a0_3 l0_4 l0_5 l0_6 a0_7 t354 t355 t356 t357 t358 t361 t364 t367 = some r) ∧ Aside0 (kq ≤ k) ∧ Aside0 (Kd.R (Kd.int .u32) 24 wc w.heap.size (fun _ => True) (.slice Ao27 t358.length co27) t358) ∧ Aside0 (Kd.R Kd.string 9 wc w.heap.size (fun _ => True) (.slice Ao28 t361.length co28) t361) ∧ Aside0 (Kd.R k148 148 wc w.heap.size (fun _ => True) (.slice Ao29 t364.length co29) t364) ∧ Aside0 (wc.heap[gb336]? = some (.cells #[.int .i64 a0_0, .int .i64 a0_1, .int .i64 a0_2, .int .i64 a0_3, (.slice A0_4 l0_4.length c0_4), (.slice A0_5 l0_5.length c0_5), (.slice A0_6 l0_6.length c0_6), .string a0_7] 43 (0, 0))) ∧ Aside0 (wc.heap[gb368]? = some (.cells #[.int .i64 t354, .int .i64 t355, .int .i64 t356, .int .i64 t357, (.slice Ao27 t358.length co27), (.slice Ao28 t361.length co28), (.slice Ao29 t364.length co29), .string t367] 49 (0, 0))) ∧ Aside0 (Below w.heap.size w wc))
   case first =>
    have H := HC15.out
    clear HC15
    by_cases c31 : t369.toList = t352.toList
    ·rw [if_pos c31] at H
     have c31b0 : (t369.toList == t352.toList) = true := beq_iff_eq.mpr c31
     have c31b1 : (t369.toList != t352.toList) = false := bne_eq_false_iff_eq.mpr c31
     clear c31
     (first | rw [c31b0] | (simp only [i64_w, i32_w]; rw [c31b0]) | skip)
     have H' := Aside0.mk H
     clear H
     go_wp2
     go_meet
     case rel => exact ⟨_, ((t370 != t353)), sd, H', ⟨ob⟩, ⟨by refine rs ?_; exact Kd.R_mono HO360.out (fun _ hk => trivial)⟩, ⟨by refine rs ?_; exact Kd.R_mono HO363.out (fun _ hk => trivial)⟩, ⟨by refine rs ?_; exact Kd.R_mono HO366.out (fun _ hk => trivial)⟩, ⟨(bo BK336)⟩, ⟨(bo BK368)⟩, ⟨bz⟩⟩
    ·rw [if_neg c31] at H
     have c31b0 : (t369.toList == t352.toList) = false := beq_eq_false_iff_ne.mpr c31
     have c31b1 : (t369.toList != t352.toList) = true := bne_iff_ne.mpr c31
     (first | rw [c31b0] | (simp only [i64_w, i32_w]; rw [c31b0]) | skip)
     have H' := Aside0.mk H
     clear H
     go_wp2
     go_meet
     case rel => exact ⟨_, (true), sd, H', ⟨ob⟩, ⟨by refine rs ?_; exact Kd.R_mono HO360.out (fun _ hk => trivial)⟩, ⟨by refine rs ?_; exact Kd.R_mono HO363.out (fun _ hk => trivial)⟩, ⟨by refine rs ?_; exact Kd.R_mono HO366.out (fun _ hk => trivial)⟩, ⟨(bo BK336)⟩, ⟨(bo BK368)⟩, ⟨bz⟩⟩
   case rest =>
    clear HC15
    try clear c1
    try clear c2
    try clear p2
    try clear c3
    try clear c4
    try clear c5
    try clear c5b0
    try clear c5b1
    try clear c10
    try clear c10b0
    try clear c21
    try clear c22
    try clear c23
    try clear c24
    try clear c25
    try clear c31
    try clear c31b0
    try clear c31b1
    try clear hcz16_0 hcz16_1 hcz16_2 hcz16_3 hcz16_4 hcz16_5 hcz16_6 hcz16_7 hfz16_0 hfz16_1 hfz16_2 hfz16_3 hfz16_4 hfz16_5 hfz16_6 hfz16_7
    try clear hcz22_0 hcz22_1 hcz22_2 hcz22_3 hcz22_4 hcz22_5 hcz22_6 hcz22_7 hfz22_0 hfz22_1 hfz22_2 hfz22_3 hfz22_4 hfz22_5 hfz22_6 hfz22_7
    try clear hcz26_0 hcz26_1 hcz26_2 hcz26_3 hcz26_4 hcz26_5 hcz26_6 hcz26_7 hfz26_0 hfz26_1 hfz26_2 hfz26_3 hfz26_4 hfz26_5 hfz26_6 hfz26_7
    try clear hcz8_0 hcz8_1 hcz8_2 hcz8_3 hcz8_4 hcz8_5 hcz8_6 hcz8_7 hfz8_0 hfz8_1 hfz8_2 hfz8_3 hfz8_4 hfz8_5 hfz8_6 hfz8_7
    obtain ⟨kq, x41_14, rfl, HA, HJ14, HO_369004, HO_369005, HO_369006, BK336, BK368, HB⟩ := hcut
    cases kq with
    | zero => exact absurd HA.out (by simp [laws_FnExactTakeAnswer.j0])
    | succ kj14 =>
     have H := HA.out
     clear HA
     simp only [laws_FnExactTakeAnswer.j0] at H
     by_cases c32 : x41_14 = true
     ·subst c32
      have H1 : (some false) = some r := by rw [if_pos rfl] at H; exact H
      clear H
      have H := H1
      clear H1
      obtain rfl := Option.some.inj H
      go_wp2
      go_ret
      exact ⟨rq, bz⟩
     ·replace c32 := Bool.eq_false_iff.mpr c32
      subst c32
      have H1 : ((laws_toMsg.f kj14 a0_0 a0_1 a0_2 a0_3 l0_4 l0_5 l0_6 a0_7).bind fun bt371 => ((laws_eqMsg.f kj14 t354 t355 t356 t357 t358 t361 t364 t367 bt371.1 bt371.2.1 bt371.2.2.1 bt371.2.2.2.1 bt371.2.2.2.2.1 bt371.2.2.2.2.2.1 bt371.2.2.2.2.2.2.1 bt371.2.2.2.2.2.2.2).bind fun t385 => (if t385 = true then (some true) else (some false)))) = some r := by rw [if_neg (show ¬ (false = true) by decide)] at H; exact H
      clear H
      have H := H1
      clear H1
      replace H := Option.bind_eq_some_iff.mp H
      obtain ⟨⟨t371, t372, t373, t374, t375, t378, t381, t384⟩, A330, H⟩ := H
      try dsimp -simprocs only at H
      have A33 := Aside0.mk A330
      clear A330
      replace H := Option.bind_eq_some_iff.mp H
      obtain ⟨t385, A340, H⟩ := H
      try dsimp -simprocs only at H
      have A34 := Aside0.mk A340
      clear A340
      have HC35 := Aside0.mk H
      clear H
      try go_wp2
      have n0_ := Aside0.mk (Kd.R_drew HO_369004.out)
      have n1_ := Aside0.mk (Kd.R_drew HO_369005.out)
      have n2_ := Aside0.mk (Kd.R_drew HO_369006.out)
      have n3_ := Aside0.mk (blk_drew BK336.out)
      have n4_ := Aside0.mk (blk_drew BK368.out)
      have n5_ := Aside0.mk (below_drew1 HB.out)
      clear HO_369004
      clear HO_369005
      clear HO_369006
      clear BK336
      clear BK368
      clear HB
      have HO_369004 := n0_
      have HO_369005 := n1_
      have HO_369006 := n2_
      have BK336 := n3_
      have BK368 := n4_
      have HB := n5_
      clear n0_ n1_ n2_ n3_ n4_ n5_
      refine start_ (n := 5) (S := fun w' => w'.cell? ⟨gb368, 0, none⟩ = some (.int .i64 t354) ∧ w'.cell? ⟨gb368, 1, none⟩ = some (.int .i64 t355) ∧ w'.cell? ⟨gb368, 2, none⟩ = some (.int .i64 t356) ∧ w'.cell? ⟨gb368, 3, none⟩ = some (.int .i64 t357) ∧ w'.cell? ⟨gb368, 4, none⟩ = some (.slice Ao27 t358.length co27) ∧ w'.cell? ⟨gb368, 5, none⟩ = some (.slice Ao28 t361.length co28) ∧ w'.cell? ⟨gb368, 6, none⟩ = some (.slice Ao29 t364.length co29) ∧ w'.cell? ⟨gb368, 7, none⟩ = some (.string t367) ∧ w'.cell? ⟨gb336, 0, none⟩ = some (.int .i64 a0_0) ∧ w'.cell? ⟨gb336, 1, none⟩ = some (.int .i64 a0_1) ∧ w'.cell? ⟨gb336, 2, none⟩ = some (.int .i64 a0_2) ∧ w'.cell? ⟨gb336, 3, none⟩ = some (.int .i64 a0_3) ∧ w'.cell? ⟨gb336, 4, none⟩ = some (.slice A0_4 l0_4.length c0_4) ∧ w'.cell? ⟨gb336, 5, none⟩ = some (.slice A0_5 l0_5.length c0_5) ∧ w'.cell? ⟨gb336, 6, none⟩ = some (.slice A0_6 l0_6.length c0_6) ∧ w'.cell? ⟨gb336, 7, none⟩ = some (.string a0_7)) (ds := []) #[false, false, false, false, false] (by kernel_rfl) rfl rfl ⟨(blk_cell BK368.out 0).trans rfl, (blk_cell BK368.out 1).trans rfl, (blk_cell BK368.out 2).trans rfl, (blk_cell BK368.out 3).trans rfl, (blk_cell BK368.out 4).trans rfl, (blk_cell BK368.out 5).trans rfl, (blk_cell BK368.out 6).trans rfl, (blk_cell BK368.out 7).trans rfl, (blk_cell BK336.out 0).trans rfl, (blk_cell BK336.out 1).trans rfl, (blk_cell BK336.out 2).trans rfl, (blk_cell BK336.out 3).trans rfl, (blk_cell BK336.out 4).trans rfl, (blk_cell BK336.out 5).trans rfl, (blk_cell BK336.out 6).trans rfl, (blk_cell BK336.out 7).trans rfl⟩ (fun hHeld => ?_)
      generalize wc.drew = w36 at HO_369004 HO_369005 HO_369006 BK336 BK368 HB hHeld ⊢
      refine take_ (i := 0) (N := some 42) (v := ?_) (a' := ?_) #[true, false, false, false, false] rfl rfl (by kernel_rfl) (fun _ _ _ h => h) (Or.inl ⟨by rfl, ?_⟩) hHeld ?_ ?_
      rotate_left
      ·rintro w' ⟨s0, s1, s2, s3, s4, s5, s6, s7, s8, s9, s10, s11, s12, s13, s14, s15⟩
       go_simp
       with_reducible rfl
      rotate_left
      ·simp only [Act.put, List.setIfInBounds_toArray, List.set_cons_zero, List.set_cons_succ, i64_w, i32_w]
       rfl
      refine take_ (i := 1) (N := some 43) (v := ?_) (a' := ?_) #[true, true, false, false, false] rfl rfl (by kernel_rfl) (fun _ _ _ h => h) (Or.inl ⟨by rfl, ?_⟩) hHeld ?_ ?_
      rotate_left
      ·rintro w' ⟨s0, s1, s2, s3, s4, s5, s6, s7, s8, s9, s10, s11, s12, s13, s14, s15⟩
       go_simp
       with_reducible rfl
      rotate_left
      ·simp only [Act.put, List.setIfInBounds_toArray, List.set_cons_zero, List.set_cons_succ, i64_w, i32_w]
       rfl
      refine one_ (i := 2) (N := some 44) #[true, true, true, false, false] rfl rfl (by kernel_rfl) (by decide) (fun K hK => ?_)
      refine goes_ Tryd.func23 (by kernel_rfl) rfl #[.agg #[.int .i64 a0_0, .int .i64 a0_1, .int .i64 a0_2, .int .i64 a0_3, .slice A0_4 l0_4.length c0_4, .slice A0_5 l0_5.length c0_5, .slice A0_6 l0_6.length c0_6, .string a0_7]] (by rfl) rfl rfl mt ?_
      with_reducible refine (laws_toMsg.calls kj14 a0_0 a0_1 a0_2 a0_3 _ _ l0_4 _ _ l0_5 _ _ l0_6 a0_7 t371 t372 t373 t374 t375 t378 t381 t384 _ ?side1 ?side2 ?side3 ?side4 ?side5 ?side6 A33.out).mono ?_
      (case side1 => exact cz HR0_4)
      (case side2 => exact HC0_4.out)
      (case side3 => exact cz HR0_5)
      (case side4 => exact HC0_5.out)
      (case side5 => exact cz HR0_6)
      (case side6 => exact HC0_6.out)
      rintro e w37 ⟨v376, v379, v382, rfl, ho0, ho1, ho2, hb⟩
      refine ⟨_, rfl, ?_⟩
      have n0_ := Aside0.mk (Kd.R_elder' (by refine rs ?_; exact HO_369004.out) (Kd.R_base ho0) hb)
      have n1_ := Aside0.mk (Kd.R_elder' (by refine rs ?_; exact HO_369005.out) (Kd.R_base ho1) hb)
      have n2_ := Aside0.mk (Kd.R_elder' (by refine rs ?_; exact HO_369006.out) (Kd.R_base ho2) hb)
      have n3_ := Aside0.mk (Kd.R_lower (Kd.R_new' ho0 (Kd.R_lt (by refine rs ?_; exact HO_369004.out))) (below_size bz))
      have n4_ := Aside0.mk (Kd.R_lower (Kd.R_new' ho1 (Kd.R_lt (by refine rs ?_; exact HO_369005.out))) (below_size bz))
      have n5_ := Aside0.mk (Kd.R_lower (Kd.R_new' ho2 (Kd.R_lt (by refine rs ?_; exact HO_369006.out))) (below_size bz))
      have n6_ := Aside0.mk (blk_below (bo BK336) hb)
      have n7_ := Aside0.mk (blk_below (bo BK368) hb)
      have n8_ := Aside0.mk (below_step bz hb)
      clear HO_369004
      clear HO_369005
      clear HO_369006
      clear BK336
      clear BK368
      clear HB
      have HO_369004 := n0_
      have HO_369005 := n1_
      have HO_369006 := n2_
      have HO377 := n3_
      have HO380 := n4_
      have HO383 := n5_
      have BK336 := n6_
      have BK368 := n7_
      have HB := n8_
      clear n0_ n1_ n2_ n3_ n4_ n5_ n6_ n7_ n8_
      (try clear hb)
      (try clear hb2)
      (try clear hk)
      (try clear hi)
      (try clear ho0)
      (try clear ho1)
      (try clear ho2)
      obtain ⟨Ao38, co38, eo38⟩ := Kd.R_slice HO377.out
      (first | subst eo38 | (injection eo38 with f1_ f2_ f3_; have f4_ := f1_.symm; have f5_ := f3_.symm; clear f1_ f2_ f3_; subst f4_; subst f5_))
      obtain ⟨Ao39, co39, eo39⟩ := Kd.R_slice HO380.out
      (first | subst eo39 | (injection eo39 with f1_ f2_ f3_; have f4_ := f1_.symm; have f5_ := f3_.symm; clear f1_ f2_ f3_; subst f4_; subst f5_))
      obtain ⟨Ao40, co40, eo40⟩ := Kd.R_slice HO383.out
      (first | subst eo40 | (injection eo40 with f1_ f2_ f3_; have f4_ := f1_.symm; have f5_ := f3_.symm; clear f1_ f2_ f3_; subst f4_; subst f5_))
      refine hK.out _ _ ⟨(blk_cell BK368.out 0).trans rfl, (blk_cell BK368.out 1).trans rfl, (blk_cell BK368.out 2).trans rfl, (blk_cell BK368.out 3).trans rfl, (blk_cell BK368.out 4).trans rfl, (blk_cell BK368.out 5).trans rfl, (blk_cell BK368.out 6).trans rfl, (blk_cell BK368.out 7).trans rfl, (blk_cell BK336.out 0).trans rfl, (blk_cell BK336.out 1).trans rfl, (blk_cell BK336.out 2).trans rfl, (blk_cell BK336.out 3).trans rfl, (blk_cell BK336.out 4).trans rfl, (blk_cell BK336.out 5).trans rfl, (blk_cell BK336.out 6).trans rfl, (blk_cell BK336.out 7).trans rfl⟩ (fun hHeld => ?_)
      clear hK K
      refine norm_ (a' := ?_) ?_ ?_
      rotate_left
      ·show Act.put _ (some 44) _ = _
       simp only [Act.put, List.setIfInBounds_toArray, List.set_cons_zero, List.set_cons_succ, i64_w, i32_w]
       rfl
      refine one_ (i := 3) (N := some 45) #[true, true, true, true, false] rfl rfl (by kernel_rfl) (by decide) (fun K hK => ?_)
      refine goes_ Tryd.func25 (by kernel_rfl) rfl #[.agg #[.int .i64 t354, .int .i64 t355, .int .i64 t356, .int .i64 t357, .slice Ao27 t358.length co27, .slice Ao28 t361.length co28, .slice Ao29 t364.length co29, .string t367], .agg #[.int .i64 t371, .int .i64 t372, .int .i64 t373, .int .i64 t374, .slice Ao38 t375.length co38, .slice Ao39 t378.length co39, .slice Ao40 t381.length co40, .string t384]] (by rfl) rfl rfl mt ?_
      with_reducible refine (laws_eqMsg.calls kj14 t354 t355 t356 t357 _ _ t358 _ _ t361 _ _ t364 t367 t371 t372 t373 t374 _ _ t375 _ _ t378 _ _ t381 t384 t385 _ ?side1 ?side2 ?side3 ?side4 ?side5 ?side6 ?side7 ?side8 ?side9 ?side10 ?side11 ?side12 A34.out).mono ?_
      (case side1 => repeat (first | exact (Kd.R_reads' HO_369004.out).2.2 | (with_reducible refine Kd.C_alloc ?_ _) | (with_reducible refine Kd.C_drewN ?_ _) | (with_reducible refine Kd.C_drew ?_)))
      (case side2 => exact (Kd.R_reads' HO_369004.out).2.1)
      (case side3 => repeat (first | exact (Kd.R_reads' HO_369005.out).2.2 | (with_reducible refine Kd.C_alloc ?_ _) | (with_reducible refine Kd.C_drewN ?_ _) | (with_reducible refine Kd.C_drew ?_)))
      (case side4 => exact (Kd.R_reads' HO_369005.out).2.1)
      (case side5 => repeat (first | exact (Kd.R_reads' HO_369006.out).2.2 | (with_reducible refine Kd.C_alloc ?_ _) | (with_reducible refine Kd.C_drewN ?_ _) | (with_reducible refine Kd.C_drew ?_)))
      (case side6 => exact (Kd.R_reads' HO_369006.out).2.1)
      (case side7 => repeat (first | exact (Kd.R_reads' HO377.out).2.2 | (with_reducible refine Kd.C_alloc ?_ _) | (with_reducible refine Kd.C_drewN ?_ _) | (with_reducible refine Kd.C_drew ?_)))
      (case side8 => exact (Kd.R_reads' HO377.out).2.1)
      (case side9 => repeat (first | exact (Kd.R_reads' HO380.out).2.2 | (with_reducible refine Kd.C_alloc ?_ _) | (with_reducible refine Kd.C_drewN ?_ _) | (with_reducible refine Kd.C_drew ?_)))
      (case side10 => exact (Kd.R_reads' HO380.out).2.1)
      (case side11 => repeat (first | exact (Kd.R_reads' HO383.out).2.2 | (with_reducible refine Kd.C_alloc ?_ _) | (with_reducible refine Kd.C_drewN ?_ _) | (with_reducible refine Kd.C_drew ?_)))
      (case side12 => exact (Kd.R_reads' HO383.out).2.1)
      rintro e w41 ⟨rfl, hb⟩
      refine ⟨_, rfl, ?_⟩
      have n0_ := Aside0.mk (Kd.R_below (by refine rs ?_; exact HO_369004.out) hb)
      have n1_ := Aside0.mk (Kd.R_below (by refine rs ?_; exact HO_369005.out) hb)
      have n2_ := Aside0.mk (Kd.R_below (by refine rs ?_; exact HO_369006.out) hb)
      have n3_ := Aside0.mk (Kd.R_below (by refine rs ?_; exact HO377.out) hb)
      have n4_ := Aside0.mk (Kd.R_below (by refine rs ?_; exact HO380.out) hb)
      have n5_ := Aside0.mk (Kd.R_below (by refine rs ?_; exact HO383.out) hb)
      have n6_ := Aside0.mk (blk_below (bo BK336) hb)
      have n7_ := Aside0.mk (blk_below (bo BK368) hb)
      have n8_ := Aside0.mk (below_step bz hb)
      clear HO_369004
      clear HO_369005
      clear HO_369006
      clear HO377
      clear HO380
      clear HO383
      clear BK336
      clear BK368
      clear HB
      have HO_369004 := n0_
      have HO_369005 := n1_
      have HO_369006 := n2_
      have HO377 := n3_
      have HO380 := n4_
      have HO383 := n5_
      have BK336 := n6_
      have BK368 := n7_
      have HB := n8_
      clear n0_ n1_ n2_ n3_ n4_ n5_ n6_ n7_ n8_
      (try clear hb)
      (try clear hb2)
      (try clear hk)
      (try clear hi)
      refine hK.out _ _ ⟨(blk_cell BK368.out 0).trans rfl, (blk_cell BK368.out 1).trans rfl, (blk_cell BK368.out 2).trans rfl, (blk_cell BK368.out 3).trans rfl, (blk_cell BK368.out 4).trans rfl, (blk_cell BK368.out 5).trans rfl, (blk_cell BK368.out 6).trans rfl, (blk_cell BK368.out 7).trans rfl, (blk_cell BK336.out 0).trans rfl, (blk_cell BK336.out 1).trans rfl, (blk_cell BK336.out 2).trans rfl, (blk_cell BK336.out 3).trans rfl, (blk_cell BK336.out 4).trans rfl, (blk_cell BK336.out 5).trans rfl, (blk_cell BK336.out 6).trans rfl, (blk_cell BK336.out 7).trans rfl⟩ (fun hHeld => ?_)
      clear hK K
      refine norm_ (a' := ?_) ?_ ?_
      rotate_left
      ·show Act.put _ (some 45) _ = _
       simp only [Act.put, List.setIfInBounds_toArray, List.set_cons_zero, List.set_cons_succ, i64_w, i32_w]
       rfl
      refine pure_ (i := 4) (N := some 46) (v := ?_) (a' := ?_) #[true, true, true, true, true] rfl rfl (by kernel_rfl) (fun _ _ _ h => h) (Or.inl ⟨by rfl, ?_⟩) ?_ ?_
      rotate_left
      ·intro w'
       go_simp
       with_reducible rfl
      rotate_left
      ·simp only [Act.put, List.setIfInBounds_toArray, List.set_cons_zero, List.set_cons_succ, i64_w, i32_w]
       rfl
      refine done_ (by kernel_rfl) ?_
      go_upto_if 46 with (fail)
      have H := HC35.out
      clear HC35
      by_cases c42 : t385 = true
      ·subst c42
       have H1 : (some true) = some r := by rw [if_pos rfl] at H; exact H
       clear H
       have H := H1
       clear H1
       obtain rfl := Option.some.inj H
       go_wp2
       go_ret
       exact ⟨rq, bz⟩
      ·replace c42 := Bool.eq_false_iff.mpr c42
       subst c42
       have H1 : (some false) = some r := by rw [if_neg (show ¬ (false = true) by decide)] at H; exact H
       clear H
       have H := H1
       clear H1
       obtain rfl := Option.some.inj H
       go_wp2
       go_ret
       exact ⟨rq, bz⟩

end Go.Proofs.YtjiaigjmihmdjaaDoor.PFnExactTakeAnswer
