
/- The machine's side, written by a program of this session (a turned print): each function as a plain Lean function, and that the call comes to it. -/
import Derived.Test.YtjiaigjmihmdjaaDoorPFnExactTakeAnswerx0
import Derived.Test.YtjiaigjmihmdjaaDoorPFnExactTakeAnswerx1
namespace Go.Proofs.YtjiaigjmihmdjaaDoor.PFnExactTakeAnswer
open Go.RowKit Go.Proofs.YtjiaigjmihmdjaaDoorW.PrintWords Go.Proofs.YtjiaigjmihmdjaaDoorW.PrintLast Go.Proofs.YtjiaigjmihmdjaaDoorW.PrintMore
attribute [local go_sem] max2_int min2_int max_two min_two max_three min_three max_four min_four   -- for this text's walks alone
set_option linter.unusedVariables false
set_option linter.unusedSimpArgs false

/-! ### spec_TokenOk: function 122 -/
def spec_TokenOk.f (a0_0 : Int) (a0_1 : ByteArray) (a0_2 : Int) (a0_3 : Int) : Option (Bool) := if a0_0 = 0 then ((spec_l01In.f (a0_1.size : Int) 1 100).bind fun t142 => (if t142 = true then (if a0_2 = 0 then (some (a0_3 == 0)) else (some false)) else (some false))) else (if a0_0 = 1 then (if a0_1.toList = ([] : List UInt8) then (if a0_2 ≥ 0 then (some (decide (a0_3 ≥ 1))) else (some false)) else (some false)) else (some false))
set_option maxHeartbeats 8000000 in
set_option maxRecDepth 100000 in
theorem spec_TokenOk.calls (a0_0 : Int) (a0_1 : ByteArray) (a0_2 : Int) (a0_3 : Int) (r : Bool) (w : World) (h : spec_TokenOk.f a0_0 a0_1 a0_2 a0_3 = some r) :
  Calls Tryd.prog 122 #[.agg #[.int .i64 a0_0, .string a0_1, .int .i64 a0_2, .int .i64 a0_3]] w fun e w' => e = .returned (.bool r) ∧ Below w.heap.size w w' := by
 have hu148 := Tryd.underlying148
 have HB := Aside0.mk (Below.refl w.heap.size w)
 have H : (if a0_0 = 0 then ((spec_l01In.f (a0_1.size : Int) 1 100).bind fun t142 => (if t142 = true then (if a0_2 = 0 then (some (a0_3 == 0)) else (some false)) else (some false))) else (if a0_0 = 1 then (if a0_1.toList = ([] : List UInt8) then (if a0_2 ≥ 0 then (some (decide (a0_3 ≥ 1))) else (some false)) else (some false)) else (some false))) = some r := h
 clear h
 have HC2 := Aside0.mk H
 clear H
 go_enter Tryd.func122, Tryd.ntmps122
 go_upto_if 5 with (first | ((with_reducible refine gate_dst (N := 1) rfl ?_); refine box_event ?hg (N := 1) ?hd (cs := #[.int .i64 a0_0, .string a0_1, .int .i64 a0_2, .int .i64 a0_3]) (t := 148) ?hr ?_; (case hd => rfl); (case hg => rfl); (case hr => first | (go_simp; done) | (go_simp; rfl)); intro gb141 hg w3 hbox hb; have n0_ := Aside0.mk (below_step bz hb); have n1_ := Aside0.mk (hbox); have n2_ := Aside0.mk (bg : w.heap.size ≤ gb141); have n3_ := Aside0.mk (bg : w.heap.size ≤ gb141); clear HB; have HB := n0_; have BK141 := n1_; have GW141 := n2_; have GE141 := n3_; clear n0_ n1_ n2_ n3_; clear hb hbox hg; obtain ⟨hcz4_0, hcz4_1, hcz4_2, hcz4_3, hfz4_0, hfz4_1, hfz4_2, hfz4_3⟩ := bc4 BK141.out))
 (try simp only [Act.put, List.setIfInBounds_toArray, List.set_cons_zero, List.set_cons_succ])
 have H := HC2.out
 clear HC2
 by_cases c5 : a0_0 = 0
 ·rw [if_pos c5] at H
  have c5b0 : (a0_0 == 0) = true := beq_iff_eq.mpr c5
  have c5b1 : (a0_0 != 0) = false := bne_eq_false_iff_eq.mpr c5
  clear c5
  (first | rw [c5b0] | (simp only [i64_w, i32_w]; rw [c5b0]) | skip)
  replace H := Option.bind_eq_some_iff.mp H
  obtain ⟨t142, A60, H⟩ := H
  try dsimp -simprocs only at H
  have A6 := Aside0.mk A60
  clear A60
  by_cases c7 : t142 = true
  ·subst c7
   have H1 : (if a0_2 = 0 then (some (a0_3 == 0)) else (some false)) = some r := by rw [if_pos rfl] at H; exact H
   clear H
   have H := H1
   clear H1
   by_cases c8 : a0_2 = 0
   ·rw [if_pos c8] at H
    have c8b0 : (a0_2 == 0) = true := beq_iff_eq.mpr c8
    have c8b1 : (a0_2 != 0) = false := bne_eq_false_iff_eq.mpr c8
    clear c8
    obtain rfl := Option.some.inj H
    obtain ⟨hcz9_0, hcz9_1, hcz9_2, hcz9_3, hfz9_0, hfz9_1, hfz9_2, hfz9_3⟩ := bc4 BK141.out
    go_wp2_with (first | ((with_reducible refine gate_callee (f := 73) rfl ?_); refine goesL_ (some 10) rfl rfl Tryd.func73 (by kernel_rfl) rfl #[.int .i64 (a0_1.size : Int), .int .i64 1, .int .i64 100] rfl mt ?_; (with_reducible refine (spec_l01In.calls (a0_1.size : Int) 1 100 true _ A6.out).mono ?_); rintro e w' ⟨rfl, ⟨nd, rfl⟩⟩; refine ⟨_, rfl, ?_⟩))
    go_ret
    exact ⟨rq, bz⟩
   ·rw [if_neg c8] at H
    have c8b0 : (a0_2 == 0) = false := beq_eq_false_iff_ne.mpr c8
    have c8b1 : (a0_2 != 0) = true := bne_iff_ne.mpr c8
    obtain rfl := Option.some.inj H
    obtain ⟨hcz10_0, hcz10_1, hcz10_2, hcz10_3, hfz10_0, hfz10_1, hfz10_2, hfz10_3⟩ := bc4 BK141.out
    go_wp2_with (first | ((with_reducible refine gate_callee (f := 73) rfl ?_); refine goesL_ (some 10) rfl rfl Tryd.func73 (by kernel_rfl) rfl #[.int .i64 (a0_1.size : Int), .int .i64 1, .int .i64 100] rfl mt ?_; (with_reducible refine (spec_l01In.calls (a0_1.size : Int) 1 100 true _ A6.out).mono ?_); rintro e w' ⟨rfl, ⟨nd, rfl⟩⟩; refine ⟨_, rfl, ?_⟩))
    go_ret
    exact ⟨rq, bz⟩
  ·replace c7 := Bool.eq_false_iff.mpr c7
   subst c7
   have H1 : (some false) = some r := by rw [if_neg (show ¬ (false = true) by decide)] at H; exact H
   clear H
   have H := H1
   clear H1
   obtain rfl := Option.some.inj H
   obtain ⟨hcz11_0, hcz11_1, hcz11_2, hcz11_3, hfz11_0, hfz11_1, hfz11_2, hfz11_3⟩ := bc4 BK141.out
   go_wp2_with (first | ((with_reducible refine gate_callee (f := 73) rfl ?_); refine goesL_ (some 10) rfl rfl Tryd.func73 (by kernel_rfl) rfl #[.int .i64 (a0_1.size : Int), .int .i64 1, .int .i64 100] rfl mt ?_; (with_reducible refine (spec_l01In.calls (a0_1.size : Int) 1 100 false _ A6.out).mono ?_); rintro e w' ⟨rfl, ⟨nd, rfl⟩⟩; refine ⟨_, rfl, ?_⟩))
   go_ret
   exact ⟨rq, bz⟩
 ·rw [if_neg c5] at H
  have c5b0 : (a0_0 == 0) = false := beq_eq_false_iff_ne.mpr c5
  have c5b1 : (a0_0 != 0) = true := bne_iff_ne.mpr c5
  (first | rw [c5b0] | (simp only [i64_w, i32_w]; rw [c5b0]) | skip)
  by_cases c12 : a0_0 = 1
  ·rw [if_pos c12] at H
   have c12b0 : (a0_0 == 1) = true := beq_iff_eq.mpr c12
   have c12b1 : (a0_0 != 1) = false := bne_eq_false_iff_eq.mpr c12
   clear c12
   by_cases c13 : a0_1.toList = ([] : List UInt8)
   ·rw [if_pos c13] at H
    have c13b0 : (a0_1.toList == ([] : List UInt8)) = true := beq_iff_eq.mpr c13
    have c13b1 : (a0_1.toList != ([] : List UInt8)) = false := bne_eq_false_iff_eq.mpr c13
    clear c13
    by_cases c14 : a0_2 ≥ 0
    ·rw [if_pos c14] at H
     have c14b0 : decide (0 ≤ a0_2) = true := decide_eq_true c14
     clear c14
     obtain rfl := Option.some.inj H
     obtain ⟨hcz15_0, hcz15_1, hcz15_2, hcz15_3, hfz15_0, hfz15_1, hfz15_2, hfz15_3⟩ := bc4 BK141.out
     go_wp2
     go_ret
     exact ⟨rq, bz⟩
    ·rw [if_neg c14] at H
     have c14b0 : decide (0 ≤ a0_2) = false := decide_eq_false c14
     clear c14
     obtain rfl := Option.some.inj H
     obtain ⟨hcz16_0, hcz16_1, hcz16_2, hcz16_3, hfz16_0, hfz16_1, hfz16_2, hfz16_3⟩ := bc4 BK141.out
     go_wp2
     go_ret
     exact ⟨rq, bz⟩
   ·rw [if_neg c13] at H
    have c13b0 : (a0_1.toList == ([] : List UInt8)) = false := beq_eq_false_iff_ne.mpr c13
    have c13b1 : (a0_1.toList != ([] : List UInt8)) = true := bne_iff_ne.mpr c13
    obtain rfl := Option.some.inj H
    obtain ⟨hcz17_0, hcz17_1, hcz17_2, hcz17_3, hfz17_0, hfz17_1, hfz17_2, hfz17_3⟩ := bc4 BK141.out
    go_wp2
    go_ret
    exact ⟨rq, bz⟩
  ·rw [if_neg c12] at H
   have c12b0 : (a0_0 == 1) = false := beq_eq_false_iff_ne.mpr c12
   have c12b1 : (a0_0 != 1) = true := bne_iff_ne.mpr c12
   obtain rfl := Option.some.inj H
   go_wp2
   go_ret
   exact ⟨rq, bz⟩

/-! ### spec_PutTokens: function 49 -/
mutual
def spec_PutTokens.l0 : Nat → List (S148) → List Int → Int → Option (List Int)
 | 0, _, _, _ => none
 | k + 1, x0, x3, x4 => if x4 < (x0.length : Int) then (if 0 ≤ x4 then ((spec_TokenOk.f ((rd_T148 x0 x4).f0) ((rd_T148 x0 x4).f1) ((rd_T148 x0 x4).f2) ((rd_T148 x0 x4).f3)).bind fun t151 => (if t151 = true then (if ((rd_T148 x0 x4).f2) > 1000000 then (spec_PutTokens.j1 k x0 x3 x4 true ((rd_T148 x0 x4).f0) ((rd_T148 x0 x4).f1) ((rd_T148 x0 x4).f2) ((rd_T148 x0 x4).f3)) else (spec_PutTokens.j1 k x0 x3 x4 (decide (((rd_T148 x0 x4).f3) > 1000000)) ((rd_T148 x0 x4).f0) ((rd_T148 x0 x4).f1) ((rd_T148 x0 x4).f2) ((rd_T148 x0 x4).f3))) else (spec_PutTokens.j1 k x0 x3 x4 true ((rd_T148 x0 x4).f0) ((rd_T148 x0 x4).f1) ((rd_T148 x0 x4).f2) ((rd_T148 x0 x4).f3)))) else (none)) else (if x3.length < 140737488355328 then (some (x3 ++ [0])) else (none))
def spec_PutTokens.j1 : Nat → List (S148) → List Int → Int → Bool → Int → ByteArray → Int → Int → Option (List Int)
 | 0, _, _, _, _, _, _, _, _ => none
 | k + 1, x0, x3, x4, x33, x151000, x151001, x151002, x151003 => if x33 = true then (some (([] : List Int))) else (if x151000 = 0 then ((spec_PutVar.f k (wrap64 (2 * (x151001.size : Int)))).bind fun t155 => (if x3.length + t155.length < 140737488355328 then ((some (x3 ++ t155 : List Int)).bind fun y158 => (if x151001.size ≤ 9223372036854775807 then ((some (bytesOf x151001 : List Int)).bind fun y161 => (if y158.length + y161.length < 140737488355328 then (spec_PutTokens.l0 k x0 (y158 ++ y161) (wrap64 (x4 + 1))) else (none))) else (none))) else (none))) else ((spec_PutVar.f k (wrap64 ((wrap64 (2 * x151003)) + 1))).bind fun t167 => (if x3.length + t167.length < 140737488355328 then ((some (x3 ++ t167 : List Int)).bind fun y170 => ((spec_PutVar.f k x151002).bind fun t173 => (if y170.length + t173.length < 140737488355328 then (spec_PutTokens.l0 k x0 (y170 ++ t173) (wrap64 (x4 + 1))) else (none)))) else (none))))
end
def spec_PutTokens.f (k : Nat) (l0 : List (S148)) : Option (List Int) := (some (([] : List Int) : List Int)).bind fun y143 => (if (l0.length : Int) > 20000 then (some y143) else (spec_PutTokens.l0 k l0 y143 0))
theorem spec_PutTokens.mono_l : ∀ k, (∀ y0 y1 y2, LeO (spec_PutTokens.l0 k y0 y1 y2) (spec_PutTokens.l0 (k + 1) y0 y1 y2)) ∧ (∀ y0 y1 y2 y3 y4 y5 y6 y7, LeO (spec_PutTokens.j1 k y0 y1 y2 y3 y4 y5 y6 y7) (spec_PutTokens.j1 (k + 1) y0 y1 y2 y3 y4 y5 y6 y7))
 | 0 => ⟨fun _ _ _ r h => by simp [spec_PutTokens.l0] at h, fun _ _ _ _ _ _ _ _ r h => by simp [spec_PutTokens.j1] at h⟩
 | k + 1 => by
  obtain ⟨ih0, ih1⟩ := spec_PutTokens.mono_l k
  refine ⟨?_, ?_⟩
  ·intro y0 y1 y2
   unfold spec_PutTokens.l0
   repeat' first | (with_reducible first | exact ih0 _ _ _ | exact ih1 _ _ _ _ _ _ _ _ | exact spec_PutVar.mono _ _ | exact LeO.refl _ | exact LeO.none _ | refine LeO.ite ?_ ?_ | refine LeO.bind ?_ (fun _ => ?_)) | exact ih0 _ _ _ | exact ih1 _ _ _ _ _ _ _ _ | exact spec_PutVar.mono _ _ | exact LeO.none _ | refine LeO.ite ?_ ?_ | refine LeO.bind ?_ (fun _ => ?_)
  ·intro y0 y1 y2 y3 y4 y5 y6 y7
   unfold spec_PutTokens.j1
   repeat' first | (with_reducible first | exact ih0 _ _ _ | exact ih1 _ _ _ _ _ _ _ _ | exact spec_PutVar.mono _ _ | exact LeO.refl _ | exact LeO.none _ | refine LeO.ite ?_ ?_ | refine LeO.bind ?_ (fun _ => ?_)) | exact ih0 _ _ _ | exact ih1 _ _ _ _ _ _ _ _ | exact spec_PutVar.mono _ _ | exact LeO.none _ | refine LeO.ite ?_ ?_ | refine LeO.bind ?_ (fun _ => ?_)
theorem spec_PutTokens.mono : ∀ a0 k, LeO (spec_PutTokens.f k a0) (spec_PutTokens.f (k + 1) a0) := by
 intro a0 k
 obtain ⟨ih0, ih1⟩ := spec_PutTokens.mono_l k
 unfold spec_PutTokens.f
 repeat' first | (with_reducible first | exact ih0 _ _ _ | exact ih1 _ _ _ _ _ _ _ _ | exact spec_PutVar.mono _ _ | exact LeO.refl _ | exact LeO.none _ | refine LeO.ite ?_ ?_ | refine LeO.bind ?_ (fun _ => ?_)) | exact ih0 _ _ _ | exact ih1 _ _ _ _ _ _ _ _ | exact spec_PutVar.mono _ _ | exact LeO.none _ | refine LeO.ite ?_ ?_ | refine LeO.bind ?_ (fun _ => ?_)
set_option maxHeartbeats 8000000 in
set_option maxRecDepth 100000 in
theorem spec_PutTokens.calls (k : Nat) (A0 : Option Addr) (c0 : Nat) (l0 : List (S148)) (r : List Int) (w : World) (hr0 : Kd.C k148 w A0 l0.length l0) (hc0 : l0.length ≤ c0) (h : spec_PutTokens.f k l0 = some r) :
  Calls Tryd.prog 49 #[.slice A0 l0.length c0] w fun e w' => ∃ v0_ : Value, e = .returned (v0_) ∧ Kd.R (Kd.int .u8) 5 w' w.heap.size (fun _ => True) v0_ r ∧ Below w.heap.size w w' := by
 have hu148 := Tryd.underlying148
 have HR0 := Aside0.mk hr0
 have HC0 := Aside0.mk hc0
 clear hr0 hc0
 have HB := Aside0.mk (Below.refl w.heap.size w)
 have H : ((some (([] : List Int) : List Int)).bind fun y143 => (if (l0.length : Int) > 20000 then (some y143) else (spec_PutTokens.l0 k l0 y143 0))) = some r := h
 clear h
 obtain ⟨y143, hy143⟩ : ∃ y_ : List Int, y_ = (([] : List Int)) := ⟨_, rfl⟩
 replace H : (if (l0.length : Int) > 20000 then (some y143) else (spec_PutTokens.l0 k l0 y143 0)) = some r := by first | (rw [hy143]; with_reducible exact H) | (have H2_ := (Option.bind_some _ _).symm.trans H; rw [hy143]; with_reducible exact H2_) | (have H2_ := (Option.bind_some _ _).symm.trans H; with_reducible exact H2_) | with_reducible exact H | (rw [hy143]; exact H) | exact H
 have Ny143 := Aside0.mk hy143
 clear hy143
 have HC2 := Aside0.mk H
 clear H
 go_enter Tryd.func49, Tryd.ntmps49
 go_upto_if 9 with (first | ((with_reducible refine gate_dst (N := 6) rfl ?_); refine Kd.R_lit (Kd.int .u8) _ 5 ?hg (N := 6) ?hd (xs := ([] : List Int)) (inner := []) (ok := fun _ => True) (okp := fun _ => True) ?hr ?hp (fun _ hk => hk) trivial (Below.refl _ _) (Nat.le_refl _) (by simp) ?_; (case hd => rfl); (case hg => rfl); (case hr => first | (go_simp; done) | (go_simp; rfl)); (case hp => exact (Reps.none _ _)); intro v144 w3 ho4 hb hg_ hnew_; clear hg_ hnew_; (first | rw [← Ny143.out] at ho4 | (simp only [Int.reduceToNat] at ho4; rw [← Ny143.out] at ho4)); have n0_ := Aside0.mk (Kd.R_lower ho4 (below_size bz)); have n1_ := Aside0.mk (below_step bz hb); clear HB; have HO145 := n0_; have HB := n1_; clear n0_ n1_; clear hb ho4))
 (try simp only [Act.put, List.setIfInBounds_toArray, List.set_cons_zero, List.set_cons_succ])
 have H := HC2.out
 clear HC2
 by_cases c5 : (l0.length : Int) > 20000
 ·rw [if_pos c5] at H
  have c5b0 : decide (20000 < (l0.length : Int)) = true := decide_eq_true c5
  have c5b1 : decide (20000 < l0.length) = true := decide_eq_true (by omega)
  clear c5
  (first | rw [c5b0] | (simp only [i64_w, i32_w]; rw [c5b0]) | skip)
  obtain rfl := Option.some.inj H
  go_wp2
  go_ret
  exact ⟨_, rq, by refine rs ?_; exact HO145.out, bz⟩
 ·rw [if_neg c5] at H
  have c5b0 : decide (20000 < (l0.length : Int)) = false := decide_eq_false c5
  have c5b1 : decide (20000 < l0.length) = false := decide_eq_false (by omega)
  clear c5
  (first | rw [c5b0] | (simp only [i64_w, i32_w]; rw [c5b0]) | skip)
  have H' := Aside0.mk H
  clear H
  go_wp2
  go_loopg [3, 4] k (fun kq v3 v4 w' => ∃ (x3_1 : List Int) (x4_1 : Int), v4 = .int .i64 x4_1 ∧ Aside0 (spec_PutTokens.l0 kq l0 x3_1 x4_1 = some r) ∧ Aside0 (kq ≤ k) ∧ Aside0 (Kd.R (Kd.int .u8) 5 w' w.heap.size (fun _ => True) v3 x3_1) ∧ Aside0 (Below w.heap.size w w'))
  case atStart => exact ⟨(y143), (0), sd, H', ⟨Nat.le_refl _⟩, ⟨by refine rs ?_; exact HO145.out⟩, ⟨bz⟩⟩
  case round =>
   clear H'
   try clear p2
   try clear c4
   try clear c5
   try clear c5b0
   try clear c5b1
   obtain ⟨x3_1, x4_1, rfl, HA, HK1, HO_3, HB⟩ := hrel
   cases gk with
   | zero => exact absurd HA.out (by simp [spec_PutTokens.l0])
   | succ k1 =>
    have H := HA.out
    clear HA
    simp only [spec_PutTokens.l0] at H
    by_cases c6 : x4_1 < (l0.length : Int)
    ·rw [if_pos c6] at H
     have c6b0 : decide (x4_1 < (l0.length : Int)) = true := decide_eq_true c6
     clear c6
     by_cases c7 : 0 ≤ x4_1
     ·rw [if_pos c7] at H
      have c7b0 : decide (0 ≤ x4_1) = true := decide_eq_true c7
      clear c7
      have HC8 := Aside0.mk H
      clear H
      have p149 : 0 ≤ (x4_1 : Int) := of_decide_eq_true am
      have q149 : x4_1 < (l0.length : Int) := of_decide_eq_true am
      obtain ⟨ad149, e149, hx149_0, hx149_1, hx149_2, hx149_3⟩ := at_T148 HR0.out x4_1 p149 q149
      cases e149
      replace hx149_0 := (HB.out.cell (World.block_lt_of_cell? w _ hx149_0)).trans hx149_0
      replace hx149_1 := (HB.out.cell (World.block_lt_of_cell? w _ hx149_1)).trans hx149_1
      replace hx149_2 := (HB.out.cell (World.block_lt_of_cell? w _ hx149_2)).trans hx149_2
      replace hx149_3 := (HB.out.cell (World.block_lt_of_cell? w _ hx149_3)).trans hx149_3
      replace p149 := eq_true p149
      replace q149 := eq_true q149
      go_upto_region 8 with (first | ((with_reducible refine gate_dst (N := 5) rfl ?_); refine box_event ?hg (N := 5) ?hd (cs := #[.int .i64 0, .string (⟨#[]⟩ : ByteArray), .int .i64 0, .int .i64 0]) (t := 148) ?hr ?_; (case hd => rfl); (case hg => rfl); (case hr => first | (go_simp; done) | (go_simp; rfl)); intro gb150 hg w9 hbox hb; have n0_ := Aside0.mk (Kd.R_below (by refine rs ?_; exact HO_3.out) hb); have n1_ := Aside0.mk (below_step bz hb); have n2_ := Aside0.mk (hbox); have n3_ := Aside0.mk (bg : w.heap.size ≤ gb150); have n4_ := Aside0.mk (bg : w.heap.size ≤ gb150); clear HO_3; clear HB; have HO_3 := n0_; have HB := n1_; have BK150 := n2_; have GW150 := n3_; have GE150 := n4_; clear n0_ n1_ n2_ n3_ n4_; clear hb hbox hg; obtain ⟨hcz10_0, hcz10_1, hcz10_2, hcz10_3, hfz10_0, hfz10_1, hfz10_2, hfz10_3⟩ := bc4 BK150.out))
      (try simp only [Act.put, List.setIfInBounds_toArray, List.set_cons_zero, List.set_cons_succ])
      go_cut [33] (fun v33 wc => ∃ (kq : Nat) (x33_7 : Bool), v33 = .bool x33_7 ∧ Aside0 (spec_PutTokens.j1 kq l0 x3_1 x4_1 x33_7 ((rd_T148 l0 x4_1).f0) ((rd_T148 l0 x4_1).f1) ((rd_T148 l0 x4_1).f2) ((rd_T148 l0 x4_1).f3) = some r) ∧ Aside0 (kq ≤ k1) ∧ Aside0 (Kd.R (Kd.int .u8) 5 wc w.heap.size (fun _ => True) u3 x3_1) ∧ Aside0 (wc.heap[gb150]? = some (.cells #[.int .i64 ((rd_T148 l0 x4_1).f0), .string ((rd_T148 l0 x4_1).f1), .int .i64 ((rd_T148 l0 x4_1).f2), .int .i64 ((rd_T148 l0 x4_1).f3)] 148 (0, 0))) ∧ Aside0 (Below w.heap.size w wc))
      case first =>
       have H := HC8.out
       clear HC8
       replace H := Option.bind_eq_some_iff.mp H
       obtain ⟨t151, A110, H⟩ := H
       try dsimp -simprocs only at H
       have A11 := Aside0.mk A110
       clear A110
       by_cases c12 : t151 = true
       ·subst c12
        have H1 : (if ((rd_T148 l0 x4_1).f2) > 1000000 then (spec_PutTokens.j1 k1 l0 x3_1 x4_1 true ((rd_T148 l0 x4_1).f0) ((rd_T148 l0 x4_1).f1) ((rd_T148 l0 x4_1).f2) ((rd_T148 l0 x4_1).f3)) else (spec_PutTokens.j1 k1 l0 x3_1 x4_1 (decide (((rd_T148 l0 x4_1).f3) > 1000000)) ((rd_T148 l0 x4_1).f0) ((rd_T148 l0 x4_1).f1) ((rd_T148 l0 x4_1).f2) ((rd_T148 l0 x4_1).f3))) = some r := by rw [if_pos rfl] at H; exact H
        clear H
        have H := H1
        clear H1
        by_cases c13 : ((rd_T148 l0 x4_1).f2) > 1000000
        ·rw [if_pos c13] at H
         have c13b0 : decide (1000000 < ((rd_T148 l0 x4_1).f2)) = true := decide_eq_true c13
         clear c13
         (first | rw [c13b0] | (simp only [i64_w, i32_w]; rw [c13b0]) | skip)
         have H' := Aside0.mk H
         clear H
         obtain ⟨hcz14_0, hcz14_1, hcz14_2, hcz14_3, hfz14_0, hfz14_1, hfz14_2, hfz14_3⟩ := bc4 BK150.out
         go_wp2_with (first | ((with_reducible refine gate_callee (f := 122) rfl ?_); refine goesL_ (some 22) rfl rfl Tryd.func122 (by kernel_rfl) rfl #[.agg #[.int .i64 ((rd_T148 l0 x4_1).f0), .string ((rd_T148 l0 x4_1).f1), .int .i64 ((rd_T148 l0 x4_1).f2), .int .i64 ((rd_T148 l0 x4_1).f3)]] rfl mt ?_; (with_reducible refine (spec_TokenOk.calls ((rd_T148 l0 x4_1).f0) ((rd_T148 l0 x4_1).f1) ((rd_T148 l0 x4_1).f2) ((rd_T148 l0 x4_1).f3) true _ A11.out).mono ?_); rintro e w15 ⟨rfl, hb⟩; refine ⟨_, rfl, ?_⟩; have n0_ := Aside0.mk (Kd.R_below (by refine rs ?_; exact (Kd.R_mono (Kd.rf (Kd.rf (Kd.rf (Kd.rf (Kd.R_types HO_3.out BK150.out (by decide)))))) (fun _ h_ => h_.1))) hb); have n1_ := Aside0.mk (blk_below (g := gb150) (o := .cells #[.int .i64 ((rd_T148 l0 x4_1).f0), .string ((rd_T148 l0 x4_1).f1), .int .i64 ((rd_T148 l0 x4_1).f2), .int .i64 ((rd_T148 l0 x4_1).f3)] 148 (0, 0)) bk hb); have n2_ := Aside0.mk (below_step bz hb); clear HO_3; clear BK150; clear HB; have HO_3 := n0_; have BK150 := n1_; have HB := n2_; clear n0_ n1_ n2_; (try clear hb); (try clear hb2); (try clear hk); (try clear hi); obtain ⟨hcz16_0, hcz16_1, hcz16_2, hcz16_3, hfz16_0, hfz16_1, hfz16_2, hfz16_3⟩ := bc4 BK150.out))
         go_meet
         case rel => exact ⟨_, (true), sd, H', ⟨by have := HK1.out; first | omega | exact Nat.le_refl _⟩, ⟨by refine rs ?_; exact HO_3.out⟩, ⟨(bo BK150)⟩, ⟨bz⟩⟩
        ·rw [if_neg c13] at H
         have c13b0 : decide (1000000 < ((rd_T148 l0 x4_1).f2)) = false := decide_eq_false c13
         clear c13
         (first | rw [c13b0] | (simp only [i64_w, i32_w]; rw [c13b0]) | skip)
         have H' := Aside0.mk H
         clear H
         obtain ⟨hcz17_0, hcz17_1, hcz17_2, hcz17_3, hfz17_0, hfz17_1, hfz17_2, hfz17_3⟩ := bc4 BK150.out
         go_wp2_with (first | ((with_reducible refine gate_callee (f := 122) rfl ?_); refine goesL_ (some 22) rfl rfl Tryd.func122 (by kernel_rfl) rfl #[.agg #[.int .i64 ((rd_T148 l0 x4_1).f0), .string ((rd_T148 l0 x4_1).f1), .int .i64 ((rd_T148 l0 x4_1).f2), .int .i64 ((rd_T148 l0 x4_1).f3)]] rfl mt ?_; (with_reducible refine (spec_TokenOk.calls ((rd_T148 l0 x4_1).f0) ((rd_T148 l0 x4_1).f1) ((rd_T148 l0 x4_1).f2) ((rd_T148 l0 x4_1).f3) true _ A11.out).mono ?_); rintro e w18 ⟨rfl, hb⟩; refine ⟨_, rfl, ?_⟩; have n0_ := Aside0.mk (Kd.R_below (by refine rs ?_; exact (Kd.R_mono (Kd.rf (Kd.rf (Kd.rf (Kd.rf (Kd.R_types HO_3.out BK150.out (by decide)))))) (fun _ h_ => h_.1))) hb); have n1_ := Aside0.mk (blk_below (g := gb150) (o := .cells #[.int .i64 ((rd_T148 l0 x4_1).f0), .string ((rd_T148 l0 x4_1).f1), .int .i64 ((rd_T148 l0 x4_1).f2), .int .i64 ((rd_T148 l0 x4_1).f3)] 148 (0, 0)) bk hb); have n2_ := Aside0.mk (below_step bz hb); clear HO_3; clear BK150; clear HB; have HO_3 := n0_; have BK150 := n1_; have HB := n2_; clear n0_ n1_ n2_; (try clear hb); (try clear hb2); (try clear hk); (try clear hi); obtain ⟨hcz19_0, hcz19_1, hcz19_2, hcz19_3, hfz19_0, hfz19_1, hfz19_2, hfz19_3⟩ := bc4 BK150.out))
         go_meet
         case rel => exact ⟨_, (decide (((rd_T148 l0 x4_1).f3) > 1000000)), sd, H', ⟨by have := HK1.out; first | omega | exact Nat.le_refl _⟩, ⟨by refine rs ?_; exact HO_3.out⟩, ⟨(bo BK150)⟩, ⟨bz⟩⟩
       ·replace c12 := Bool.eq_false_iff.mpr c12
        subst c12
        have H1 : (spec_PutTokens.j1 k1 l0 x3_1 x4_1 true ((rd_T148 l0 x4_1).f0) ((rd_T148 l0 x4_1).f1) ((rd_T148 l0 x4_1).f2) ((rd_T148 l0 x4_1).f3)) = some r := by rw [if_neg (show ¬ (false = true) by decide)] at H; exact H
        clear H
        have H := H1
        clear H1
        have H' := Aside0.mk H
        clear H
        obtain ⟨hcz20_0, hcz20_1, hcz20_2, hcz20_3, hfz20_0, hfz20_1, hfz20_2, hfz20_3⟩ := bc4 BK150.out
        go_wp2_with (first | ((with_reducible refine gate_callee (f := 122) rfl ?_); refine goesL_ (some 22) rfl rfl Tryd.func122 (by kernel_rfl) rfl #[.agg #[.int .i64 ((rd_T148 l0 x4_1).f0), .string ((rd_T148 l0 x4_1).f1), .int .i64 ((rd_T148 l0 x4_1).f2), .int .i64 ((rd_T148 l0 x4_1).f3)]] rfl mt ?_; (with_reducible refine (spec_TokenOk.calls ((rd_T148 l0 x4_1).f0) ((rd_T148 l0 x4_1).f1) ((rd_T148 l0 x4_1).f2) ((rd_T148 l0 x4_1).f3) false _ A11.out).mono ?_); rintro e w21 ⟨rfl, hb⟩; refine ⟨_, rfl, ?_⟩; have n0_ := Aside0.mk (Kd.R_below (by refine rs ?_; exact (Kd.R_mono (Kd.rf (Kd.rf (Kd.rf (Kd.rf (Kd.R_types HO_3.out BK150.out (by decide)))))) (fun _ h_ => h_.1))) hb); have n1_ := Aside0.mk (blk_below (g := gb150) (o := .cells #[.int .i64 ((rd_T148 l0 x4_1).f0), .string ((rd_T148 l0 x4_1).f1), .int .i64 ((rd_T148 l0 x4_1).f2), .int .i64 ((rd_T148 l0 x4_1).f3)] 148 (0, 0)) bk hb); have n2_ := Aside0.mk (below_step bz hb); clear HO_3; clear BK150; clear HB; have HO_3 := n0_; have BK150 := n1_; have HB := n2_; clear n0_ n1_ n2_; (try clear hb); (try clear hb2); (try clear hk); (try clear hi)))
        go_meet
        case rel => exact ⟨_, (true), sd, H', ⟨by have := HK1.out; first | omega | exact Nat.le_refl _⟩, ⟨by refine rs ?_; exact HO_3.out⟩, ⟨(bo BK150)⟩, ⟨bz⟩⟩
      case rest =>
       clear HC8
       try clear c1
       try clear p1
       try clear q1
       try clear hx1
       try clear p2
       try clear c4
       try clear c5
       try clear c5b0
       try clear c5b1
       try clear c6
       try clear c6b0
       try clear c7
       try clear c7b0
       try clear c12
       try clear c13
       try clear c13b0
       try clear p14
       try clear q14
       try clear hx14
       try clear hcz10_0 hcz10_1 hcz10_2 hcz10_3 hfz10_0 hfz10_1 hfz10_2 hfz10_3
       try clear hcz14_0 hcz14_1 hcz14_2 hcz14_3 hfz14_0 hfz14_1 hfz14_2 hfz14_3
       try clear hcz16_0 hcz16_1 hcz16_2 hcz16_3 hfz16_0 hfz16_1 hfz16_2 hfz16_3
       try clear hcz17_0 hcz17_1 hcz17_2 hcz17_3 hfz17_0 hfz17_1 hfz17_2 hfz17_3
       try clear hcz19_0 hcz19_1 hcz19_2 hcz19_3 hfz19_0 hfz19_1 hfz19_2 hfz19_3
       try clear hcz20_0 hcz20_1 hcz20_2 hcz20_3 hfz20_0 hfz20_1 hfz20_2 hfz20_3
       try clear hx149_0
       try clear hx149_1
       try clear hx149_2
       try clear hx149_3
       try clear p149
       try clear p2
       try clear q149
       obtain ⟨kq, x33_7, rfl, HA, HJ7, HO_3, BK150, HB⟩ := hcut
       cases kq with
       | zero => exact absurd HA.out (by simp [spec_PutTokens.j1])
       | succ kj7 =>
        have H := HA.out
        clear HA
        simp only [spec_PutTokens.j1] at H
        by_cases c22 : x33_7 = true
        ·subst c22
         have H1 : (some (([] : List Int))) = some r := by rw [if_pos rfl] at H; exact H
         clear H
         have H := H1
         clear H1
         obtain ⟨y152, hy152⟩ : ∃ y_ : List Int, y_ = (([] : List Int)) := ⟨_, rfl⟩
         replace H : (some y152) = some r := by first | (rw [hy152]; with_reducible exact H) | (have H2_ := (Option.bind_some _ _).symm.trans H; rw [hy152]; with_reducible exact H2_) | (have H2_ := (Option.bind_some _ _).symm.trans H; with_reducible exact H2_) | with_reducible exact H | (rw [hy152]; exact H) | exact H
         have Ny152 := Aside0.mk hy152
         clear hy152
         obtain rfl := Option.some.inj H
         go_wp2_with (first | ((with_reducible refine gate_dst (N := 34) rfl ?_); refine Kd.R_lit (Kd.int .u8) _ 5 ?hg (N := 34) ?hd (xs := ([] : List Int)) (inner := []) (ok := fun _ => True) (okp := fun _ => True) ?hr ?hp (fun _ hk => hk) trivial (Below.refl _ _) (Nat.le_refl _) (by simp) ?_; (case hd => rfl); (case hg => rfl); (case hr => first | (go_simp; done) | (go_simp; rfl)); (case hp => exact (Reps.none _ _)); intro v153 w23 ho24 hb hg_ hnew_; clear hg_ hnew_; (first | rw [← Ny152.out] at ho24 | (simp only [Int.reduceToNat] at ho24; rw [← Ny152.out] at ho24)); have n0_ := Aside0.mk (Kd.R_elder' (by refine rs ?_; exact HO_3.out) (Kd.R_base ho24) hb); have n1_ := Aside0.mk (Kd.R_lower (Kd.R_new' ho24 (Kd.R_lt (by refine rs ?_; exact HO_3.out))) (below_size bz)); have n2_ := Aside0.mk (blk_below (bo BK150) hb); have n3_ := Aside0.mk (below_step bz hb); clear HO_3; clear BK150; clear HB; have HO_3 := n0_; have HO154 := n1_; have BK150 := n2_; have HB := n3_; clear n0_ n1_ n2_ n3_; clear hb ho24))
         go_ret
         exact ⟨_, rq, by refine rs ?_; exact Kd.R_mono HO154.out (fun _ hk => trivial), bz⟩
        ·replace c22 := Bool.eq_false_iff.mpr c22
         subst c22
         have H1 : (if ((rd_T148 l0 x4_1).f0) = 0 then ((spec_PutVar.f kj7 (wrap64 (2 * (((rd_T148 l0 x4_1).f1).size : Int)))).bind fun t155 => (if x3_1.length + t155.length < 140737488355328 then ((some (x3_1 ++ t155 : List Int)).bind fun y158 => (if ((rd_T148 l0 x4_1).f1).size ≤ 9223372036854775807 then ((some (bytesOf ((rd_T148 l0 x4_1).f1) : List Int)).bind fun y161 => (if y158.length + y161.length < 140737488355328 then (spec_PutTokens.l0 kj7 l0 (y158 ++ y161) (wrap64 (x4_1 + 1))) else (none))) else (none))) else (none))) else ((spec_PutVar.f kj7 (wrap64 ((wrap64 (2 * ((rd_T148 l0 x4_1).f3))) + 1))).bind fun t167 => (if x3_1.length + t167.length < 140737488355328 then ((some (x3_1 ++ t167 : List Int)).bind fun y170 => ((spec_PutVar.f kj7 ((rd_T148 l0 x4_1).f2)).bind fun t173 => (if y170.length + t173.length < 140737488355328 then (spec_PutTokens.l0 kj7 l0 (y170 ++ t173) (wrap64 (x4_1 + 1))) else (none)))) else (none)))) = some r := by rw [if_neg (show ¬ (false = true) by decide)] at H; exact H
         clear H
         have H := H1
         clear H1
         by_cases c25 : ((rd_T148 l0 x4_1).f0) = 0
         ·rw [if_pos c25] at H
          have c25b0 : (((rd_T148 l0 x4_1).f0) == 0) = true := beq_iff_eq.mpr c25
          have c25b1 : (((rd_T148 l0 x4_1).f0) != 0) = false := bne_eq_false_iff_eq.mpr c25
          clear c25
          replace H := Option.bind_eq_some_iff.mp H
          obtain ⟨t155, A260, H⟩ := H
          try dsimp -simprocs only at H
          have A26 := Aside0.mk A260
          clear A260
          by_cases c27 : x3_1.length + t155.length < 140737488355328
          ·rw [if_pos c27] at H
           have LMc27 := Aside0.mk c27
           clear c27
           obtain ⟨y158, hy158⟩ : ∃ y_ : List Int, y_ = (x3_1 ++ t155) := ⟨_, rfl⟩
           replace H : (if ((rd_T148 l0 x4_1).f1).size ≤ 9223372036854775807 then ((some (bytesOf ((rd_T148 l0 x4_1).f1) : List Int)).bind fun y161 => (if y158.length + y161.length < 140737488355328 then (spec_PutTokens.l0 kj7 l0 (y158 ++ y161) (wrap64 (x4_1 + 1))) else (none))) else (none)) = some r := by first | (rw [hy158]; with_reducible exact H) | (have H2_ := (Option.bind_some _ _).symm.trans H; rw [hy158]; with_reducible exact H2_) | (have H2_ := (Option.bind_some _ _).symm.trans H; with_reducible exact H2_) | with_reducible exact H | (rw [hy158]; exact H) | exact H
           have Ny158 := Aside0.mk hy158
           clear hy158
           by_cases c28 : ((rd_T148 l0 x4_1).f1).size ≤ 9223372036854775807
           ·rw [if_pos c28] at H
            have c28b0 := eq_true c28
            have c28b1 : decide (((rd_T148 l0 x4_1).f1).size ≤ 9223372036854775807) = true := decide_eq_true c28
            try have c28b2 : (9223372036854775807 < ((rd_T148 l0 x4_1).f1).size) = False := eq_false (Nat.not_lt.2 c28)
            clear c28
            obtain ⟨y161, hy161⟩ : ∃ y_ : List Int, y_ = (bytesOf ((rd_T148 l0 x4_1).f1)) := ⟨_, rfl⟩
            replace H : (if y158.length + y161.length < 140737488355328 then (spec_PutTokens.l0 kj7 l0 (y158 ++ y161) (wrap64 (x4_1 + 1))) else (none)) = some r := by first | (rw [hy161]; with_reducible exact H) | (have H2_ := (Option.bind_some _ _).symm.trans H; rw [hy161]; with_reducible exact H2_) | (have H2_ := (Option.bind_some _ _).symm.trans H; with_reducible exact H2_) | with_reducible exact H | (rw [hy161]; exact H) | exact H
            have Ny161 := Aside0.mk hy161
            clear hy161
            by_cases c29 : y158.length + y161.length < 140737488355328
            ·rw [if_pos c29] at H
             have LMc29 := Aside0.mk c29
             clear c29
             obtain ⟨y164, hy164⟩ : ∃ y_ : List Int, y_ = (y158 ++ y161) := ⟨_, rfl⟩
             replace H : (spec_PutTokens.l0 kj7 l0 y164 (wrap64 (x4_1 + 1))) = some r := by first | (rw [hy164]; with_reducible exact H) | (have H2_ := (Option.bind_some _ _).symm.trans H; rw [hy164]; with_reducible exact H2_) | (have H2_ := (Option.bind_some _ _).symm.trans H; with_reducible exact H2_) | with_reducible exact H | (rw [hy164]; exact H) | exact H
             have Ny164 := Aside0.mk hy164
             clear hy164
             have H' := Aside0.mk H
             clear H
             obtain ⟨hcz30_0, hcz30_1, hcz30_2, hcz30_3, hfz30_0, hfz30_1, hfz30_2, hfz30_3⟩ := bc4 BK150.out
             go_wp2_with (first | ((with_reducible refine gate_callee (f := 114) rfl ?_); refine goesL_ (some 43) rfl rfl Tryd.func114 (by kernel_rfl) rfl #[.int .i64 (wrap64 (2 * (((rd_T148 l0 x4_1).f1).size : Int)))] rfl mt ?_; (with_reducible refine (spec_PutVar.calls kj7 (wrap64 (2 * (((rd_T148 l0 x4_1).f1).size : Int))) t155 _ A26.out).mono ?_); rintro e w31 ⟨v156, rfl, ho0, hb⟩; refine ⟨_, rfl, ?_⟩; have n0_ := Aside0.mk (Kd.R_elder' (by refine rs ?_; exact HO_3.out) (Kd.R_base ho0) hb); have n1_ := Aside0.mk (Kd.R_lower (Kd.R_new' ho0 (Kd.R_lt (by refine rs ?_; exact HO_3.out))) (below_size bz)); have n2_ := Aside0.mk (blk_below (bo BK150) hb); have n3_ := Aside0.mk (below_step bz hb); clear HO_3; clear BK150; clear HB; have HO_3 := n0_; have HO157 := n1_; have BK150 := n2_; have HB := n3_; clear n0_ n1_ n2_ n3_; (try clear hb); (try clear hb2); (try clear hk); (try clear hi); (try clear ho0); obtain ⟨Ao33, co33, eo33⟩ := Kd.R_slice HO157.out; subst eo33) | ((with_reducible refine gate_builtin (b := .append) (xs := #[.tmp 38, .tmp 43]) rfl ?_); at_builtin; refine Kd.R_append_rows (Kd.int .u8) (w0 := w) w.heap.size rfl (.tmp 38) (.tmp 43) 22 5 (.int .u8 0) 1 rfl Tryd.underlying22 info5 rfl (by decide) (by omega) u3 x3_1 t155 _ _ _ (fun k_ => some k_ ≠ (.slice Ao33 t155.length co33 : Value).ownBlock) (fun _ => False) rfl rfl ?aO ?aR (fun _ _ h => h) (fun _ h => h.elim) ?aF ?aB ?aS ?aL ?_; (case aR => repeat (first | exact (Kd.R_reads' HO157.out).2.2 | (with_reducible refine Kd.C_alloc ?_ _) | (with_reducible refine Kd.C_drewN ?_ _) | (with_reducible refine Kd.C_drew ?_))); (case aB => exact bz); (case aF => exact (fun k_ hk => Kd.fresh' (Kd.R_lt (by refine rs ?_; exact HO157.out)) k_ hk)); (case aO => exact (by refine rs ?_; exact Kd.R_mono HO_3.out (fun _ hk => hk.2))); (case aS => exact (below_size bz)); (case aL => have := LMc27.out; omega); intro v159 w32 ho hb hg hat; rw [← Ny158.out] at ho; have n0_ := Aside0.mk (blk_grown (g := gb150) (o := .cells #[.int .i64 ((rd_T148 l0 x4_1).f0), .string ((rd_T148 l0 x4_1).f1), .int .i64 ((rd_T148 l0 x4_1).f2), .int .i64 ((rd_T148 l0 x4_1).f3)] 148 (0, 0)) (bo BK150) hg (Kd.R_ne HO_3.out BK150.out (by decide))); have n1_ := Aside0.mk (Kd.R_after (ok := (fun _ => True)) (by refine rs ?_; exact HO157.out) hg hat); have n2_ := Aside0.mk (hb); have n3_ := Aside0.mk (ho); clear BK150; clear HO157; clear HB; clear HO_3; have BK150 := n0_; have HO157 := n1_; have HB := n2_; have HO160 := n3_; clear n0_ n1_ n2_ n3_; clear ho hb hg hat; obtain ⟨hcz34_0, hcz34_1, hcz34_2, hcz34_3, hfz34_0, hfz34_1, hfz34_2, hfz34_3⟩ := bc4 BK150.out) | ((with_reducible refine gate_dst (N := 48) rfl ?_); refine Kd.V_conv _ 5 9 22 rfl (N := 48) rfl _ rfl ((rd_T148 l0 x4_1).f1) rfl Tryd.underlying9 Tryd.underlying22 Tryd.underlying5 od (Below.refl _ _) (Nat.le_refl _) ?_; intro v162 w35 ho36 hb hg_ hnew_; clear hg_ hnew_; (first | rw [← Ny161.out] at ho36 | (simp only [Int.reduceToNat] at ho36; rw [← Ny161.out] at ho36)); have n0_ := Aside0.mk (Kd.R_below (by refine rs ?_; exact HO157.out) hb); have n1_ := Aside0.mk (Kd.R_below (by refine rs ?_; exact HO160.out) hb); have n2_ := Aside0.mk (Kd.V_lower (Kd.V_mono (ok' := fun k_ => some k_ ≠ (.slice Ao33 t155.length co33 : Value).ownBlock ∧ some k_ ≠ (v159 : Value).ownBlock ∧ k_ ≠ gb150) ho36 (fun k_ hk_ => ⟨(Kd.fresh' (Kd.R_lt (by refine rs ?_; exact HO157.out)) k_ hk_), (Kd.fresh' (Kd.R_lt (by refine rs ?_; exact HO160.out)) k_ hk_), (Kd.freshB (g := gb150) (o := .cells #[.int .i64 ((rd_T148 l0 x4_1).f0), .string ((rd_T148 l0 x4_1).f1), .int .i64 ((rd_T148 l0 x4_1).f2), .int .i64 ((rd_T148 l0 x4_1).f3)] 148 (0, 0)) (bo BK150) k_ hk_)⟩)) (below_size bz)); have n3_ := Aside0.mk (blk_below (bo BK150) hb); have n4_ := Aside0.mk (below_step bz hb); clear HO157; clear HO160; clear BK150; clear HB; have HO157 := n0_; have HO160 := n1_; have HO163 := n2_; have BK150 := n3_; have HB := n4_; clear n0_ n1_ n2_ n3_ n4_; clear hb ho36; obtain ⟨Ao38, co38, eo38⟩ := Kd.V_slice HO163.out; subst eo38) | ((with_reducible refine gate_builtin (b := .append) (xs := #[.tmp 45, .tmp 48]) rfl ?_); at_builtin; refine Kd.R_append_rows (Kd.int .u8) (w0 := w) w.heap.size rfl (.tmp 45) (.tmp 48) 22 5 (.int .u8 0) 1 rfl Tryd.underlying22 info5 rfl (by decide) (by omega) v159 y158 y161 _ _ _ (fun k_ => some k_ ≠ (.slice Ao33 t155.length co33 : Value).ownBlock) (fun _ => False) rfl rfl ?aO ?aR (fun _ _ h => h) (fun _ h => h.elim) ?aF ?aB ?aS ?aL ?_; (case aR => repeat (first | exact (Kd.V_reads' HO163.out).2.2 | (with_reducible refine Kd.C_alloc ?_ _) | (with_reducible refine Kd.C_drewN ?_ _) | (with_reducible refine Kd.C_drew ?_))); (case aB => exact bz); (case aF => exact (fun k_ hk => Kd.fresh' (Kd.R_lt (by refine rs ?_; exact HO157.out)) k_ hk)); (case aO => exact (by refine rs ?_; exact HO160.out)); (case aS => exact (below_size bz)); (case aL => have := LMc29.out; omega); intro v165 w37 ho hb hg hat; rw [← Ny164.out] at ho; have n0_ := Aside0.mk (blk_grown (g := gb150) (o := .cells #[.int .i64 ((rd_T148 l0 x4_1).f0), .string ((rd_T148 l0 x4_1).f1), .int .i64 ((rd_T148 l0 x4_1).f2), .int .i64 ((rd_T148 l0 x4_1).f3)] 148 (0, 0)) (bo BK150) hg (Kd.R_ne HO160.out BK150.out (by decide))); have n1_ := Aside0.mk (Kd.R_after (ok := (fun _ => True)) (by refine rs ?_; exact HO157.out) hg hat); have n2_ := Aside0.mk (Kd.V_afterv (ok := (fun k_ => some k_ ≠ (.slice Ao33 t155.length co33 : Value).ownBlock ∧ k_ ≠ gb150)) (by refine vs ?_; exact Kd.V_mono HO163.out (fun _ hk => ⟨⟨hk.1, hk.2.2⟩, hk.2.1⟩)) hg hat); have n3_ := Aside0.mk (hb); have n4_ := Aside0.mk (ho); clear BK150; clear HO157; clear HO163; clear HB; clear HO160; have BK150 := n0_; have HO157 := n1_; have HO163 := n2_; have HB := n3_; have HO166 := n4_; clear n0_ n1_ n2_ n3_ n4_; clear ho hb hg hat))
             go_roundg kj7
             case measure => have := HK1.out; have := HJ7.out; omega
             case rel => exact ⟨(y164), (wrap64 (x4_1 + 1)), sd, H', ⟨by have := HK1.out; have := HJ7.out; omega⟩, ⟨by refine rs ?_; exact Kd.R_mono HO166.out (fun _ hk => trivial)⟩, ⟨bz⟩⟩
            ·rw [if_neg c29] at H
             exact absurd H (by simp)
           ·rw [if_neg c28] at H
            exact absurd H (by simp)
          ·rw [if_neg c27] at H
           exact absurd H (by simp)
         ·rw [if_neg c25] at H
          have c25b0 : (((rd_T148 l0 x4_1).f0) == 0) = false := beq_eq_false_iff_ne.mpr c25
          have c25b1 : (((rd_T148 l0 x4_1).f0) != 0) = true := bne_iff_ne.mpr c25
          replace H := Option.bind_eq_some_iff.mp H
          obtain ⟨t167, A390, H⟩ := H
          try dsimp -simprocs only at H
          have A39 := Aside0.mk A390
          clear A390
          by_cases c40 : x3_1.length + t167.length < 140737488355328
          ·rw [if_pos c40] at H
           have LMc40 := Aside0.mk c40
           clear c40
           obtain ⟨y170, hy170⟩ : ∃ y_ : List Int, y_ = (x3_1 ++ t167) := ⟨_, rfl⟩
           replace H : ((spec_PutVar.f kj7 ((rd_T148 l0 x4_1).f2)).bind fun t173 => (if y170.length + t173.length < 140737488355328 then (spec_PutTokens.l0 kj7 l0 (y170 ++ t173) (wrap64 (x4_1 + 1))) else (none))) = some r := by first | (rw [hy170]; with_reducible exact H) | (have H2_ := (Option.bind_some _ _).symm.trans H; rw [hy170]; with_reducible exact H2_) | (have H2_ := (Option.bind_some _ _).symm.trans H; with_reducible exact H2_) | with_reducible exact H | (rw [hy170]; exact H) | exact H
           have Ny170 := Aside0.mk hy170
           clear hy170
           replace H := Option.bind_eq_some_iff.mp H
           obtain ⟨t173, A410, H⟩ := H
           try dsimp -simprocs only at H
           have A41 := Aside0.mk A410
           clear A410
           by_cases c42 : y170.length + t173.length < 140737488355328
           ·rw [if_pos c42] at H
            have LMc42 := Aside0.mk c42
            clear c42
            obtain ⟨y176, hy176⟩ : ∃ y_ : List Int, y_ = (y170 ++ t173) := ⟨_, rfl⟩
            replace H : (spec_PutTokens.l0 kj7 l0 y176 (wrap64 (x4_1 + 1))) = some r := by first | (rw [hy176]; with_reducible exact H) | (have H2_ := (Option.bind_some _ _).symm.trans H; rw [hy176]; with_reducible exact H2_) | (have H2_ := (Option.bind_some _ _).symm.trans H; with_reducible exact H2_) | with_reducible exact H | (rw [hy176]; exact H) | exact H
            have Ny176 := Aside0.mk hy176
            clear hy176
            have H' := Aside0.mk H
            clear H
            obtain ⟨hcz43_0, hcz43_1, hcz43_2, hcz43_3, hfz43_0, hfz43_1, hfz43_2, hfz43_3⟩ := bc4 BK150.out
            go_wp2_with (first | ((with_reducible refine gate_callee (f := 114) rfl ?_); refine goesL_ (some 55) rfl rfl Tryd.func114 (by kernel_rfl) rfl #[.int .i64 (wrap64 ((wrap64 (2 * ((rd_T148 l0 x4_1).f3))) + 1))] rfl mt ?_; (with_reducible refine (spec_PutVar.calls kj7 (wrap64 ((wrap64 (2 * ((rd_T148 l0 x4_1).f3))) + 1)) t167 _ A39.out).mono ?_); rintro e w44 ⟨v168, rfl, ho0, hb⟩; refine ⟨_, rfl, ?_⟩; have n0_ := Aside0.mk (Kd.R_elder' (by refine rs ?_; exact HO_3.out) (Kd.R_base ho0) hb); have n1_ := Aside0.mk (Kd.R_lower (Kd.R_new' ho0 (Kd.R_lt (by refine rs ?_; exact HO_3.out))) (below_size bz)); have n2_ := Aside0.mk (blk_below (bo BK150) hb); have n3_ := Aside0.mk (below_step bz hb); clear HO_3; clear BK150; clear HB; have HO_3 := n0_; have HO169 := n1_; have BK150 := n2_; have HB := n3_; clear n0_ n1_ n2_ n3_; (try clear hb); (try clear hb2); (try clear hk); (try clear hi); (try clear ho0); obtain ⟨Ao46, co46, eo46⟩ := Kd.R_slice HO169.out; subst eo46) | ((with_reducible refine gate_builtin (b := .append) (xs := #[.tmp 50, .tmp 55]) rfl ?_); at_builtin; refine Kd.R_append_rows (Kd.int .u8) (w0 := w) w.heap.size rfl (.tmp 50) (.tmp 55) 22 5 (.int .u8 0) 1 rfl Tryd.underlying22 info5 rfl (by decide) (by omega) u3 x3_1 t167 _ _ _ (fun k_ => some k_ ≠ (.slice Ao46 t167.length co46 : Value).ownBlock) (fun _ => False) rfl rfl ?aO ?aR (fun _ _ h => h) (fun _ h => h.elim) ?aF ?aB ?aS ?aL ?_; (case aR => repeat (first | exact (Kd.R_reads' HO169.out).2.2 | (with_reducible refine Kd.C_alloc ?_ _) | (with_reducible refine Kd.C_drewN ?_ _) | (with_reducible refine Kd.C_drew ?_))); (case aB => exact bz); (case aF => exact (fun k_ hk => Kd.fresh' (Kd.R_lt (by refine rs ?_; exact HO169.out)) k_ hk)); (case aO => exact (by refine rs ?_; exact Kd.R_mono HO_3.out (fun _ hk => hk.2))); (case aS => exact (below_size bz)); (case aL => have := LMc40.out; omega); intro v171 w45 ho hb hg hat; rw [← Ny170.out] at ho; have n0_ := Aside0.mk (blk_grown (g := gb150) (o := .cells #[.int .i64 ((rd_T148 l0 x4_1).f0), .string ((rd_T148 l0 x4_1).f1), .int .i64 ((rd_T148 l0 x4_1).f2), .int .i64 ((rd_T148 l0 x4_1).f3)] 148 (0, 0)) (bo BK150) hg (Kd.R_ne HO_3.out BK150.out (by decide))); have n1_ := Aside0.mk (Kd.R_after (ok := (fun _ => True)) (by refine rs ?_; exact HO169.out) hg hat); have n2_ := Aside0.mk (hb); have n3_ := Aside0.mk (ho); clear BK150; clear HO169; clear HB; clear HO_3; have BK150 := n0_; have HO169 := n1_; have HB := n2_; have HO172 := n3_; clear n0_ n1_ n2_ n3_; clear ho hb hg hat; obtain ⟨hcz47_0, hcz47_1, hcz47_2, hcz47_3, hfz47_0, hfz47_1, hfz47_2, hfz47_3⟩ := bc4 BK150.out) | ((with_reducible refine gate_callee (f := 114) rfl ?_); refine goesL_ (some 60) rfl rfl Tryd.func114 (by kernel_rfl) rfl #[.int .i64 ((rd_T148 l0 x4_1).f2)] rfl mt ?_; (with_reducible refine (spec_PutVar.calls kj7 ((rd_T148 l0 x4_1).f2) t173 _ A41.out).mono ?_); rintro e w48 ⟨v174, rfl, ho0, hb⟩; refine ⟨_, rfl, ?_⟩; have n0_ := Aside0.mk (Kd.R_elder' (by refine rs ?_; exact HO169.out) (Kd.R_base ho0) hb); have n1_ := Aside0.mk (Kd.R_elder' (by refine rs ?_; exact HO172.out) (Kd.R_base ho0) hb); have n2_ := Aside0.mk (Kd.R_lower (Kd.R_new' (Kd.R_new' ho0 (Kd.R_lt (by refine rs ?_; exact HO169.out))) (Kd.R_lt (by refine rs ?_; exact HO172.out))) (below_size bz)); have n3_ := Aside0.mk (blk_below (bo BK150) hb); have n4_ := Aside0.mk (below_step bz hb); clear HO169; clear HO172; clear BK150; clear HB; have HO169 := n0_; have HO172 := n1_; have HO175 := n2_; have BK150 := n3_; have HB := n4_; clear n0_ n1_ n2_ n3_ n4_; (try clear hb); (try clear hb2); (try clear hk); (try clear hi); (try clear ho0); obtain ⟨Ao50, co50, eo50⟩ := Kd.R_slice HO175.out; subst eo50) | ((with_reducible refine gate_builtin (b := .append) (xs := #[.tmp 57, .tmp 60]) rfl ?_); at_builtin; refine Kd.R_append_rows (Kd.int .u8) (w0 := w) w.heap.size rfl (.tmp 57) (.tmp 60) 22 5 (.int .u8 0) 1 rfl Tryd.underlying22 info5 rfl (by decide) (by omega) v171 y170 t173 _ _ _ (fun k_ => some k_ ≠ (.slice Ao46 t167.length co46 : Value).ownBlock ∧ some k_ ≠ (.slice Ao50 t173.length co50 : Value).ownBlock) (fun _ => False) rfl rfl ?aO ?aR (fun _ _ h => h) (fun _ h => h.elim) ?aF ?aB ?aS ?aL ?_; (case aR => repeat (first | exact (Kd.R_reads' HO175.out).2.2 | (with_reducible refine Kd.C_alloc ?_ _) | (with_reducible refine Kd.C_drewN ?_ _) | (with_reducible refine Kd.C_drew ?_))); (case aB => exact bz); (case aF => exact (fun k_ hk => ⟨Kd.fresh' (Kd.R_lt (by refine rs ?_; exact HO169.out)) k_ hk, Kd.fresh' (Kd.R_lt (by refine rs ?_; exact HO175.out)) k_ hk⟩)); (case aO => exact (by refine rs ?_; exact HO172.out)); (case aS => exact (below_size bz)); (case aL => have := LMc42.out; omega); intro v177 w49 ho hb hg hat; rw [← Ny176.out] at ho; have n0_ := Aside0.mk (blk_grown (g := gb150) (o := .cells #[.int .i64 ((rd_T148 l0 x4_1).f0), .string ((rd_T148 l0 x4_1).f1), .int .i64 ((rd_T148 l0 x4_1).f2), .int .i64 ((rd_T148 l0 x4_1).f3)] 148 (0, 0)) (bo BK150) hg (Kd.R_ne HO172.out BK150.out (by decide))); have n1_ := Aside0.mk (Kd.R_after (ok := (fun k_ => some k_ ≠ (.slice Ao50 t173.length co50 : Value).ownBlock)) (by refine rs ?_; exact Kd.R_mono HO169.out (fun _ hk => ⟨hk.2, hk.1.2⟩)) hg hat); have n2_ := Aside0.mk (Kd.R_after (ok := (fun k_ => some k_ ≠ (.slice Ao46 t167.length co46 : Value).ownBlock)) (by refine rs ?_; exact Kd.R_mono HO175.out (fun _ hk => ⟨hk.1.2, hk.2⟩)) hg hat); have n3_ := Aside0.mk (hb); have n4_ := Aside0.mk (ho); clear BK150; clear HO169; clear HO175; clear HB; clear HO172; have BK150 := n0_; have HO169 := n1_; have HO175 := n2_; have HB := n3_; have HO178 := n4_; clear n0_ n1_ n2_ n3_ n4_; clear ho hb hg hat))
            go_roundg kj7
            case measure => have := HK1.out; have := HJ7.out; omega
            case rel => exact ⟨(y176), (wrap64 (x4_1 + 1)), sd, H', ⟨by have := HK1.out; have := HJ7.out; omega⟩, ⟨by refine rs ?_; exact Kd.R_mono HO178.out (fun _ hk => trivial)⟩, ⟨bz⟩⟩
           ·rw [if_neg c42] at H
            exact absurd H (by simp)
          ·rw [if_neg c40] at H
           exact absurd H (by simp)
     ·rw [if_neg c7] at H
      exact absurd H (by simp)
    ·rw [if_neg c6] at H
     have c6b0 : decide (x4_1 < (l0.length : Int)) = false := decide_eq_false c6
     clear c6
     by_cases c51 : x3_1.length < 140737488355328
     ·rw [if_pos c51] at H
      have LMc51 := Aside0.mk c51
      clear c51
      obtain ⟨y146, hy146⟩ : ∃ y_ : List Int, y_ = (x3_1 ++ [0]) := ⟨_, rfl⟩
      replace H : (some y146) = some r := by first | (rw [hy146]; with_reducible exact H) | (have H2_ := (Option.bind_some _ _).symm.trans H; rw [hy146]; with_reducible exact H2_) | (have H2_ := (Option.bind_some _ _).symm.trans H; with_reducible exact H2_) | with_reducible exact H | (rw [hy146]; exact H) | exact H
      have Ny146 := Aside0.mk hy146
      clear hy146
      obtain rfl := Option.some.inj H
      go_wp2_with (first | ((with_reducible refine gate_builtin (b := .append) (xs := #[.tmp 62, .tmp 63]) rfl ?_); at_builtin; refine Kd.R_append (Kd.int .u8) (w0 := w) w.heap.size rfl (.tmp 62) (.tmp 63) 22 5 (.int .u8 0) 1 rfl Tryd.underlying22 info5 rfl (by decide) (by omega) u3 x3_1 0 [.int .u8 0] (fun _ => True) (fun _ => False) rfl rfl ?aP (fun _ hk => hk.elim) ?aF ?aO ?aB ?aS ?aL ?_; (case aP => exact rfl); (case aB => exact bz); (case aF => exact (fun _ _ => trivial)); (case aO => exact (by refine rs ?_; exact HO_3.out)); (case aS => exact (below_size bz)); (case aL => have := LMc51.out; omega); intro v147 w52 ho hb hg hat; rw [← Ny146.out] at ho; have n0_ := Aside0.mk (hb); have n1_ := Aside0.mk (ho); clear HB; clear HO_3; have HB := n0_; have HO148 := n1_; clear n0_ n1_; clear ho hb hg hat))
      go_ret
      exact ⟨_, rq, by refine rs ?_; exact HO148.out, bz⟩
     ·rw [if_neg c51] at H
      exact absurd H (by simp)

/-! ### spec_SigLen: function 196 -/
def spec_SigLen.j0 : Nat → Bool → Int → Int → List Int → List ByteArray → Option (Int)
 | 0, _, _, _, _, _ => none
 | k + 1, x22, x180000, x180001, x180002, x180003 => if x22 = true then (some 0) else (if x180001 > 0 then (if (wrap64 (x180000 * (x180002.length : Int))) > 0 then (some (wrap64 ((wrap64 ((wrap64 (x180000 * (x180002.length : Int))) - x180000)) + x180001))) else (some (wrap64 (x180000 * (x180002.length : Int))))) else (some (wrap64 (x180000 * (x180002.length : Int)))))
def spec_SigLen.f (k : Nat) (a0_0 : Int) (a0_1 : Int) (l0_2 : List Int) (l0_3 : List ByteArray) : Option (Int) := (spec_l01In.f a0_0 1 256).bind fun t180 => (if t180 = true then ((spec_l01In.f a0_1 0 (wrap64 (a0_0 - 1))).bind fun t181 => (if t181 = true then (spec_SigLen.j0 k (decide ((l0_2.length : Int) > 2500)) a0_0 a0_1 l0_2 l0_3) else (spec_SigLen.j0 k true a0_0 a0_1 l0_2 l0_3))) else (spec_SigLen.j0 k true a0_0 a0_1 l0_2 l0_3))
theorem spec_SigLen.mono_l : ∀ k, (∀ y0 y1 y2 y3 y4, LeO (spec_SigLen.j0 k y0 y1 y2 y3 y4) (spec_SigLen.j0 (k + 1) y0 y1 y2 y3 y4))
 | 0 => fun _ _ _ _ _ r h => by simp [spec_SigLen.j0] at h
 | k + 1 => by
  have ih0 := spec_SigLen.mono_l k
  ·intro y0 y1 y2 y3 y4
   unfold spec_SigLen.j0
   repeat' first | (with_reducible first | exact ih0 _ _ _ _ _ | exact LeO.refl _ | exact LeO.none _ | refine LeO.ite ?_ ?_ | refine LeO.bind ?_ (fun _ => ?_)) | exact ih0 _ _ _ _ _ | exact LeO.none _ | refine LeO.ite ?_ ?_ | refine LeO.bind ?_ (fun _ => ?_)
theorem spec_SigLen.mono : ∀ a0 a1 a2 a3 k, LeO (spec_SigLen.f k a0 a1 a2 a3) (spec_SigLen.f (k + 1) a0 a1 a2 a3) := by
 intro a0 a1 a2 a3 k
 have ih0 := spec_SigLen.mono_l k
 unfold spec_SigLen.f
 repeat' first | (with_reducible first | exact ih0 _ _ _ _ _ | exact LeO.refl _ | exact LeO.none _ | refine LeO.ite ?_ ?_ | refine LeO.bind ?_ (fun _ => ?_)) | exact ih0 _ _ _ _ _ | exact LeO.none _ | refine LeO.ite ?_ ?_ | refine LeO.bind ?_ (fun _ => ?_)
set_option maxHeartbeats 8000000 in
set_option maxRecDepth 100000 in
theorem spec_SigLen.calls (k : Nat) (a0_0 : Int) (a0_1 : Int) (A0_2 : Option Addr) (c0_2 : Nat) (l0_2 : List Int) (A0_3 : Option Addr) (c0_3 : Nat) (l0_3 : List ByteArray) (r : Int) (w : World) (hr0_2 : Kd.C (Kd.int .u32) w A0_2 l0_2.length l0_2) (hc0_2 : l0_2.length ≤ c0_2) (hr0_3 : Kd.C Kd.string w A0_3 l0_3.length l0_3) (hc0_3 : l0_3.length ≤ c0_3) (h : spec_SigLen.f k a0_0 a0_1 l0_2 l0_3 = some r) :
  Calls Tryd.prog 196 #[.agg #[.int .i64 a0_0, .int .i64 a0_1, .slice A0_2 l0_2.length c0_2, .slice A0_3 l0_3.length c0_3]] w fun e w' => e = .returned (.int .i64 r) ∧ Below w.heap.size w w' := by
 have hu30 := Tryd.underlying30
 have HR0_2 := Aside0.mk hr0_2
 have HC0_2 := Aside0.mk hc0_2
 clear hr0_2 hc0_2
 have HR0_3 := Aside0.mk hr0_3
 have HC0_3 := Aside0.mk hc0_3
 clear hr0_3 hc0_3
 have HB := Aside0.mk (Below.refl w.heap.size w)
 have H : ((spec_l01In.f a0_0 1 256).bind fun t180 => (if t180 = true then ((spec_l01In.f a0_1 0 (wrap64 (a0_0 - 1))).bind fun t181 => (if t181 = true then (spec_SigLen.j0 k (decide ((l0_2.length : Int) > 2500)) a0_0 a0_1 l0_2 l0_3) else (spec_SigLen.j0 k true a0_0 a0_1 l0_2 l0_3))) else (spec_SigLen.j0 k true a0_0 a0_1 l0_2 l0_3))) = some r := h
 clear h
 have HC2 := Aside0.mk H
 clear H
 go_enter Tryd.func196, Tryd.ntmps196
 go_upto_region 1 with (first | ((with_reducible refine gate_dst (N := 1) rfl ?_); (try (refine gate_guard (by rfl) ?_; dsimp only)); refine box_event ?hg (N := 1) ?hd (cs := #[.int .i64 a0_0, .int .i64 a0_1, .slice A0_2 l0_2.length c0_2, .slice A0_3 l0_3.length c0_3]) (t := 30) ?hr ?_; (case hd => rfl); (case hg => rfl); (case hr => first | (go_simp; done) | (go_simp; rfl)); intro gb179 hg w3 hbox hb; have n0_ := Aside0.mk (below_step bz hb); have n1_ := Aside0.mk (hbox); have n2_ := Aside0.mk (bg : w.heap.size ≤ gb179); have n3_ := Aside0.mk (bg : w.heap.size ≤ gb179); clear HB; have HB := n0_; have BK179 := n1_; have GW179 := n2_; have GE179 := n3_; clear n0_ n1_ n2_ n3_; clear hb hbox hg))
 (try simp only [Act.put, List.setIfInBounds_toArray, List.set_cons_zero, List.set_cons_succ])
 go_cut [22] (fun v22 wc => ∃ (kq : Nat) (x22_1 : Bool), v22 = .bool x22_1 ∧ Aside0 (spec_SigLen.j0 kq x22_1 a0_0 a0_1 l0_2 l0_3 = some r) ∧ Aside0 (kq ≤ k) ∧ Aside0 (wc.heap[gb179]? = some (.cells #[.int .i64 a0_0, .int .i64 a0_1, (.slice A0_2 l0_2.length c0_2), (.slice A0_3 l0_3.length c0_3)] 30 (0, 0))) ∧ Aside0 (Below w.heap.size w wc))
 case first =>
  have H := HC2.out
  clear HC2
  replace H := Option.bind_eq_some_iff.mp H
  obtain ⟨t180, A40, H⟩ := H
  try dsimp -simprocs only at H
  have A4 := Aside0.mk A40
  clear A40
  by_cases c5 : t180 = true
  ·subst c5
   have H1 : ((spec_l01In.f a0_1 0 (wrap64 (a0_0 - 1))).bind fun t181 => (if t181 = true then (spec_SigLen.j0 k (decide ((l0_2.length : Int) > 2500)) a0_0 a0_1 l0_2 l0_3) else (spec_SigLen.j0 k true a0_0 a0_1 l0_2 l0_3))) = some r := by rw [if_pos rfl] at H; exact H
   clear H
   have H := H1
   clear H1
   replace H := Option.bind_eq_some_iff.mp H
   obtain ⟨t181, A60, H⟩ := H
   try dsimp -simprocs only at H
   have A6 := Aside0.mk A60
   clear A60
   by_cases c7 : t181 = true
   ·subst c7
    have H1 : (spec_SigLen.j0 k (decide ((l0_2.length : Int) > 2500)) a0_0 a0_1 l0_2 l0_3) = some r := by rw [if_pos rfl] at H; exact H
    clear H
    have H := H1
    clear H1
    have H' := Aside0.mk H
    clear H
    obtain ⟨hcz8_0, hcz8_1, hcz8_2, hcz8_3, hfz8_0, hfz8_1, hfz8_2, hfz8_3⟩ := bc4 BK179.out
    go_wp2_with (first | ((with_reducible refine gate_callee (f := 73) rfl ?_); refine goesL_ (some 6) rfl rfl Tryd.func73 (by kernel_rfl) rfl #[.int .i64 a0_0, .int .i64 1, .int .i64 256] rfl mt ?_; (with_reducible refine (spec_l01In.calls a0_0 1 256 true _ A4.out).mono ?_); rintro e w' ⟨rfl, ⟨nd, rfl⟩⟩; refine ⟨_, rfl, ?_⟩) | (go_at_call 73; (with_reducible refine (spec_l01In.calls a0_1 0 (wrap64 (a0_0 - 1)) true _ A6.out).mono ?_); rintro e w' ⟨rfl, ⟨nd, rfl⟩⟩))
    go_meet
    case rel => exact ⟨_, (decide ((l0_2.length : Int) > 2500)), sd, H', ⟨ob⟩, ⟨(bo BK179)⟩, ⟨bz⟩⟩
   ·replace c7 := Bool.eq_false_iff.mpr c7
    subst c7
    have H1 : (spec_SigLen.j0 k true a0_0 a0_1 l0_2 l0_3) = some r := by rw [if_neg (show ¬ (false = true) by decide)] at H; exact H
    clear H
    have H := H1
    clear H1
    have H' := Aside0.mk H
    clear H
    obtain ⟨hcz9_0, hcz9_1, hcz9_2, hcz9_3, hfz9_0, hfz9_1, hfz9_2, hfz9_3⟩ := bc4 BK179.out
    go_wp2_with (first | ((with_reducible refine gate_callee (f := 73) rfl ?_); refine goesL_ (some 6) rfl rfl Tryd.func73 (by kernel_rfl) rfl #[.int .i64 a0_0, .int .i64 1, .int .i64 256] rfl mt ?_; (with_reducible refine (spec_l01In.calls a0_0 1 256 true _ A4.out).mono ?_); rintro e w' ⟨rfl, ⟨nd, rfl⟩⟩; refine ⟨_, rfl, ?_⟩) | (go_at_call 73; (with_reducible refine (spec_l01In.calls a0_1 0 (wrap64 (a0_0 - 1)) false _ A6.out).mono ?_); rintro e w' ⟨rfl, ⟨nd, rfl⟩⟩))
    go_meet
    case rel => exact ⟨_, (true), sd, H', ⟨ob⟩, ⟨(bo BK179)⟩, ⟨bz⟩⟩
  ·replace c5 := Bool.eq_false_iff.mpr c5
   subst c5
   have H1 : (spec_SigLen.j0 k true a0_0 a0_1 l0_2 l0_3) = some r := by rw [if_neg (show ¬ (false = true) by decide)] at H; exact H
   clear H
   have H := H1
   clear H1
   have H' := Aside0.mk H
   clear H
   obtain ⟨hcz10_0, hcz10_1, hcz10_2, hcz10_3, hfz10_0, hfz10_1, hfz10_2, hfz10_3⟩ := bc4 BK179.out
   go_wp2_with (first | ((with_reducible refine gate_callee (f := 73) rfl ?_); refine goesL_ (some 6) rfl rfl Tryd.func73 (by kernel_rfl) rfl #[.int .i64 a0_0, .int .i64 1, .int .i64 256] rfl mt ?_; (with_reducible refine (spec_l01In.calls a0_0 1 256 false _ A4.out).mono ?_); rintro e w' ⟨rfl, ⟨nd, rfl⟩⟩; refine ⟨_, rfl, ?_⟩))
   go_meet
   case rel => exact ⟨_, (true), sd, H', ⟨ob⟩, ⟨(bo BK179)⟩, ⟨bz⟩⟩
 case rest =>
  clear HC2
  try clear c1
  try clear p2
  try clear c5
  try clear p6
  try clear c7
  try clear hcz10_0 hcz10_1 hcz10_2 hcz10_3 hfz10_0 hfz10_1 hfz10_2 hfz10_3
  try clear hcz8_0 hcz8_1 hcz8_2 hcz8_3 hfz8_0 hfz8_1 hfz8_2 hfz8_3
  try clear hcz9_0 hcz9_1 hcz9_2 hcz9_3 hfz9_0 hfz9_1 hfz9_2 hfz9_3
  obtain ⟨kq, x22_1, rfl, HA, HJ1, BK179, HB⟩ := hcut
  cases kq with
  | zero => exact absurd HA.out (by simp [spec_SigLen.j0])
  | succ kj1 =>
   have H := HA.out
   clear HA
   simp only [spec_SigLen.j0] at H
   by_cases c11 : x22_1 = true
   ·subst c11
    have H1 : (some 0) = some r := by rw [if_pos rfl] at H; exact H
    clear H
    have H := H1
    clear H1
    obtain rfl := Option.some.inj H
    go_wp2
    go_ret
    exact ⟨rq, bz⟩
   ·replace c11 := Bool.eq_false_iff.mpr c11
    subst c11
    have H1 : (if a0_1 > 0 then (if (wrap64 (a0_0 * (l0_2.length : Int))) > 0 then (some (wrap64 ((wrap64 ((wrap64 (a0_0 * (l0_2.length : Int))) - a0_0)) + a0_1))) else (some (wrap64 (a0_0 * (l0_2.length : Int))))) else (some (wrap64 (a0_0 * (l0_2.length : Int))))) = some r := by rw [if_neg (show ¬ (false = true) by decide)] at H; exact H
    clear H
    have H := H1
    clear H1
    by_cases c12 : a0_1 > 0
    ·rw [if_pos c12] at H
     have c12b0 : decide (0 < a0_1) = true := decide_eq_true c12
     clear c12
     by_cases c13 : (wrap64 (a0_0 * (l0_2.length : Int))) > 0
     ·rw [if_pos c13] at H
      have c13b0 : decide (0 < (wrap64 (a0_0 * (l0_2.length : Int)))) = true := decide_eq_true c13
      clear c13
      obtain rfl := Option.some.inj H
      obtain ⟨hcz14_0, hcz14_1, hcz14_2, hcz14_3, hfz14_0, hfz14_1, hfz14_2, hfz14_3⟩ := bc4 BK179.out
      go_wp2
      go_ret
      exact ⟨rq, bz⟩
     ·rw [if_neg c13] at H
      have c13b0 : decide (0 < (wrap64 (a0_0 * (l0_2.length : Int)))) = false := decide_eq_false c13
      clear c13
      obtain rfl := Option.some.inj H
      obtain ⟨hcz15_0, hcz15_1, hcz15_2, hcz15_3, hfz15_0, hfz15_1, hfz15_2, hfz15_3⟩ := bc4 BK179.out
      go_wp2
      go_ret
      exact ⟨rq, bz⟩
    ·rw [if_neg c12] at H
     have c12b0 : decide (0 < a0_1) = false := decide_eq_false c12
     clear c12
     obtain rfl := Option.some.inj H
     obtain ⟨hcz16_0, hcz16_1, hcz16_2, hcz16_3, hfz16_0, hfz16_1, hfz16_2, hfz16_3⟩ := bc4 BK179.out
     go_wp2
     go_ret
     exact ⟨rq, bz⟩

end Go.Proofs.YtjiaigjmihmdjaaDoor.PFnExactTakeAnswer
