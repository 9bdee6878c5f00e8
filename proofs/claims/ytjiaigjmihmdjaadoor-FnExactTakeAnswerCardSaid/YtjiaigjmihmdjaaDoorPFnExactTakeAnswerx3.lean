
/- The machine's side, written by a program of this session (a turned print): each function as a plain Lean function, and that the call comes to it. -/
import Derived.Test.YtjiaigjmihmdjaaDoorPFnExactTakeAnswerx0
import Derived.Test.YtjiaigjmihmdjaaDoorPFnExactTakeAnswerx1
import Derived.Test.YtjiaigjmihmdjaaDoorPFnExactTakeAnswerx2
namespace Go.Proofs.YtjiaigjmihmdjaaDoor.PFnExactTakeAnswer
open Go.RowKit Go.Proofs.YtjiaigjmihmdjaaDoorW.PrintWords Go.Proofs.YtjiaigjmihmdjaaDoorW.PrintLast Go.Proofs.YtjiaigjmihmdjaaDoorW.PrintMore
attribute [local go_sem] max2_int min2_int max_two min_two max_three min_three max_four min_four   -- for this text's walks alone
set_option linter.unusedVariables false
set_option linter.unusedSimpArgs false

/-! ### spec_SigOk: function 145 -/
mutual
def spec_SigOk.j0 : Nat → Bool → Int → Int → List Int → List ByteArray → Option (Bool)
 | 0, _, _, _, _, _ => none
 | k + 1, x31, x183000, x183001, x183002, x183003 => if x31 = true then (some false) else (spec_SigOk.l0 k 0 x183000 x183001 x183002 x183003)
def spec_SigOk.l0 : Nat → Int → Int → Int → List Int → List ByteArray → Option (Bool)
 | 0, _, _, _, _, _ => none
 | k + 1, x3, x183000, x183001, x183002, x183003 => if x3 < (x183003.length : Int) then (if 0 ≤ x3 then (if ((rdOf ByteArray.empty x183003 x3).size : Int) = 4 then (spec_SigOk.l0 k (wrap64 (x3 + 1)) x183000 x183001 x183002 x183003) else (some false)) else (none)) else (if x183001 = 0 then ((spec_SigLen.f k x183000 x183001 x183002 x183003).bind fun t186 => (some (decide (t186 ≤ 20000)))) else (if (x183002.length : Int) > 0 then ((spec_SigLen.f k x183000 x183001 x183002 x183003).bind fun t187 => (some (decide (t187 ≤ 20000)))) else (some false)))
end
def spec_SigOk.f (k : Nat) (a0_0 : Int) (a0_1 : Int) (l0_2 : List Int) (l0_3 : List ByteArray) : Option (Bool) := (spec_l01In.f a0_0 1 256).bind fun t183 => (if t183 = true then ((spec_l01In.f a0_1 0 (wrap64 (a0_0 - 1))).bind fun t184 => (if t184 = true then (if (l0_2.length : Int) > 2500 then (spec_SigOk.j0 k true a0_0 a0_1 l0_2 l0_3) else (spec_SigOk.j0 k ((l0_2.length : Int) != (l0_3.length : Int)) a0_0 a0_1 l0_2 l0_3)) else (spec_SigOk.j0 k true a0_0 a0_1 l0_2 l0_3))) else (spec_SigOk.j0 k true a0_0 a0_1 l0_2 l0_3))
theorem spec_SigOk.mono_l : ∀ k, (∀ y0 y1 y2 y3 y4, LeO (spec_SigOk.j0 k y0 y1 y2 y3 y4) (spec_SigOk.j0 (k + 1) y0 y1 y2 y3 y4)) ∧ (∀ y0 y1 y2 y3 y4, LeO (spec_SigOk.l0 k y0 y1 y2 y3 y4) (spec_SigOk.l0 (k + 1) y0 y1 y2 y3 y4))
 | 0 => ⟨fun _ _ _ _ _ r h => by simp [spec_SigOk.j0] at h, fun _ _ _ _ _ r h => by simp [spec_SigOk.l0] at h⟩
 | k + 1 => by
  obtain ⟨ih0, ih1⟩ := spec_SigOk.mono_l k
  refine ⟨?_, ?_⟩
  ·intro y0 y1 y2 y3 y4
   unfold spec_SigOk.j0
   repeat' first | (with_reducible first | exact ih0 _ _ _ _ _ | exact ih1 _ _ _ _ _ | exact spec_SigLen.mono _ _ _ _ _ | exact LeO.refl _ | exact LeO.none _ | refine LeO.ite ?_ ?_ | refine LeO.bind ?_ (fun _ => ?_)) | exact ih0 _ _ _ _ _ | exact ih1 _ _ _ _ _ | exact spec_SigLen.mono _ _ _ _ _ | exact LeO.none _ | refine LeO.ite ?_ ?_ | refine LeO.bind ?_ (fun _ => ?_)
  ·intro y0 y1 y2 y3 y4
   unfold spec_SigOk.l0
   repeat' first | (with_reducible first | exact ih0 _ _ _ _ _ | exact ih1 _ _ _ _ _ | exact spec_SigLen.mono _ _ _ _ _ | exact LeO.refl _ | exact LeO.none _ | refine LeO.ite ?_ ?_ | refine LeO.bind ?_ (fun _ => ?_)) | exact ih0 _ _ _ _ _ | exact ih1 _ _ _ _ _ | exact spec_SigLen.mono _ _ _ _ _ | exact LeO.none _ | refine LeO.ite ?_ ?_ | refine LeO.bind ?_ (fun _ => ?_)
theorem spec_SigOk.mono : ∀ a0 a1 a2 a3 k, LeO (spec_SigOk.f k a0 a1 a2 a3) (spec_SigOk.f (k + 1) a0 a1 a2 a3) := by
 intro a0 a1 a2 a3 k
 obtain ⟨ih0, ih1⟩ := spec_SigOk.mono_l k
 unfold spec_SigOk.f
 repeat' first | (with_reducible first | exact ih0 _ _ _ _ _ | exact ih1 _ _ _ _ _ | exact spec_SigLen.mono _ _ _ _ _ | exact LeO.refl _ | exact LeO.none _ | refine LeO.ite ?_ ?_ | refine LeO.bind ?_ (fun _ => ?_)) | exact ih0 _ _ _ _ _ | exact ih1 _ _ _ _ _ | exact spec_SigLen.mono _ _ _ _ _ | exact LeO.none _ | refine LeO.ite ?_ ?_ | refine LeO.bind ?_ (fun _ => ?_)
set_option maxHeartbeats 8000000 in
set_option maxRecDepth 100000 in
theorem spec_SigOk.calls (k : Nat) (a0_0 : Int) (a0_1 : Int) (A0_2 : Option Addr) (c0_2 : Nat) (l0_2 : List Int) (A0_3 : Option Addr) (c0_3 : Nat) (l0_3 : List ByteArray) (r : Bool) (w : World) (hr0_2 : Kd.C (Kd.int .u32) w A0_2 l0_2.length l0_2) (hc0_2 : l0_2.length ≤ c0_2) (hr0_3 : Kd.C Kd.string w A0_3 l0_3.length l0_3) (hc0_3 : l0_3.length ≤ c0_3) (h : spec_SigOk.f k a0_0 a0_1 l0_2 l0_3 = some r) :
  Calls Tryd.prog 145 #[.agg #[.int .i64 a0_0, .int .i64 a0_1, .slice A0_2 l0_2.length c0_2, .slice A0_3 l0_3.length c0_3]] w fun e w' => e = .returned (.bool r) ∧ Below w.heap.size w w' := by
 have hu30 := Tryd.underlying30
 have HR0_2 := Aside0.mk hr0_2
 have HC0_2 := Aside0.mk hc0_2
 clear hr0_2 hc0_2
 have HR0_3 := Aside0.mk hr0_3
 have HC0_3 := Aside0.mk hc0_3
 clear hr0_3 hc0_3
 have HB := Aside0.mk (Below.refl w.heap.size w)
 have H : ((spec_l01In.f a0_0 1 256).bind fun t183 => (if t183 = true then ((spec_l01In.f a0_1 0 (wrap64 (a0_0 - 1))).bind fun t184 => (if t184 = true then (if (l0_2.length : Int) > 2500 then (spec_SigOk.j0 k true a0_0 a0_1 l0_2 l0_3) else (spec_SigOk.j0 k ((l0_2.length : Int) != (l0_3.length : Int)) a0_0 a0_1 l0_2 l0_3)) else (spec_SigOk.j0 k true a0_0 a0_1 l0_2 l0_3))) else (spec_SigOk.j0 k true a0_0 a0_1 l0_2 l0_3))) = some r := h
 clear h
 have HC2 := Aside0.mk H
 clear H
 go_enter Tryd.func145, Tryd.ntmps145
 go_upto_region 1 with (first | ((with_reducible refine gate_dst (N := 1) rfl ?_); (try (refine gate_guard (by rfl) ?_; dsimp only)); refine box_event ?hg (N := 1) ?hd (cs := #[.int .i64 a0_0, .int .i64 a0_1, .slice A0_2 l0_2.length c0_2, .slice A0_3 l0_3.length c0_3]) (t := 30) ?hr ?_; (case hd => rfl); (case hg => rfl); (case hr => first | (go_simp; done) | (go_simp; rfl)); intro gb182 hg w3 hbox hb; have n0_ := Aside0.mk (below_step bz hb); have n1_ := Aside0.mk (hbox); have n2_ := Aside0.mk (bg : w.heap.size ≤ gb182); have n3_ := Aside0.mk (bg : w.heap.size ≤ gb182); clear HB; have HB := n0_; have BK182 := n1_; have GW182 := n2_; have GE182 := n3_; clear n0_ n1_ n2_ n3_; clear hb hbox hg))
 (try simp only [Act.put, List.setIfInBounds_toArray, List.set_cons_zero, List.set_cons_succ])
 go_cut [31] (fun v31 wc => ∃ (kq : Nat) (x31_1 : Bool), v31 = .bool x31_1 ∧ Aside0 (spec_SigOk.j0 kq x31_1 a0_0 a0_1 l0_2 l0_3 = some r) ∧ Aside0 (kq ≤ k) ∧ Aside0 (wc.heap[gb182]? = some (.cells #[.int .i64 a0_0, .int .i64 a0_1, (.slice A0_2 l0_2.length c0_2), (.slice A0_3 l0_3.length c0_3)] 30 (0, 0))) ∧ Aside0 (Below w.heap.size w wc))
 case first =>
  have H := HC2.out
  clear HC2
  replace H := Option.bind_eq_some_iff.mp H
  obtain ⟨t183, A40, H⟩ := H
  try dsimp -simprocs only at H
  have A4 := Aside0.mk A40
  clear A40
  by_cases c5 : t183 = true
  ·subst c5
   have H1 : ((spec_l01In.f a0_1 0 (wrap64 (a0_0 - 1))).bind fun t184 => (if t184 = true then (if (l0_2.length : Int) > 2500 then (spec_SigOk.j0 k true a0_0 a0_1 l0_2 l0_3) else (spec_SigOk.j0 k ((l0_2.length : Int) != (l0_3.length : Int)) a0_0 a0_1 l0_2 l0_3)) else (spec_SigOk.j0 k true a0_0 a0_1 l0_2 l0_3))) = some r := by rw [if_pos rfl] at H; exact H
   clear H
   have H := H1
   clear H1
   replace H := Option.bind_eq_some_iff.mp H
   obtain ⟨t184, A60, H⟩ := H
   try dsimp -simprocs only at H
   have A6 := Aside0.mk A60
   clear A60
   by_cases c7 : t184 = true
   ·subst c7
    have H1 : (if (l0_2.length : Int) > 2500 then (spec_SigOk.j0 k true a0_0 a0_1 l0_2 l0_3) else (spec_SigOk.j0 k ((l0_2.length : Int) != (l0_3.length : Int)) a0_0 a0_1 l0_2 l0_3)) = some r := by rw [if_pos rfl] at H; exact H
    clear H
    have H := H1
    clear H1
    by_cases c8 : (l0_2.length : Int) > 2500
    ·rw [if_pos c8] at H
     have c8b0 : decide (2500 < (l0_2.length : Int)) = true := decide_eq_true c8
     have c8b1 : decide (2500 < l0_2.length) = true := decide_eq_true (by omega)
     clear c8
     (first | rw [c8b0] | (simp only [i64_w, i32_w]; rw [c8b0]) | skip)
     have H' := Aside0.mk H
     clear H
     obtain ⟨hcz9_0, hcz9_1, hcz9_2, hcz9_3, hfz9_0, hfz9_1, hfz9_2, hfz9_3⟩ := bc4 BK182.out
     go_wp2_with (first | ((with_reducible refine gate_callee (f := 73) rfl ?_); refine goesL_ (some 6) rfl rfl Tryd.func73 (by kernel_rfl) rfl #[.int .i64 a0_0, .int .i64 1, .int .i64 256] rfl mt ?_; (with_reducible refine (spec_l01In.calls a0_0 1 256 true _ A4.out).mono ?_); rintro e w' ⟨rfl, ⟨nd, rfl⟩⟩; refine ⟨_, rfl, ?_⟩) | (go_at_call 73; (with_reducible refine (spec_l01In.calls a0_1 0 (wrap64 (a0_0 - 1)) true _ A6.out).mono ?_); rintro e w' ⟨rfl, ⟨nd, rfl⟩⟩))
     go_meet
     case rel => exact ⟨_, (true), sd, H', ⟨ob⟩, ⟨(bo BK182)⟩, ⟨bz⟩⟩
    ·rw [if_neg c8] at H
     have c8b0 : decide (2500 < (l0_2.length : Int)) = false := decide_eq_false c8
     have c8b1 : decide (2500 < l0_2.length) = false := decide_eq_false (by omega)
     clear c8
     (first | rw [c8b0] | (simp only [i64_w, i32_w]; rw [c8b0]) | skip)
     have H' := Aside0.mk H
     clear H
     obtain ⟨hcz10_0, hcz10_1, hcz10_2, hcz10_3, hfz10_0, hfz10_1, hfz10_2, hfz10_3⟩ := bc4 BK182.out
     go_wp2_with (first | ((with_reducible refine gate_callee (f := 73) rfl ?_); refine goesL_ (some 6) rfl rfl Tryd.func73 (by kernel_rfl) rfl #[.int .i64 a0_0, .int .i64 1, .int .i64 256] rfl mt ?_; (with_reducible refine (spec_l01In.calls a0_0 1 256 true _ A4.out).mono ?_); rintro e w' ⟨rfl, ⟨nd, rfl⟩⟩; refine ⟨_, rfl, ?_⟩) | (go_at_call 73; (with_reducible refine (spec_l01In.calls a0_1 0 (wrap64 (a0_0 - 1)) true _ A6.out).mono ?_); rintro e w' ⟨rfl, ⟨nd, rfl⟩⟩))
     go_meet
     case rel => exact ⟨_, (((l0_2.length : Int) != (l0_3.length : Int))), sd, H', ⟨ob⟩, ⟨(bo BK182)⟩, ⟨bz⟩⟩
   ·replace c7 := Bool.eq_false_iff.mpr c7
    subst c7
    have H1 : (spec_SigOk.j0 k true a0_0 a0_1 l0_2 l0_3) = some r := by rw [if_neg (show ¬ (false = true) by decide)] at H; exact H
    clear H
    have H := H1
    clear H1
    have H' := Aside0.mk H
    clear H
    obtain ⟨hcz11_0, hcz11_1, hcz11_2, hcz11_3, hfz11_0, hfz11_1, hfz11_2, hfz11_3⟩ := bc4 BK182.out
    go_wp2_with (first | ((with_reducible refine gate_callee (f := 73) rfl ?_); refine goesL_ (some 6) rfl rfl Tryd.func73 (by kernel_rfl) rfl #[.int .i64 a0_0, .int .i64 1, .int .i64 256] rfl mt ?_; (with_reducible refine (spec_l01In.calls a0_0 1 256 true _ A4.out).mono ?_); rintro e w' ⟨rfl, ⟨nd, rfl⟩⟩; refine ⟨_, rfl, ?_⟩) | (go_at_call 73; (with_reducible refine (spec_l01In.calls a0_1 0 (wrap64 (a0_0 - 1)) false _ A6.out).mono ?_); rintro e w' ⟨rfl, ⟨nd, rfl⟩⟩))
    go_meet
    case rel => exact ⟨_, (true), sd, H', ⟨ob⟩, ⟨(bo BK182)⟩, ⟨bz⟩⟩
  ·replace c5 := Bool.eq_false_iff.mpr c5
   subst c5
   have H1 : (spec_SigOk.j0 k true a0_0 a0_1 l0_2 l0_3) = some r := by rw [if_neg (show ¬ (false = true) by decide)] at H; exact H
   clear H
   have H := H1
   clear H1
   have H' := Aside0.mk H
   clear H
   obtain ⟨hcz12_0, hcz12_1, hcz12_2, hcz12_3, hfz12_0, hfz12_1, hfz12_2, hfz12_3⟩ := bc4 BK182.out
   go_wp2_with (first | ((with_reducible refine gate_callee (f := 73) rfl ?_); refine goesL_ (some 6) rfl rfl Tryd.func73 (by kernel_rfl) rfl #[.int .i64 a0_0, .int .i64 1, .int .i64 256] rfl mt ?_; (with_reducible refine (spec_l01In.calls a0_0 1 256 false _ A4.out).mono ?_); rintro e w' ⟨rfl, ⟨nd, rfl⟩⟩; refine ⟨_, rfl, ?_⟩))
   go_meet
   case rel => exact ⟨_, (true), sd, H', ⟨ob⟩, ⟨(bo BK182)⟩, ⟨bz⟩⟩
 case rest =>
  clear HC2
  try clear c1
  try clear p2
  try clear c5
  try clear p6
  try clear c7
  try clear c8
  try clear c8b0
  try clear c8b1
  try clear hcz10_0 hcz10_1 hcz10_2 hcz10_3 hfz10_0 hfz10_1 hfz10_2 hfz10_3
  try clear hcz11_0 hcz11_1 hcz11_2 hcz11_3 hfz11_0 hfz11_1 hfz11_2 hfz11_3
  try clear hcz12_0 hcz12_1 hcz12_2 hcz12_3 hfz12_0 hfz12_1 hfz12_2 hfz12_3
  try clear hcz9_0 hcz9_1 hcz9_2 hcz9_3 hfz9_0 hfz9_1 hfz9_2 hfz9_3
  obtain ⟨kq, x31_1, rfl, HA, HJ1, BK182, HB⟩ := hcut
  cases kq with
  | zero => exact absurd HA.out (by simp [spec_SigOk.j0])
  | succ kj1 =>
   have H := HA.out
   clear HA
   simp only [spec_SigOk.j0] at H
   by_cases c13 : x31_1 = true
   ·subst c13
    have H1 : (some false) = some r := by rw [if_pos rfl] at H; exact H
    clear H
    have H := H1
    clear H1
    obtain rfl := Option.some.inj H
    go_wp2
    go_ret
    exact ⟨rq, bz⟩
   ·replace c13 := Bool.eq_false_iff.mpr c13
    subst c13
    have H1 : (spec_SigOk.l0 kj1 0 a0_0 a0_1 l0_2 l0_3) = some r := by rw [if_neg (show ¬ (false = true) by decide)] at H; exact H
    clear H
    have H := H1
    clear H1
    have H' := Aside0.mk H
    clear H
    go_wp2
    go_loopg [3] kj1 (fun kq v3 w' => ∃ (x3_2 : Int), v3 = .int .i64 x3_2 ∧ Aside0 (spec_SigOk.l0 kq x3_2 a0_0 a0_1 l0_2 l0_3 = some r) ∧ Aside0 (kq ≤ kj1) ∧ Aside0 (w'.heap[gb182]? = some (.cells #[.int .i64 a0_0, .int .i64 a0_1, (.slice A0_2 l0_2.length c0_2), (.slice A0_3 l0_3.length c0_3)] 30 (0, 0))) ∧ Aside0 (Below w.heap.size w w'))
    case atStart => exact ⟨(0), sd, H', ⟨Nat.le_refl _⟩, ⟨(bo BK182)⟩, ⟨bz⟩⟩
    case round =>
     clear H'
     try clear c1
     try clear p2
     try clear c5
     try clear p6
     try clear c7
     try clear c8
     try clear c8b0
     try clear c8b1
     try clear c13
     try clear hcz10_0 hcz10_1 hcz10_2 hcz10_3 hfz10_0 hfz10_1 hfz10_2 hfz10_3
     try clear hcz11_0 hcz11_1 hcz11_2 hcz11_3 hfz11_0 hfz11_1 hfz11_2 hfz11_3
     try clear hcz12_0 hcz12_1 hcz12_2 hcz12_3 hfz12_0 hfz12_1 hfz12_2 hfz12_3
     try clear hcz9_0 hcz9_1 hcz9_2 hcz9_3 hfz9_0 hfz9_1 hfz9_2 hfz9_3
     try clear p2
     try clear p6
     obtain ⟨x3_2, rfl, HA, HK2, BK182, HB⟩ := hrel
     cases gk with
     | zero => exact absurd HA.out (by simp [spec_SigOk.l0])
     | succ k2 =>
      have H := HA.out
      clear HA
      simp only [spec_SigOk.l0] at H
      by_cases c14 : x3_2 < (l0_3.length : Int)
      ·rw [if_pos c14] at H
       have c14b0 : decide (x3_2 < (l0_3.length : Int)) = true := decide_eq_true c14
       clear c14
       by_cases c15 : 0 ≤ x3_2
       ·rw [if_pos c15] at H
        have c15b0 : decide (0 ≤ x3_2) = true := decide_eq_true c15
        clear c15
        by_cases c16 : ((rdOf ByteArray.empty l0_3 x3_2).size : Int) = 4
        ·rw [if_pos c16] at H
         have c16b0 : (((rdOf ByteArray.empty l0_3 x3_2).size : Int) == 4) = true := beq_iff_eq.mpr c16
         have c16b1 : (((rdOf ByteArray.empty l0_3 x3_2).size : Int) != 4) = false := bne_eq_false_iff_eq.mpr c16
         clear c16
         have H' := Aside0.mk H
         clear H
         obtain ⟨hcz17_0, hcz17_1, hcz17_2, hcz17_3, hfz17_0, hfz17_1, hfz17_2, hfz17_3⟩ := bc4 BK182.out
         have p185 : 0 ≤ (x3_2 : Int) := of_decide_eq_true am
         have q185 : x3_2 < (l0_3.length : Int) := of_decide_eq_true am
         obtain ⟨ad185, e185, hx185_0⟩ := Kd.at_string HR0_3.out x3_2 p185 q185
         cases e185
         replace hx185_0 := (HB.out.cell (World.block_lt_of_cell? w _ hx185_0)).trans hx185_0
         replace p185 := eq_true p185
         replace q185 := eq_true q185
         go_wp2
         go_roundg k2
         case measure => have := HJ1.out; have := HK2.out; omega
         case rel => exact ⟨(wrap64 (x3_2 + 1)), sd, H', ⟨by have := HJ1.out; have := HK2.out; omega⟩, ⟨(bo BK182)⟩, ⟨bz⟩⟩
        ·rw [if_neg c16] at H
         have c16b0 : (((rdOf ByteArray.empty l0_3 x3_2).size : Int) == 4) = false := beq_eq_false_iff_ne.mpr c16
         have c16b1 : (((rdOf ByteArray.empty l0_3 x3_2).size : Int) != 4) = true := bne_iff_ne.mpr c16
         obtain rfl := Option.some.inj H
         obtain ⟨hcz18_0, hcz18_1, hcz18_2, hcz18_3, hfz18_0, hfz18_1, hfz18_2, hfz18_3⟩ := bc4 BK182.out
         have p185 : 0 ≤ (x3_2 : Int) := of_decide_eq_true am
         have q185 : x3_2 < (l0_3.length : Int) := of_decide_eq_true am
         obtain ⟨ad185, e185, hx185_0⟩ := Kd.at_string HR0_3.out x3_2 p185 q185
         cases e185
         replace hx185_0 := (HB.out.cell (World.block_lt_of_cell? w _ hx185_0)).trans hx185_0
         replace p185 := eq_true p185
         replace q185 := eq_true q185
         go_wp2
         go_ret
         exact ⟨rq, bz⟩
       ·rw [if_neg c15] at H
        exact absurd H (by simp)
      ·rw [if_neg c14] at H
       have c14b0 : decide (x3_2 < (l0_3.length : Int)) = false := decide_eq_false c14
       clear c14
       by_cases c19 : a0_1 = 0
       ·rw [if_pos c19] at H
        have c19b0 : (a0_1 == 0) = true := beq_iff_eq.mpr c19
        have c19b1 : (a0_1 != 0) = false := bne_eq_false_iff_eq.mpr c19
        clear c19
        replace H := Option.bind_eq_some_iff.mp H
        obtain ⟨t186, A200, H⟩ := H
        try dsimp -simprocs only at H
        have A20 := Aside0.mk A200
        clear A200
        obtain rfl := Option.some.inj H
        obtain ⟨hcz21_0, hcz21_1, hcz21_2, hcz21_3, hfz21_0, hfz21_1, hfz21_2, hfz21_3⟩ := bc4 BK182.out
        go_wp2_with (first | (go_at_call 196; (with_reducible refine (spec_SigLen.calls k2 a0_0 a0_1 _ _ l0_2 _ _ l0_3 t186 _ ?side1 ?side2 ?side3 ?side4 A20.out).mono ?_); (case side1 => exact cz HR0_2); (case side2 => exact HC0_2.out); (case side3 => exact cz HR0_3); (case side4 => exact HC0_3.out); rintro e w22 ⟨rfl, hb⟩; have n0_ := Aside0.mk (blk_below (bo BK182) hb); have n1_ := Aside0.mk (below_step bz hb); clear BK182; clear HB; have BK182 := n0_; have HB := n1_; clear n0_ n1_; (try clear hb); (try clear hb2); (try clear hk); (try clear hi)))
        go_ret
        exact ⟨rq, bz⟩
       ·rw [if_neg c19] at H
        have c19b0 : (a0_1 == 0) = false := beq_eq_false_iff_ne.mpr c19
        have c19b1 : (a0_1 != 0) = true := bne_iff_ne.mpr c19
        by_cases c23 : (l0_2.length : Int) > 0
        ·rw [if_pos c23] at H
         have c23b0 : decide (0 < (l0_2.length : Int)) = true := decide_eq_true c23
         have c23b1 : decide (0 < l0_2.length) = true := decide_eq_true (by omega)
         clear c23
         replace H := Option.bind_eq_some_iff.mp H
         obtain ⟨t187, A240, H⟩ := H
         try dsimp -simprocs only at H
         have A24 := Aside0.mk A240
         clear A240
         obtain rfl := Option.some.inj H
         obtain ⟨hcz25_0, hcz25_1, hcz25_2, hcz25_3, hfz25_0, hfz25_1, hfz25_2, hfz25_3⟩ := bc4 BK182.out
         go_wp2_with (first | (go_at_call 196; (with_reducible refine (spec_SigLen.calls k2 a0_0 a0_1 _ _ l0_2 _ _ l0_3 t187 _ ?side1 ?side2 ?side3 ?side4 A24.out).mono ?_); (case side1 => exact cz HR0_2); (case side2 => exact HC0_2.out); (case side3 => exact cz HR0_3); (case side4 => exact HC0_3.out); rintro e w26 ⟨rfl, hb⟩; have n0_ := Aside0.mk (blk_below (bo BK182) hb); have n1_ := Aside0.mk (below_step bz hb); clear BK182; clear HB; have BK182 := n0_; have HB := n1_; clear n0_ n1_; (try clear hb); (try clear hb2); (try clear hk); (try clear hi)))
         go_ret
         exact ⟨rq, bz⟩
        ·rw [if_neg c23] at H
         have c23b0 : decide (0 < (l0_2.length : Int)) = false := decide_eq_false c23
         have c23b1 : decide (0 < l0_2.length) = false := decide_eq_false (by omega)
         clear c23
         obtain rfl := Option.some.inj H
         obtain ⟨hcz27_0, hcz27_1, hcz27_2, hcz27_3, hfz27_0, hfz27_1, hfz27_2, hfz27_3⟩ := bc4 BK182.out
         go_wp2
         go_ret
         exact ⟨rq, bz⟩

/-! ### spec_l18NoSig: function 146 -/
def spec_l18NoSig.f (a0_0 : Int) (a0_1 : Int) (l0_2 : List Int) (l0_3 : List ByteArray) : Option (Bool) := if a0_0 = 0 then (if a0_1 = 0 then (if (l0_2.length : Int) = 0 then (some ((l0_3.length : Int) == 0)) else (some false)) else (some false)) else (some false)
set_option maxHeartbeats 8000000 in
set_option maxRecDepth 100000 in
theorem spec_l18NoSig.calls (a0_0 : Int) (a0_1 : Int) (A0_2 : Option Addr) (c0_2 : Nat) (l0_2 : List Int) (A0_3 : Option Addr) (c0_3 : Nat) (l0_3 : List ByteArray) (r : Bool) (w : World) (hr0_2 : Kd.C (Kd.int .u32) w A0_2 l0_2.length l0_2) (hc0_2 : l0_2.length ≤ c0_2) (hr0_3 : Kd.C Kd.string w A0_3 l0_3.length l0_3) (hc0_3 : l0_3.length ≤ c0_3) (h : spec_l18NoSig.f a0_0 a0_1 l0_2 l0_3 = some r) :
  Calls Tryd.prog 146 #[.agg #[.int .i64 a0_0, .int .i64 a0_1, .slice A0_2 l0_2.length c0_2, .slice A0_3 l0_3.length c0_3]] w fun e w' => e = .returned (.bool r) ∧ Below w.heap.size w w' := by
 have hu30 := Tryd.underlying30
 have HR0_2 := Aside0.mk hr0_2
 have HC0_2 := Aside0.mk hc0_2
 clear hr0_2 hc0_2
 have HR0_3 := Aside0.mk hr0_3
 have HC0_3 := Aside0.mk hc0_3
 clear hr0_3 hc0_3
 have HB := Aside0.mk (Below.refl w.heap.size w)
 have H : (if a0_0 = 0 then (if a0_1 = 0 then (if (l0_2.length : Int) = 0 then (some ((l0_3.length : Int) == 0)) else (some false)) else (some false)) else (some false)) = some r := h
 clear h
 by_cases c2 : a0_0 = 0
 ·rw [if_pos c2] at H
  have c2b0 : (a0_0 == 0) = true := beq_iff_eq.mpr c2
  have c2b1 : (a0_0 != 0) = false := bne_eq_false_iff_eq.mpr c2
  clear c2
  by_cases c3 : a0_1 = 0
  ·rw [if_pos c3] at H
   have c3b0 : (a0_1 == 0) = true := beq_iff_eq.mpr c3
   have c3b1 : (a0_1 != 0) = false := bne_eq_false_iff_eq.mpr c3
   clear c3
   by_cases c4 : (l0_2.length : Int) = 0
   ·rw [if_pos c4] at H
    have c4b0 : ((l0_2.length : Int) == 0) = true := beq_iff_eq.mpr c4
    have c4b1 : ((l0_2.length : Int) != 0) = false := bne_eq_false_iff_eq.mpr c4
    clear c4
    obtain rfl := Option.some.inj H
    go_enter Tryd.func146, Tryd.ntmps146
    go_wp2_with (first | ((with_reducible refine gate_dst (N := 1) rfl ?_); (try (refine gate_guard (by rfl) ?_; dsimp only)); refine box_event ?hg (N := 1) ?hd (cs := #[.int .i64 a0_0, .int .i64 a0_1, .slice A0_2 l0_2.length c0_2, .slice A0_3 l0_3.length c0_3]) (t := 30) ?hr ?_; (case hd => rfl); (case hg => rfl); (case hr => first | (go_simp; done) | (go_simp; rfl)); intro gb188 hg w5 hbox hb; have n0_ := Aside0.mk (below_step bz hb); have n1_ := Aside0.mk (hbox); have n2_ := Aside0.mk (bg : w.heap.size ≤ gb188); have n3_ := Aside0.mk (bg : w.heap.size ≤ gb188); clear HB; have HB := n0_; have BK188 := n1_; have GW188 := n2_; have GE188 := n3_; clear n0_ n1_ n2_ n3_; clear hb hbox hg; obtain ⟨hcz6_0, hcz6_1, hcz6_2, hcz6_3, hfz6_0, hfz6_1, hfz6_2, hfz6_3⟩ := bc4 BK188.out))
    go_ret
    exact ⟨rq, bz⟩
   ·rw [if_neg c4] at H
    have c4b0 : ((l0_2.length : Int) == 0) = false := beq_eq_false_iff_ne.mpr c4
    have c4b1 : ((l0_2.length : Int) != 0) = true := bne_iff_ne.mpr c4
    have c4b2 : ¬ (l0_2 = []) := fun h_ => c4 (by rw [h_]; rfl)
    obtain rfl := Option.some.inj H
    go_enter Tryd.func146, Tryd.ntmps146
    go_wp2_with (first | ((with_reducible refine gate_dst (N := 1) rfl ?_); (try (refine gate_guard (by rfl) ?_; dsimp only)); refine box_event ?hg (N := 1) ?hd (cs := #[.int .i64 a0_0, .int .i64 a0_1, .slice A0_2 l0_2.length c0_2, .slice A0_3 l0_3.length c0_3]) (t := 30) ?hr ?_; (case hd => rfl); (case hg => rfl); (case hr => first | (go_simp; done) | (go_simp; rfl)); intro gb188 hg w7 hbox hb; have n0_ := Aside0.mk (below_step bz hb); have n1_ := Aside0.mk (hbox); have n2_ := Aside0.mk (bg : w.heap.size ≤ gb188); have n3_ := Aside0.mk (bg : w.heap.size ≤ gb188); clear HB; have HB := n0_; have BK188 := n1_; have GW188 := n2_; have GE188 := n3_; clear n0_ n1_ n2_ n3_; clear hb hbox hg; obtain ⟨hcz8_0, hcz8_1, hcz8_2, hcz8_3, hfz8_0, hfz8_1, hfz8_2, hfz8_3⟩ := bc4 BK188.out))
    go_ret
    exact ⟨rq, bz⟩
  ·rw [if_neg c3] at H
   have c3b0 : (a0_1 == 0) = false := beq_eq_false_iff_ne.mpr c3
   have c3b1 : (a0_1 != 0) = true := bne_iff_ne.mpr c3
   obtain rfl := Option.some.inj H
   go_enter Tryd.func146, Tryd.ntmps146
   go_wp2_with (first | ((with_reducible refine gate_dst (N := 1) rfl ?_); (try (refine gate_guard (by rfl) ?_; dsimp only)); refine box_event ?hg (N := 1) ?hd (cs := #[.int .i64 a0_0, .int .i64 a0_1, .slice A0_2 l0_2.length c0_2, .slice A0_3 l0_3.length c0_3]) (t := 30) ?hr ?_; (case hd => rfl); (case hg => rfl); (case hr => first | (go_simp; done) | (go_simp; rfl)); intro gb188 hg w9 hbox hb; have n0_ := Aside0.mk (below_step bz hb); have n1_ := Aside0.mk (hbox); have n2_ := Aside0.mk (bg : w.heap.size ≤ gb188); have n3_ := Aside0.mk (bg : w.heap.size ≤ gb188); clear HB; have HB := n0_; have BK188 := n1_; have GW188 := n2_; have GE188 := n3_; clear n0_ n1_ n2_ n3_; clear hb hbox hg; obtain ⟨hcz10_0, hcz10_1, hcz10_2, hcz10_3, hfz10_0, hfz10_1, hfz10_2, hfz10_3⟩ := bc4 BK188.out))
   go_ret
   exact ⟨rq, bz⟩
 ·rw [if_neg c2] at H
  have c2b0 : (a0_0 == 0) = false := beq_eq_false_iff_ne.mpr c2
  have c2b1 : (a0_0 != 0) = true := bne_iff_ne.mpr c2
  obtain rfl := Option.some.inj H
  go_enter Tryd.func146, Tryd.ntmps146
  go_wp2_with (first | ((with_reducible refine gate_dst (N := 1) rfl ?_); (try (refine gate_guard (by rfl) ?_; dsimp only)); refine box_event ?hg (N := 1) ?hd (cs := #[.int .i64 a0_0, .int .i64 a0_1, .slice A0_2 l0_2.length c0_2, .slice A0_3 l0_3.length c0_3]) (t := 30) ?hr ?_; (case hd => rfl); (case hg => rfl); (case hr => first | (go_simp; done) | (go_simp; rfl)); intro gb188 hg w11 hbox hb; have n0_ := Aside0.mk (below_step bz hb); have n1_ := Aside0.mk (hbox); have n2_ := Aside0.mk (bg : w.heap.size ≤ gb188); have n3_ := Aside0.mk (bg : w.heap.size ≤ gb188); clear HB; have HB := n0_; have BK188 := n1_; have GW188 := n2_; have GE188 := n3_; clear n0_ n1_ n2_ n3_; clear hb hbox hg; obtain ⟨hcz12_0, hcz12_1, hcz12_2, hcz12_3, hfz12_0, hfz12_1, hfz12_2, hfz12_3⟩ := bc4 BK188.out))
  go_ret
  exact ⟨rq, bz⟩

/-! ### spec_MsgOk: function 86 -/
def spec_MsgOk.f (k : Nat) (a0_0 : Int) (a0_1 : Int) (a0_2 : Int) (a0_3 : Int) (l0_4 : List Int) (l0_5 : List ByteArray) (l0_6 : List (S148)) (a0_7 : ByteArray) : Option (Bool) := (spec_l01In.f a0_1 0 1000).bind fun t190 => (if t190 = true then (if a0_0 = 0 then ((spec_SigOk.f k a0_2 a0_3 l0_4 l0_5).bind fun t191 => (if t191 = true then (if (l0_6.length : Int) = 0 then (some (a0_7.toList == ([] : List UInt8))) else (some false)) else (some false))) else (if a0_0 = 1 then ((spec_l18NoSig.f a0_2 a0_3 l0_4 l0_5).bind fun t192 => (if t192 = true then ((spec_PutTokens.f k l0_6).bind fun t193 => (if (t193.length : Int) > 0 then (some ((a0_7.size : Int) == 16)) else (some false))) else (some false))) else (if a0_0 = 2 then ((spec_l18NoSig.f a0_2 a0_3 l0_4 l0_5).bind fun t196 => (if t196 = true then (if (l0_6.length : Int) = 0 then (some (a0_7.toList == ([] : List UInt8))) else (some false)) else (some false))) else (some false)))) else (some false))
theorem spec_MsgOk.mono : ∀ a0 a1 a2 a3 a4 a5 a6 a7 k, LeO (spec_MsgOk.f k a0 a1 a2 a3 a4 a5 a6 a7) (spec_MsgOk.f (k + 1) a0 a1 a2 a3 a4 a5 a6 a7) := by
 intro a0 a1 a2 a3 a4 a5 a6 a7 k
 unfold spec_MsgOk.f
 repeat' first | (with_reducible first | exact spec_PutTokens.mono _ _ | exact spec_SigOk.mono _ _ _ _ _ | exact LeO.refl _ | exact LeO.none _ | refine LeO.ite ?_ ?_ | refine LeO.bind ?_ (fun _ => ?_)) | exact spec_PutTokens.mono _ _ | exact spec_SigOk.mono _ _ _ _ _ | exact LeO.none _ | refine LeO.ite ?_ ?_ | refine LeO.bind ?_ (fun _ => ?_)
set_option maxHeartbeats 8000000 in
set_option maxRecDepth 100000 in
theorem spec_MsgOk.calls (k : Nat) (a0_0 : Int) (a0_1 : Int) (a0_2 : Int) (a0_3 : Int) (A0_4 : Option Addr) (c0_4 : Nat) (l0_4 : List Int) (A0_5 : Option Addr) (c0_5 : Nat) (l0_5 : List ByteArray) (A0_6 : Option Addr) (c0_6 : Nat) (l0_6 : List (S148)) (a0_7 : ByteArray) (r : Bool) (w : World) (hr0_4 : Kd.C (Kd.int .u32) w A0_4 l0_4.length l0_4) (hc0_4 : l0_4.length ≤ c0_4) (hr0_5 : Kd.C Kd.string w A0_5 l0_5.length l0_5) (hc0_5 : l0_5.length ≤ c0_5) (hr0_6 : Kd.C k148 w A0_6 l0_6.length l0_6) (hc0_6 : l0_6.length ≤ c0_6) (h : spec_MsgOk.f k a0_0 a0_1 a0_2 a0_3 l0_4 l0_5 l0_6 a0_7 = some r) :
  Calls Tryd.prog 86 #[.agg #[.int .i64 a0_0, .int .i64 a0_1, .int .i64 a0_2, .int .i64 a0_3, .slice A0_4 l0_4.length c0_4, .slice A0_5 l0_5.length c0_5, .slice A0_6 l0_6.length c0_6, .string a0_7]] w fun e w' => e = .returned (.bool r) ∧ Below w.heap.size w w' := by
 have hu49 := Tryd.underlying49
 have hu30 := Tryd.underlying30
 have HR0_4 := Aside0.mk hr0_4
 have HC0_4 := Aside0.mk hc0_4
 clear hr0_4 hc0_4
 have HR0_5 := Aside0.mk hr0_5
 have HC0_5 := Aside0.mk hc0_5
 clear hr0_5 hc0_5
 have HR0_6 := Aside0.mk hr0_6
 have HC0_6 := Aside0.mk hc0_6
 clear hr0_6 hc0_6
 have HB := Aside0.mk (Below.refl w.heap.size w)
 have H : ((spec_l01In.f a0_1 0 1000).bind fun t190 => (if t190 = true then (if a0_0 = 0 then ((spec_SigOk.f k a0_2 a0_3 l0_4 l0_5).bind fun t191 => (if t191 = true then (if (l0_6.length : Int) = 0 then (some (a0_7.toList == ([] : List UInt8))) else (some false)) else (some false))) else (if a0_0 = 1 then ((spec_l18NoSig.f a0_2 a0_3 l0_4 l0_5).bind fun t192 => (if t192 = true then ((spec_PutTokens.f k l0_6).bind fun t193 => (if (t193.length : Int) > 0 then (some ((a0_7.size : Int) == 16)) else (some false))) else (some false))) else (if a0_0 = 2 then ((spec_l18NoSig.f a0_2 a0_3 l0_4 l0_5).bind fun t196 => (if t196 = true then (if (l0_6.length : Int) = 0 then (some (a0_7.toList == ([] : List UInt8))) else (some false)) else (some false))) else (some false)))) else (some false))) = some r := h
 clear h
 replace H := Option.bind_eq_some_iff.mp H
 obtain ⟨t190, A20, H⟩ := H
 try dsimp -simprocs only at H
 have A2 := Aside0.mk A20
 clear A20
 have HC3 := Aside0.mk H
 clear H
 go_enter Tryd.func86, Tryd.ntmps86
 go_upto_if 6 with (first | ((with_reducible refine gate_dst (N := 1) rfl ?_); (try (refine gate_guard (by rfl) ?_; dsimp only)); refine box_event ?hg (N := 1) ?hd (cs := #[.int .i64 a0_0, .int .i64 a0_1, .int .i64 a0_2, .int .i64 a0_3, .slice A0_4 l0_4.length c0_4, .slice A0_5 l0_5.length c0_5, .slice A0_6 l0_6.length c0_6, .string a0_7]) (t := 49) ?hr ?_; (case hd => rfl); (case hg => rfl); (case hr => first | (go_simp; done) | (go_simp; rfl)); intro gb189 hg w4 hbox hb; have n0_ := Aside0.mk (below_step bz hb); have n1_ := Aside0.mk (hbox); have n2_ := Aside0.mk (bg : w.heap.size ≤ gb189); have n3_ := Aside0.mk (bg : w.heap.size ≤ gb189); clear HB; have HB := n0_; have BK189 := n1_; have GW189 := n2_; have GE189 := n3_; clear n0_ n1_ n2_ n3_; clear hb hbox hg; obtain ⟨hcz5_0, hcz5_1, hcz5_2, hcz5_3, hcz5_4, hcz5_5, hcz5_6, hcz5_7, hfz5_0, hfz5_1, hfz5_2, hfz5_3, hfz5_4, hfz5_5, hfz5_6, hfz5_7⟩ := bc8 BK189.out) | ((with_reducible refine gate_callee (f := 73) rfl ?_); refine goesL_ (some 5) rfl rfl Tryd.func73 (by kernel_rfl) rfl #[.int .i64 a0_1, .int .i64 0, .int .i64 1000] rfl mt ?_; (with_reducible refine (spec_l01In.calls a0_1 0 1000 t190 _ A2.out).mono ?_); rintro e w' ⟨rfl, ⟨nd, rfl⟩⟩; refine ⟨_, rfl, ?_⟩))
 (try simp only [Act.put, List.setIfInBounds_toArray, List.set_cons_zero, List.set_cons_succ])
 have H := HC3.out
 clear HC3
 by_cases c6 : t190 = true
 ·subst c6
  have H1 : (if a0_0 = 0 then ((spec_SigOk.f k a0_2 a0_3 l0_4 l0_5).bind fun t191 => (if t191 = true then (if (l0_6.length : Int) = 0 then (some (a0_7.toList == ([] : List UInt8))) else (some false)) else (some false))) else (if a0_0 = 1 then ((spec_l18NoSig.f a0_2 a0_3 l0_4 l0_5).bind fun t192 => (if t192 = true then ((spec_PutTokens.f k l0_6).bind fun t193 => (if (t193.length : Int) > 0 then (some ((a0_7.size : Int) == 16)) else (some false))) else (some false))) else (if a0_0 = 2 then ((spec_l18NoSig.f a0_2 a0_3 l0_4 l0_5).bind fun t196 => (if t196 = true then (if (l0_6.length : Int) = 0 then (some (a0_7.toList == ([] : List UInt8))) else (some false)) else (some false))) else (some false)))) = some r := by rw [if_pos rfl] at H; exact H
  clear H
  have H := H1
  clear H1
  by_cases c7 : a0_0 = 0
  ·rw [if_pos c7] at H
   have c7b0 : (a0_0 == 0) = true := beq_iff_eq.mpr c7
   have c7b1 : (a0_0 != 0) = false := bne_eq_false_iff_eq.mpr c7
   clear c7
   (first | rw [c7b0] | (simp only [i64_w, i32_w]; rw [c7b0]) | skip)
   replace H := Option.bind_eq_some_iff.mp H
   obtain ⟨t191, A80, H⟩ := H
   try dsimp -simprocs only at H
   have A8 := Aside0.mk A80
   clear A80
   by_cases c9 : t191 = true
   ·subst c9
    have H1 : (if (l0_6.length : Int) = 0 then (some (a0_7.toList == ([] : List UInt8))) else (some false)) = some r := by rw [if_pos rfl] at H; exact H
    clear H
    have H := H1
    clear H1
    by_cases c10 : (l0_6.length : Int) = 0
    ·rw [if_pos c10] at H
     have c10b0 : ((l0_6.length : Int) == 0) = true := beq_iff_eq.mpr c10
     have c10b1 : ((l0_6.length : Int) != 0) = false := bne_eq_false_iff_eq.mpr c10
     clear c10
     obtain rfl := Option.some.inj H
     obtain ⟨hcz11_0, hcz11_1, hcz11_2, hcz11_3, hcz11_4, hcz11_5, hcz11_6, hcz11_7, hfz11_0, hfz11_1, hfz11_2, hfz11_3, hfz11_4, hfz11_5, hfz11_6, hfz11_7⟩ := bc8 BK189.out
     go_wp2_with (first | ((with_reducible refine gate_callee (f := 145) rfl ?_); refine goesL_ (some 13) rfl rfl Tryd.func145 (by kernel_rfl) rfl #[.agg #[.int .i64 a0_2, .int .i64 a0_3, .slice A0_4 l0_4.length c0_4, .slice A0_5 l0_5.length c0_5]] rfl mt ?_; (with_reducible refine (spec_SigOk.calls k a0_2 a0_3 _ _ l0_4 _ _ l0_5 true _ ?side1 ?side2 ?side3 ?side4 A8.out).mono ?_); (case side1 => exact cz HR0_4); (case side2 => exact HC0_4.out); (case side3 => exact cz HR0_5); (case side4 => exact HC0_5.out); rintro e w12 ⟨rfl, hb⟩; refine ⟨_, rfl, ?_⟩; have n0_ := Aside0.mk (blk_below (bo BK189) hb); have n1_ := Aside0.mk (below_step bz hb); clear BK189; clear HB; have BK189 := n0_; have HB := n1_; clear n0_ n1_; (try clear hb); (try clear hb2); (try clear hk); (try clear hi); obtain ⟨hcz13_0, hcz13_1, hcz13_2, hcz13_3, hcz13_4, hcz13_5, hcz13_6, hcz13_7, hfz13_0, hfz13_1, hfz13_2, hfz13_3, hfz13_4, hfz13_5, hfz13_6, hfz13_7⟩ := bc8 BK189.out))
     go_ret
     exact ⟨rq, bz⟩
    ·rw [if_neg c10] at H
     have c10b0 : ((l0_6.length : Int) == 0) = false := beq_eq_false_iff_ne.mpr c10
     have c10b1 : ((l0_6.length : Int) != 0) = true := bne_iff_ne.mpr c10
     have c10b2 : ¬ (l0_6 = []) := fun h_ => c10 (by rw [h_]; rfl)
     obtain rfl := Option.some.inj H
     obtain ⟨hcz14_0, hcz14_1, hcz14_2, hcz14_3, hcz14_4, hcz14_5, hcz14_6, hcz14_7, hfz14_0, hfz14_1, hfz14_2, hfz14_3, hfz14_4, hfz14_5, hfz14_6, hfz14_7⟩ := bc8 BK189.out
     go_wp2_with (first | ((with_reducible refine gate_callee (f := 145) rfl ?_); refine goesL_ (some 13) rfl rfl Tryd.func145 (by kernel_rfl) rfl #[.agg #[.int .i64 a0_2, .int .i64 a0_3, .slice A0_4 l0_4.length c0_4, .slice A0_5 l0_5.length c0_5]] rfl mt ?_; (with_reducible refine (spec_SigOk.calls k a0_2 a0_3 _ _ l0_4 _ _ l0_5 true _ ?side1 ?side2 ?side3 ?side4 A8.out).mono ?_); (case side1 => exact cz HR0_4); (case side2 => exact HC0_4.out); (case side3 => exact cz HR0_5); (case side4 => exact HC0_5.out); rintro e w15 ⟨rfl, hb⟩; refine ⟨_, rfl, ?_⟩; have n0_ := Aside0.mk (blk_below (bo BK189) hb); have n1_ := Aside0.mk (below_step bz hb); clear BK189; clear HB; have BK189 := n0_; have HB := n1_; clear n0_ n1_; (try clear hb); (try clear hb2); (try clear hk); (try clear hi); obtain ⟨hcz16_0, hcz16_1, hcz16_2, hcz16_3, hcz16_4, hcz16_5, hcz16_6, hcz16_7, hfz16_0, hfz16_1, hfz16_2, hfz16_3, hfz16_4, hfz16_5, hfz16_6, hfz16_7⟩ := bc8 BK189.out))
     go_ret
     exact ⟨rq, bz⟩
   ·replace c9 := Bool.eq_false_iff.mpr c9
    subst c9
    have H1 : (some false) = some r := by rw [if_neg (show ¬ (false = true) by decide)] at H; exact H
    clear H
    have H := H1
    clear H1
    obtain rfl := Option.some.inj H
    obtain ⟨hcz17_0, hcz17_1, hcz17_2, hcz17_3, hcz17_4, hcz17_5, hcz17_6, hcz17_7, hfz17_0, hfz17_1, hfz17_2, hfz17_3, hfz17_4, hfz17_5, hfz17_6, hfz17_7⟩ := bc8 BK189.out
    go_wp2_with (first | ((with_reducible refine gate_callee (f := 145) rfl ?_); refine goesL_ (some 13) rfl rfl Tryd.func145 (by kernel_rfl) rfl #[.agg #[.int .i64 a0_2, .int .i64 a0_3, .slice A0_4 l0_4.length c0_4, .slice A0_5 l0_5.length c0_5]] rfl mt ?_; (with_reducible refine (spec_SigOk.calls k a0_2 a0_3 _ _ l0_4 _ _ l0_5 false _ ?side1 ?side2 ?side3 ?side4 A8.out).mono ?_); (case side1 => exact cz HR0_4); (case side2 => exact HC0_4.out); (case side3 => exact cz HR0_5); (case side4 => exact HC0_5.out); rintro e w18 ⟨rfl, hb⟩; refine ⟨_, rfl, ?_⟩; have n0_ := Aside0.mk (blk_below (bo BK189) hb); have n1_ := Aside0.mk (below_step bz hb); clear BK189; clear HB; have BK189 := n0_; have HB := n1_; clear n0_ n1_; (try clear hb); (try clear hb2); (try clear hk); (try clear hi)))
    go_ret
    exact ⟨rq, bz⟩
  ·rw [if_neg c7] at H
   have c7b0 : (a0_0 == 0) = false := beq_eq_false_iff_ne.mpr c7
   have c7b1 : (a0_0 != 0) = true := bne_iff_ne.mpr c7
   (first | rw [c7b0] | (simp only [i64_w, i32_w]; rw [c7b0]) | skip)
   by_cases c19 : a0_0 = 1
   ·rw [if_pos c19] at H
    have c19b0 : (a0_0 == 1) = true := beq_iff_eq.mpr c19
    have c19b1 : (a0_0 != 1) = false := bne_eq_false_iff_eq.mpr c19
    clear c19
    replace H := Option.bind_eq_some_iff.mp H
    obtain ⟨t192, A200, H⟩ := H
    try dsimp -simprocs only at H
    have A20 := Aside0.mk A200
    clear A200
    by_cases c21 : t192 = true
    ·subst c21
     have H1 : ((spec_PutTokens.f k l0_6).bind fun t193 => (if (t193.length : Int) > 0 then (some ((a0_7.size : Int) == 16)) else (some false))) = some r := by rw [if_pos rfl] at H; exact H
     clear H
     have H := H1
     clear H1
     replace H := Option.bind_eq_some_iff.mp H
     obtain ⟨t193, A220, H⟩ := H
     try dsimp -simprocs only at H
     have A22 := Aside0.mk A220
     clear A220
     by_cases c23 : (t193.length : Int) > 0
     ·rw [if_pos c23] at H
      have c23b0 : decide (0 < (t193.length : Int)) = true := decide_eq_true c23
      have c23b1 : decide (0 < t193.length) = true := decide_eq_true (by omega)
      clear c23
      obtain rfl := Option.some.inj H
      obtain ⟨hcz24_0, hcz24_1, hcz24_2, hcz24_3, hcz24_4, hcz24_5, hcz24_6, hcz24_7, hfz24_0, hfz24_1, hfz24_2, hfz24_3, hfz24_4, hfz24_5, hfz24_6, hfz24_7⟩ := bc8 BK189.out
      go_wp2_with (first | ((with_reducible refine gate_callee (f := 146) rfl ?_); refine goesL_ (some 29) rfl rfl Tryd.func146 (by kernel_rfl) rfl #[.agg #[.int .i64 a0_2, .int .i64 a0_3, .slice A0_4 l0_4.length c0_4, .slice A0_5 l0_5.length c0_5]] rfl mt ?_; (with_reducible refine (spec_l18NoSig.calls a0_2 a0_3 _ _ l0_4 _ _ l0_5 true _ ?side1 ?side2 ?side3 ?side4 A20.out).mono ?_); (case side1 => exact cz HR0_4); (case side2 => exact HC0_4.out); (case side3 => exact cz HR0_5); (case side4 => exact HC0_5.out); rintro e w25 ⟨rfl, hb⟩; refine ⟨_, rfl, ?_⟩; have n0_ := Aside0.mk (blk_below (bo BK189) hb); have n1_ := Aside0.mk (below_step bz hb); clear BK189; clear HB; have BK189 := n0_; have HB := n1_; clear n0_ n1_; (try clear hb); (try clear hb2); (try clear hk); (try clear hi); obtain ⟨hcz26_0, hcz26_1, hcz26_2, hcz26_3, hcz26_4, hcz26_5, hcz26_6, hcz26_7, hfz26_0, hfz26_1, hfz26_2, hfz26_3, hfz26_4, hfz26_5, hfz26_6, hfz26_7⟩ := bc8 BK189.out) | (go_at_call 49; (with_reducible refine (spec_PutTokens.calls k _ _ l0_6 t193 _ ?side1 ?side2 A22.out).mono ?_); (case side1 => exact cz HR0_6); (case side2 => exact HC0_6.out); rintro e w27 ⟨v194, rfl, ho0, hb⟩; have n0_ := Aside0.mk (Kd.R_lower ho0 (below_size bz)); have n1_ := Aside0.mk (blk_below (bo BK189) hb); have n2_ := Aside0.mk (below_step bz hb); clear BK189; clear HB; have HO195 := n0_; have BK189 := n1_; have HB := n2_; clear n0_ n1_ n2_; (try clear hb); (try clear hb2); (try clear hk); (try clear hi); (try clear ho0); obtain ⟨Ao28, co28, eo28⟩ := Kd.R_slice HO195.out; subst eo28; obtain ⟨hcz29_0, hcz29_1, hcz29_2, hcz29_3, hcz29_4, hcz29_5, hcz29_6, hcz29_7, hfz29_0, hfz29_1, hfz29_2, hfz29_3, hfz29_4, hfz29_5, hfz29_6, hfz29_7⟩ := bc8 BK189.out))
      go_ret
      exact ⟨rq, bz⟩
     ·rw [if_neg c23] at H
      have c23b0 : decide (0 < (t193.length : Int)) = false := decide_eq_false c23
      have c23b1 : decide (0 < t193.length) = false := decide_eq_false (by omega)
      clear c23
      obtain rfl := Option.some.inj H
      obtain ⟨hcz30_0, hcz30_1, hcz30_2, hcz30_3, hcz30_4, hcz30_5, hcz30_6, hcz30_7, hfz30_0, hfz30_1, hfz30_2, hfz30_3, hfz30_4, hfz30_5, hfz30_6, hfz30_7⟩ := bc8 BK189.out
      go_wp2_with (first | ((with_reducible refine gate_callee (f := 146) rfl ?_); refine goesL_ (some 29) rfl rfl Tryd.func146 (by kernel_rfl) rfl #[.agg #[.int .i64 a0_2, .int .i64 a0_3, .slice A0_4 l0_4.length c0_4, .slice A0_5 l0_5.length c0_5]] rfl mt ?_; (with_reducible refine (spec_l18NoSig.calls a0_2 a0_3 _ _ l0_4 _ _ l0_5 true _ ?side1 ?side2 ?side3 ?side4 A20.out).mono ?_); (case side1 => exact cz HR0_4); (case side2 => exact HC0_4.out); (case side3 => exact cz HR0_5); (case side4 => exact HC0_5.out); rintro e w31 ⟨rfl, hb⟩; refine ⟨_, rfl, ?_⟩; have n0_ := Aside0.mk (blk_below (bo BK189) hb); have n1_ := Aside0.mk (below_step bz hb); clear BK189; clear HB; have BK189 := n0_; have HB := n1_; clear n0_ n1_; (try clear hb); (try clear hb2); (try clear hk); (try clear hi); obtain ⟨hcz32_0, hcz32_1, hcz32_2, hcz32_3, hcz32_4, hcz32_5, hcz32_6, hcz32_7, hfz32_0, hfz32_1, hfz32_2, hfz32_3, hfz32_4, hfz32_5, hfz32_6, hfz32_7⟩ := bc8 BK189.out) | (go_at_call 49; (with_reducible refine (spec_PutTokens.calls k _ _ l0_6 t193 _ ?side1 ?side2 A22.out).mono ?_); (case side1 => exact cz HR0_6); (case side2 => exact HC0_6.out); rintro e w33 ⟨v194, rfl, ho0, hb⟩; have n0_ := Aside0.mk (Kd.R_lower ho0 (below_size bz)); have n1_ := Aside0.mk (blk_below (bo BK189) hb); have n2_ := Aside0.mk (below_step bz hb); clear BK189; clear HB; have HO195 := n0_; have BK189 := n1_; have HB := n2_; clear n0_ n1_ n2_; (try clear hb); (try clear hb2); (try clear hk); (try clear hi); (try clear ho0); obtain ⟨Ao34, co34, eo34⟩ := Kd.R_slice HO195.out; subst eo34))
      go_ret
      exact ⟨rq, bz⟩
    ·replace c21 := Bool.eq_false_iff.mpr c21
     subst c21
     have H1 : (some false) = some r := by rw [if_neg (show ¬ (false = true) by decide)] at H; exact H
     clear H
     have H := H1
     clear H1
     obtain rfl := Option.some.inj H
     obtain ⟨hcz35_0, hcz35_1, hcz35_2, hcz35_3, hcz35_4, hcz35_5, hcz35_6, hcz35_7, hfz35_0, hfz35_1, hfz35_2, hfz35_3, hfz35_4, hfz35_5, hfz35_6, hfz35_7⟩ := bc8 BK189.out
     go_wp2_with (first | ((with_reducible refine gate_callee (f := 146) rfl ?_); refine goesL_ (some 29) rfl rfl Tryd.func146 (by kernel_rfl) rfl #[.agg #[.int .i64 a0_2, .int .i64 a0_3, .slice A0_4 l0_4.length c0_4, .slice A0_5 l0_5.length c0_5]] rfl mt ?_; (with_reducible refine (spec_l18NoSig.calls a0_2 a0_3 _ _ l0_4 _ _ l0_5 false _ ?side1 ?side2 ?side3 ?side4 A20.out).mono ?_); (case side1 => exact cz HR0_4); (case side2 => exact HC0_4.out); (case side3 => exact cz HR0_5); (case side4 => exact HC0_5.out); rintro e w36 ⟨rfl, hb⟩; refine ⟨_, rfl, ?_⟩; have n0_ := Aside0.mk (blk_below (bo BK189) hb); have n1_ := Aside0.mk (below_step bz hb); clear BK189; clear HB; have BK189 := n0_; have HB := n1_; clear n0_ n1_; (try clear hb); (try clear hb2); (try clear hk); (try clear hi)))
     go_ret
     exact ⟨rq, bz⟩
   ·rw [if_neg c19] at H
    have c19b0 : (a0_0 == 1) = false := beq_eq_false_iff_ne.mpr c19
    have c19b1 : (a0_0 != 1) = true := bne_iff_ne.mpr c19
    by_cases c37 : a0_0 = 2
    ·rw [if_pos c37] at H
     have c37b0 : (a0_0 == 2) = true := beq_iff_eq.mpr c37
     have c37b1 : (a0_0 != 2) = false := bne_eq_false_iff_eq.mpr c37
     clear c37
     replace H := Option.bind_eq_some_iff.mp H
     obtain ⟨t196, A380, H⟩ := H
     try dsimp -simprocs only at H
     have A38 := Aside0.mk A380
     clear A380
     by_cases c39 : t196 = true
     ·subst c39
      have H1 : (if (l0_6.length : Int) = 0 then (some (a0_7.toList == ([] : List UInt8))) else (some false)) = some r := by rw [if_pos rfl] at H; exact H
      clear H
      have H := H1
      clear H1
      by_cases c40 : (l0_6.length : Int) = 0
      ·rw [if_pos c40] at H
       have c40b0 : ((l0_6.length : Int) == 0) = true := beq_iff_eq.mpr c40
       have c40b1 : ((l0_6.length : Int) != 0) = false := bne_eq_false_iff_eq.mpr c40
       clear c40
       obtain rfl := Option.some.inj H
       obtain ⟨hcz41_0, hcz41_1, hcz41_2, hcz41_3, hcz41_4, hcz41_5, hcz41_6, hcz41_7, hfz41_0, hfz41_1, hfz41_2, hfz41_3, hfz41_4, hfz41_5, hfz41_6, hfz41_7⟩ := bc8 BK189.out
       go_wp2_with (first | ((with_reducible refine gate_callee (f := 146) rfl ?_); refine goesL_ (some 47) rfl rfl Tryd.func146 (by kernel_rfl) rfl #[.agg #[.int .i64 a0_2, .int .i64 a0_3, .slice A0_4 l0_4.length c0_4, .slice A0_5 l0_5.length c0_5]] rfl mt ?_; (with_reducible refine (spec_l18NoSig.calls a0_2 a0_3 _ _ l0_4 _ _ l0_5 true _ ?side1 ?side2 ?side3 ?side4 A38.out).mono ?_); (case side1 => exact cz HR0_4); (case side2 => exact HC0_4.out); (case side3 => exact cz HR0_5); (case side4 => exact HC0_5.out); rintro e w42 ⟨rfl, hb⟩; refine ⟨_, rfl, ?_⟩; have n0_ := Aside0.mk (blk_below (bo BK189) hb); have n1_ := Aside0.mk (below_step bz hb); clear BK189; clear HB; have BK189 := n0_; have HB := n1_; clear n0_ n1_; (try clear hb); (try clear hb2); (try clear hk); (try clear hi); obtain ⟨hcz43_0, hcz43_1, hcz43_2, hcz43_3, hcz43_4, hcz43_5, hcz43_6, hcz43_7, hfz43_0, hfz43_1, hfz43_2, hfz43_3, hfz43_4, hfz43_5, hfz43_6, hfz43_7⟩ := bc8 BK189.out))
       go_ret
       exact ⟨rq, bz⟩
      ·rw [if_neg c40] at H
       have c40b0 : ((l0_6.length : Int) == 0) = false := beq_eq_false_iff_ne.mpr c40
       have c40b1 : ((l0_6.length : Int) != 0) = true := bne_iff_ne.mpr c40
       have c40b2 : ¬ (l0_6 = []) := fun h_ => c40 (by rw [h_]; rfl)
       obtain rfl := Option.some.inj H
       obtain ⟨hcz44_0, hcz44_1, hcz44_2, hcz44_3, hcz44_4, hcz44_5, hcz44_6, hcz44_7, hfz44_0, hfz44_1, hfz44_2, hfz44_3, hfz44_4, hfz44_5, hfz44_6, hfz44_7⟩ := bc8 BK189.out
       go_wp2_with (first | ((with_reducible refine gate_callee (f := 146) rfl ?_); refine goesL_ (some 47) rfl rfl Tryd.func146 (by kernel_rfl) rfl #[.agg #[.int .i64 a0_2, .int .i64 a0_3, .slice A0_4 l0_4.length c0_4, .slice A0_5 l0_5.length c0_5]] rfl mt ?_; (with_reducible refine (spec_l18NoSig.calls a0_2 a0_3 _ _ l0_4 _ _ l0_5 true _ ?side1 ?side2 ?side3 ?side4 A38.out).mono ?_); (case side1 => exact cz HR0_4); (case side2 => exact HC0_4.out); (case side3 => exact cz HR0_5); (case side4 => exact HC0_5.out); rintro e w45 ⟨rfl, hb⟩; refine ⟨_, rfl, ?_⟩; have n0_ := Aside0.mk (blk_below (bo BK189) hb); have n1_ := Aside0.mk (below_step bz hb); clear BK189; clear HB; have BK189 := n0_; have HB := n1_; clear n0_ n1_; (try clear hb); (try clear hb2); (try clear hk); (try clear hi); obtain ⟨hcz46_0, hcz46_1, hcz46_2, hcz46_3, hcz46_4, hcz46_5, hcz46_6, hcz46_7, hfz46_0, hfz46_1, hfz46_2, hfz46_3, hfz46_4, hfz46_5, hfz46_6, hfz46_7⟩ := bc8 BK189.out))
       go_ret
       exact ⟨rq, bz⟩
     ·replace c39 := Bool.eq_false_iff.mpr c39
      subst c39
      have H1 : (some false) = some r := by rw [if_neg (show ¬ (false = true) by decide)] at H; exact H
      clear H
      have H := H1
      clear H1
      obtain rfl := Option.some.inj H
      obtain ⟨hcz47_0, hcz47_1, hcz47_2, hcz47_3, hcz47_4, hcz47_5, hcz47_6, hcz47_7, hfz47_0, hfz47_1, hfz47_2, hfz47_3, hfz47_4, hfz47_5, hfz47_6, hfz47_7⟩ := bc8 BK189.out
      go_wp2_with (first | ((with_reducible refine gate_callee (f := 146) rfl ?_); refine goesL_ (some 47) rfl rfl Tryd.func146 (by kernel_rfl) rfl #[.agg #[.int .i64 a0_2, .int .i64 a0_3, .slice A0_4 l0_4.length c0_4, .slice A0_5 l0_5.length c0_5]] rfl mt ?_; (with_reducible refine (spec_l18NoSig.calls a0_2 a0_3 _ _ l0_4 _ _ l0_5 false _ ?side1 ?side2 ?side3 ?side4 A38.out).mono ?_); (case side1 => exact cz HR0_4); (case side2 => exact HC0_4.out); (case side3 => exact cz HR0_5); (case side4 => exact HC0_5.out); rintro e w48 ⟨rfl, hb⟩; refine ⟨_, rfl, ?_⟩; have n0_ := Aside0.mk (blk_below (bo BK189) hb); have n1_ := Aside0.mk (below_step bz hb); clear BK189; clear HB; have BK189 := n0_; have HB := n1_; clear n0_ n1_; (try clear hb); (try clear hb2); (try clear hk); (try clear hi)))
      go_ret
      exact ⟨rq, bz⟩
    ·rw [if_neg c37] at H
     have c37b0 : (a0_0 == 2) = false := beq_eq_false_iff_ne.mpr c37
     have c37b1 : (a0_0 != 2) = true := bne_iff_ne.mpr c37
     obtain rfl := Option.some.inj H
     obtain ⟨hcz49_0, hcz49_1, hcz49_2, hcz49_3, hcz49_4, hcz49_5, hcz49_6, hcz49_7, hfz49_0, hfz49_1, hfz49_2, hfz49_3, hfz49_4, hfz49_5, hfz49_6, hfz49_7⟩ := bc8 BK189.out
     go_wp2
     go_ret
     exact ⟨rq, bz⟩
 ·replace c6 := Bool.eq_false_iff.mpr c6
  subst c6
  have H1 : (some false) = some r := by rw [if_neg (show ¬ (false = true) by decide)] at H; exact H
  clear H
  have H := H1
  clear H1
  obtain rfl := Option.some.inj H
  go_wp2
  go_ret
  exact ⟨rq, bz⟩

end Go.Proofs.YtjiaigjmihmdjaaDoor.PFnExactTakeAnswer
