
/- The machine's side, written by a program of this session (a turned print): each function as a plain Lean function, and that the call comes to it. -/
import Derived.Test.YtjiaigjmihmdjaaPFnExactGetMsgx0
import Derived.Test.YtjiaigjmihmdjaaPFnExactGetMsgx6
import Derived.Test.YtjiaigjmihmdjaaPFnExactGetMsgx7
import Derived.Test.YtjiaigjmihmdjaaPFnExactGetMsgx14
import Derived.Test.YtjiaigjmihmdjaaPFnExactGetMsgx16
import Derived.Test.YtjiaigjmihmdjaaPFnExactGetMsgx17
import Derived.Test.YtjiaigjmihmdjaaPFnExactGetMsgx18
namespace Go.Proofs.Ytjiaigjmihmdjaa.PFnExactGetMsg
open Go.RowKit Go.Proofs.YtjiaigjmihmdjaaW.PrintWords Go.Proofs.YtjiaigjmihmdjaaW.PrintLast Go.Proofs.YtjiaigjmihmdjaaW.PrintMore
attribute [local go_sem] max2_int min2_int max_two min_two max_three min_three max_four min_four   -- for this text's walks alone
set_option linter.unusedVariables false
set_option linter.unusedSimpArgs false

/-! ### laws_FnExactGetMsg: function 3 -/
mutual
def laws_FnExactGetMsg.j0 : Nat → List Int → Bool → List Int → Bool → Bool → Int → Int → Int → Int → List Int → List ByteArray → List (S72) → ByteArray → Int → Int → Int → Int → List Int → List ByteArray → List (S72) → ByteArray → Option (Bool)
 | 0, _, _, _, _, _, _, _, _, _, _, _, _, _, _, _, _, _, _, _, _, _ => none
 | k + 1, x0, x4, x5, x7, x37, x507000, x507001, x507002, x507003, x507004, x507005, x507006, x507007, x526000, x526001, x526002, x526003, x526004, x526005, x526006, x526007 => if x37 = true then (some false) else ((laws_toByteS.f k x0).bind fun t527 => ((laws_eqByteS.f k x5 t527).bind fun t530 => (if t530 = true then ((laws_markByteS.f k x5 1).bind fun bt531 => (if bt531.1 < 0 then (laws_FnExactGetMsg.j1 k x0 x4 true x507000 x507001 x507002 x507003 x507004 x507005 x507006 x507007 x526000 x526001 x526002 x526003 x526004 x526005 x526006 x526007) else ((laws_eqMsg.f k x526000 x526001 x526002 x526003 x526004 x526005 x526006 x526007 x507000 x507001 x507002 x507003 x507004 x507005 x507006 x507007).bind fun t533 => (if t533 = true then (laws_FnExactGetMsg.j1 k x0 x4 (x7 != x4) x507000 x507001 x507002 x507003 x507004 x507005 x507006 x507007 x526000 x526001 x526002 x526003 x526004 x526005 x526006 x526007) else (laws_FnExactGetMsg.j1 k x0 x4 true x507000 x507001 x507002 x507003 x507004 x507005 x507006 x507007 x526000 x526001 x526002 x526003 x526004 x526005 x526006 x526007))))) else (some false))))
def laws_FnExactGetMsg.j1 : Nat → List Int → Bool → Bool → Int → Int → Int → Int → List Int → List ByteArray → List (S72) → ByteArray → Int → Int → Int → Int → List Int → List ByteArray → List (S72) → ByteArray → Option (Bool)
 | 0, _, _, _, _, _, _, _, _, _, _, _, _, _, _, _, _, _, _, _ => none
 | k + 1, x0, x4, x58, x507000, x507001, x507002, x507003, x507004, x507005, x507006, x507007, x526000, x526001, x526002, x526003, x526004, x526005, x526006, x526007 => if x58 = true then (some false) else ((laws_markMsg.f k x526000 x526001 x526002 x526003 x526004 x526005 x526006 x526007 1).bind fun bt534 => ((laws_heldMsg.f k x526000 x526001 x526002 x526003 bt534.2.1 bt534.2.2.1 bt534.2.2.2 x526007 1).bind fun t538 => (if t538 < 0 then (some false) else (if t538 = bt534.1 then ((laws_toByteS.f k x0).bind fun t539 => ((impl_GetMsg.f k t539).bind fun bt542 => ((laws_eqMsg.f k bt542.1 bt542.2.1 bt542.2.2.1 bt542.2.2.2.1 bt542.2.2.2.2.1 bt542.2.2.2.2.2.1 bt542.2.2.2.2.2.2.1 bt542.2.2.2.2.2.2.2.1 x507000 x507001 x507002 x507003 x507004 x507005 x507006 x507007).bind fun t558 => (if t558 = true then (laws_FnExactGetMsg.j2 k bt534.1 (bt542.2.2.2.2.2.2.2.2 != x4) x526000 x526001 x526002 x526003 bt534.2.1 bt534.2.2.1 bt534.2.2.2 x526007) else (laws_FnExactGetMsg.j2 k bt534.1 true x526000 x526001 x526002 x526003 bt534.2.1 bt534.2.2.1 bt534.2.2.2 x526007))))) else (some false)))))
def laws_FnExactGetMsg.j2 : Nat → Int → Bool → Int → Int → Int → Int → List Int → List ByteArray → List (S72) → ByteArray → Option (Bool)
 | 0, _, _, _, _, _, _, _, _, _, _ => none
 | k + 1, x9, x84, x526000, x526001, x526002, x526003, x526004, x526005, x526006, x526007 => if x84 = true then (some false) else ((laws_heldMsg.f k x526000 x526001 x526002 x526003 x526004 x526005 x526006 x526007 1).bind fun t559 => (if t559 < 0 then (some false) else (if t559 = x9 then (some true) else (some false))))
end
def laws_FnExactGetMsg.f (k : Nat) (l0 : List Int) : Option (Bool) := if (l0.length : Int) > 1048576 then (some true) else ((laws_toByteS.f k l0).bind fun t488 => ((spec_GetMsg.f k t488).bind fun bt491 => ((laws_toByteS.f k l0).bind fun t507 => ((impl_GetMsg.f k t507).bind fun bt510 => ((laws_eqMsg.f k bt510.1 bt510.2.1 bt510.2.2.1 bt510.2.2.2.1 bt510.2.2.2.2.1 bt510.2.2.2.2.2.1 bt510.2.2.2.2.2.2.1 bt510.2.2.2.2.2.2.2.1 bt491.1 bt491.2.1 bt491.2.2.1 bt491.2.2.2.1 bt491.2.2.2.2.1 bt491.2.2.2.2.2.1 bt491.2.2.2.2.2.2.1 bt491.2.2.2.2.2.2.2.1).bind fun t526 => (if t526 = true then (laws_FnExactGetMsg.j0 k l0 bt491.2.2.2.2.2.2.2.2 t507 bt510.2.2.2.2.2.2.2.2 (bt510.2.2.2.2.2.2.2.2 != bt491.2.2.2.2.2.2.2.2) bt491.1 bt491.2.1 bt491.2.2.1 bt491.2.2.2.1 bt491.2.2.2.2.1 bt491.2.2.2.2.2.1 bt491.2.2.2.2.2.2.1 bt491.2.2.2.2.2.2.2.1 bt510.1 bt510.2.1 bt510.2.2.1 bt510.2.2.2.1 bt510.2.2.2.2.1 bt510.2.2.2.2.2.1 bt510.2.2.2.2.2.2.1 bt510.2.2.2.2.2.2.2.1) else (laws_FnExactGetMsg.j0 k l0 bt491.2.2.2.2.2.2.2.2 t507 bt510.2.2.2.2.2.2.2.2 true bt491.1 bt491.2.1 bt491.2.2.1 bt491.2.2.2.1 bt491.2.2.2.2.1 bt491.2.2.2.2.2.1 bt491.2.2.2.2.2.2.1 bt491.2.2.2.2.2.2.2.1 bt510.1 bt510.2.1 bt510.2.2.1 bt510.2.2.2.1 bt510.2.2.2.2.1 bt510.2.2.2.2.2.1 bt510.2.2.2.2.2.2.1 bt510.2.2.2.2.2.2.2.1)))))))
theorem laws_FnExactGetMsg.mono_l : ∀ k, (∀ y0 y1 y2 y3 y4 y5 y6 y7 y8 y9 y10 y11 y12 y13 y14 y15 y16 y17 y18 y19 y20, LeO (laws_FnExactGetMsg.j0 k y0 y1 y2 y3 y4 y5 y6 y7 y8 y9 y10 y11 y12 y13 y14 y15 y16 y17 y18 y19 y20) (laws_FnExactGetMsg.j0 (k + 1) y0 y1 y2 y3 y4 y5 y6 y7 y8 y9 y10 y11 y12 y13 y14 y15 y16 y17 y18 y19 y20)) ∧ (∀ y0 y1 y2 y3 y4 y5 y6 y7 y8 y9 y10 y11 y12 y13 y14 y15 y16 y17 y18, LeO (laws_FnExactGetMsg.j1 k y0 y1 y2 y3 y4 y5 y6 y7 y8 y9 y10 y11 y12 y13 y14 y15 y16 y17 y18) (laws_FnExactGetMsg.j1 (k + 1) y0 y1 y2 y3 y4 y5 y6 y7 y8 y9 y10 y11 y12 y13 y14 y15 y16 y17 y18)) ∧ (∀ y0 y1 y2 y3 y4 y5 y6 y7 y8 y9, LeO (laws_FnExactGetMsg.j2 k y0 y1 y2 y3 y4 y5 y6 y7 y8 y9) (laws_FnExactGetMsg.j2 (k + 1) y0 y1 y2 y3 y4 y5 y6 y7 y8 y9))
 | 0 => ⟨fun _ _ _ _ _ _ _ _ _ _ _ _ _ _ _ _ _ _ _ _ _ r h => by simp [laws_FnExactGetMsg.j0] at h, fun _ _ _ _ _ _ _ _ _ _ _ _ _ _ _ _ _ _ _ r h => by simp [laws_FnExactGetMsg.j1] at h, fun _ _ _ _ _ _ _ _ _ _ r h => by simp [laws_FnExactGetMsg.j2] at h⟩
 | k + 1 => by
  obtain ⟨ih0, ih1, ih2⟩ := laws_FnExactGetMsg.mono_l k
  refine ⟨?_, ?_, ?_⟩
  ·intro y0 y1 y2 y3 y4 y5 y6 y7 y8 y9 y10 y11 y12 y13 y14 y15 y16 y17 y18 y19 y20
   unfold laws_FnExactGetMsg.j0
   repeat' first | (with_reducible first | exact ih0 _ _ _ _ _ _ _ _ _ _ _ _ _ _ _ _ _ _ _ _ _ | exact ih1 _ _ _ _ _ _ _ _ _ _ _ _ _ _ _ _ _ _ _ | exact ih2 _ _ _ _ _ _ _ _ _ _ | exact impl_GetMsg.mono _ _ | exact laws_eqByteS.mono _ _ _ | exact laws_eqMsg.mono _ _ _ _ _ _ _ _ _ _ _ _ _ _ _ _ _ | exact laws_heldMsg.mono _ _ _ _ _ _ _ _ _ _ | exact laws_markByteS.mono _ _ _ | exact laws_markMsg.mono _ _ _ _ _ _ _ _ _ _ | exact laws_toByteS.mono _ _ | exact spec_GetMsg.mono _ _ | exact LeO.refl _ | exact LeO.none _ | refine LeO.ite ?_ ?_ | refine LeO.bind ?_ (fun _ => ?_)) | exact ih0 _ _ _ _ _ _ _ _ _ _ _ _ _ _ _ _ _ _ _ _ _ | exact ih1 _ _ _ _ _ _ _ _ _ _ _ _ _ _ _ _ _ _ _ | exact ih2 _ _ _ _ _ _ _ _ _ _ | exact impl_GetMsg.mono _ _ | exact laws_eqByteS.mono _ _ _ | exact laws_eqMsg.mono _ _ _ _ _ _ _ _ _ _ _ _ _ _ _ _ _ | exact laws_heldMsg.mono _ _ _ _ _ _ _ _ _ _ | exact laws_markByteS.mono _ _ _ | exact laws_markMsg.mono _ _ _ _ _ _ _ _ _ _ | exact laws_toByteS.mono _ _ | exact spec_GetMsg.mono _ _ | exact LeO.none _ | refine LeO.ite ?_ ?_ | refine LeO.bind ?_ (fun _ => ?_)
  ·intro y0 y1 y2 y3 y4 y5 y6 y7 y8 y9 y10 y11 y12 y13 y14 y15 y16 y17 y18
   unfold laws_FnExactGetMsg.j1
   repeat' first | (with_reducible first | exact ih0 _ _ _ _ _ _ _ _ _ _ _ _ _ _ _ _ _ _ _ _ _ | exact ih1 _ _ _ _ _ _ _ _ _ _ _ _ _ _ _ _ _ _ _ | exact ih2 _ _ _ _ _ _ _ _ _ _ | exact impl_GetMsg.mono _ _ | exact laws_eqByteS.mono _ _ _ | exact laws_eqMsg.mono _ _ _ _ _ _ _ _ _ _ _ _ _ _ _ _ _ | exact laws_heldMsg.mono _ _ _ _ _ _ _ _ _ _ | exact laws_markByteS.mono _ _ _ | exact laws_markMsg.mono _ _ _ _ _ _ _ _ _ _ | exact laws_toByteS.mono _ _ | exact spec_GetMsg.mono _ _ | exact LeO.refl _ | exact LeO.none _ | refine LeO.ite ?_ ?_ | refine LeO.bind ?_ (fun _ => ?_)) | exact ih0 _ _ _ _ _ _ _ _ _ _ _ _ _ _ _ _ _ _ _ _ _ | exact ih1 _ _ _ _ _ _ _ _ _ _ _ _ _ _ _ _ _ _ _ | exact ih2 _ _ _ _ _ _ _ _ _ _ | exact impl_GetMsg.mono _ _ | exact laws_eqByteS.mono _ _ _ | exact laws_eqMsg.mono _ _ _ _ _ _ _ _ _ _ _ _ _ _ _ _ _ | exact laws_heldMsg.mono _ _ _ _ _ _ _ _ _ _ | exact laws_markByteS.mono _ _ _ | exact laws_markMsg.mono _ _ _ _ _ _ _ _ _ _ | exact laws_toByteS.mono _ _ | exact spec_GetMsg.mono _ _ | exact LeO.none _ | refine LeO.ite ?_ ?_ | refine LeO.bind ?_ (fun _ => ?_)
  ·intro y0 y1 y2 y3 y4 y5 y6 y7 y8 y9
   unfold laws_FnExactGetMsg.j2
   repeat' first | (with_reducible first | exact ih0 _ _ _ _ _ _ _ _ _ _ _ _ _ _ _ _ _ _ _ _ _ | exact ih1 _ _ _ _ _ _ _ _ _ _ _ _ _ _ _ _ _ _ _ | exact ih2 _ _ _ _ _ _ _ _ _ _ | exact impl_GetMsg.mono _ _ | exact laws_eqByteS.mono _ _ _ | exact laws_eqMsg.mono _ _ _ _ _ _ _ _ _ _ _ _ _ _ _ _ _ | exact laws_heldMsg.mono _ _ _ _ _ _ _ _ _ _ | exact laws_markByteS.mono _ _ _ | exact laws_markMsg.mono _ _ _ _ _ _ _ _ _ _ | exact laws_toByteS.mono _ _ | exact spec_GetMsg.mono _ _ | exact LeO.refl _ | exact LeO.none _ | refine LeO.ite ?_ ?_ | refine LeO.bind ?_ (fun _ => ?_)) | exact ih0 _ _ _ _ _ _ _ _ _ _ _ _ _ _ _ _ _ _ _ _ _ | exact ih1 _ _ _ _ _ _ _ _ _ _ _ _ _ _ _ _ _ _ _ | exact ih2 _ _ _ _ _ _ _ _ _ _ | exact impl_GetMsg.mono _ _ | exact laws_eqByteS.mono _ _ _ | exact laws_eqMsg.mono _ _ _ _ _ _ _ _ _ _ _ _ _ _ _ _ _ | exact laws_heldMsg.mono _ _ _ _ _ _ _ _ _ _ | exact laws_markByteS.mono _ _ _ | exact laws_markMsg.mono _ _ _ _ _ _ _ _ _ _ | exact laws_toByteS.mono _ _ | exact spec_GetMsg.mono _ _ | exact LeO.none _ | refine LeO.ite ?_ ?_ | refine LeO.bind ?_ (fun _ => ?_)
theorem laws_FnExactGetMsg.mono : ∀ a0 k, LeO (laws_FnExactGetMsg.f k a0) (laws_FnExactGetMsg.f (k + 1) a0) := by
 intro a0 k
 obtain ⟨ih0, ih1, ih2⟩ := laws_FnExactGetMsg.mono_l k
 unfold laws_FnExactGetMsg.f
 repeat' first | (with_reducible first | exact ih0 _ _ _ _ _ _ _ _ _ _ _ _ _ _ _ _ _ _ _ _ _ | exact ih1 _ _ _ _ _ _ _ _ _ _ _ _ _ _ _ _ _ _ _ | exact ih2 _ _ _ _ _ _ _ _ _ _ | exact impl_GetMsg.mono _ _ | exact laws_eqByteS.mono _ _ _ | exact laws_eqMsg.mono _ _ _ _ _ _ _ _ _ _ _ _ _ _ _ _ _ | exact laws_heldMsg.mono _ _ _ _ _ _ _ _ _ _ | exact laws_markByteS.mono _ _ _ | exact laws_markMsg.mono _ _ _ _ _ _ _ _ _ _ | exact laws_toByteS.mono _ _ | exact spec_GetMsg.mono _ _ | exact LeO.refl _ | exact LeO.none _ | refine LeO.ite ?_ ?_ | refine LeO.bind ?_ (fun _ => ?_)) | exact ih0 _ _ _ _ _ _ _ _ _ _ _ _ _ _ _ _ _ _ _ _ _ | exact ih1 _ _ _ _ _ _ _ _ _ _ _ _ _ _ _ _ _ _ _ | exact ih2 _ _ _ _ _ _ _ _ _ _ | exact impl_GetMsg.mono _ _ | exact laws_eqByteS.mono _ _ _ | exact laws_eqMsg.mono _ _ _ _ _ _ _ _ _ _ _ _ _ _ _ _ _ | exact laws_heldMsg.mono _ _ _ _ _ _ _ _ _ _ | exact laws_markByteS.mono _ _ _ | exact laws_markMsg.mono _ _ _ _ _ _ _ _ _ _ | exact laws_toByteS.mono _ _ | exact spec_GetMsg.mono _ _ | exact LeO.none _ | refine LeO.ite ?_ ?_ | refine LeO.bind ?_ (fun _ => ?_)
set_option maxHeartbeats 8000000 in
set_option maxRecDepth 100000 in
theorem laws_FnExactGetMsg.calls (k : Nat) (A0 : Option Addr) (c0 : Nat) (l0 : List Int) (r : Bool) (w : World) (hr0 : Kd.C (Kd.int .u8) w A0 l0.length l0) (hc0 : l0.length ≤ c0) (h : laws_FnExactGetMsg.f k l0 = some r) :
  Calls Try.prog 3 #[.slice A0 l0.length c0] w fun e w' => e = .returned (.bool r) ∧ Below w.heap.size w w' := by
 have hu29 := Try.underlying29
 have HR0 := Aside0.mk hr0
 have HC0 := Aside0.mk hc0
 clear hr0 hc0
 have HB := Aside0.mk (Below.refl w.heap.size w)
 have H : (if (l0.length : Int) > 1048576 then (some true) else ((laws_toByteS.f k l0).bind fun t488 => ((spec_GetMsg.f k t488).bind fun bt491 => ((laws_toByteS.f k l0).bind fun t507 => ((impl_GetMsg.f k t507).bind fun bt510 => ((laws_eqMsg.f k bt510.1 bt510.2.1 bt510.2.2.1 bt510.2.2.2.1 bt510.2.2.2.2.1 bt510.2.2.2.2.2.1 bt510.2.2.2.2.2.2.1 bt510.2.2.2.2.2.2.2.1 bt491.1 bt491.2.1 bt491.2.2.1 bt491.2.2.2.1 bt491.2.2.2.2.1 bt491.2.2.2.2.2.1 bt491.2.2.2.2.2.2.1 bt491.2.2.2.2.2.2.2.1).bind fun t526 => (if t526 = true then (laws_FnExactGetMsg.j0 k l0 bt491.2.2.2.2.2.2.2.2 t507 bt510.2.2.2.2.2.2.2.2 (bt510.2.2.2.2.2.2.2.2 != bt491.2.2.2.2.2.2.2.2) bt491.1 bt491.2.1 bt491.2.2.1 bt491.2.2.2.1 bt491.2.2.2.2.1 bt491.2.2.2.2.2.1 bt491.2.2.2.2.2.2.1 bt491.2.2.2.2.2.2.2.1 bt510.1 bt510.2.1 bt510.2.2.1 bt510.2.2.2.1 bt510.2.2.2.2.1 bt510.2.2.2.2.2.1 bt510.2.2.2.2.2.2.1 bt510.2.2.2.2.2.2.2.1) else (laws_FnExactGetMsg.j0 k l0 bt491.2.2.2.2.2.2.2.2 t507 bt510.2.2.2.2.2.2.2.2 true bt491.1 bt491.2.1 bt491.2.2.1 bt491.2.2.2.1 bt491.2.2.2.2.1 bt491.2.2.2.2.2.1 bt491.2.2.2.2.2.2.1 bt491.2.2.2.2.2.2.2.1 bt510.1 bt510.2.1 bt510.2.2.1 bt510.2.2.2.1 bt510.2.2.2.2.1 bt510.2.2.2.2.2.1 bt510.2.2.2.2.2.2.1 bt510.2.2.2.2.2.2.2.1)))))))) = some r := h
 clear h
 by_cases c2 : (l0.length : Int) > 1048576
 ·rw [if_pos c2] at H
  have c2b0 : decide (1048576 < (l0.length : Int)) = true := decide_eq_true c2
  have c2b1 : decide (1048576 < l0.length) = true := decide_eq_true (by omega)
  clear c2
  obtain rfl := Option.some.inj H
  go_enter Try.func3, Try.ntmps3
  go_wp2
  go_ret
  exact ⟨rq, bz⟩
 ·rw [if_neg c2] at H
  have c2b0 : decide (1048576 < (l0.length : Int)) = false := decide_eq_false c2
  have c2b1 : decide (1048576 < l0.length) = false := decide_eq_false (by omega)
  clear c2
  replace H := Option.bind_eq_some_iff.mp H
  obtain ⟨t488, A30, H⟩ := H
  try dsimp -simprocs only at H
  have A3 := Aside0.mk A30
  clear A30
  replace H := Option.bind_eq_some_iff.mp H
  obtain ⟨⟨t491, t492, t493, t494, t495, t498, t501, t504, t505⟩, A40, H⟩ := H
  try dsimp -simprocs only at H
  have A4 := Aside0.mk A40
  clear A40
  replace H := Option.bind_eq_some_iff.mp H
  obtain ⟨t507, A50, H⟩ := H
  try dsimp -simprocs only at H
  have A5 := Aside0.mk A50
  clear A50
  replace H := Option.bind_eq_some_iff.mp H
  obtain ⟨⟨t510, t511, t512, t513, t514, t517, t520, t523, t524⟩, A60, H⟩ := H
  try dsimp -simprocs only at H
  have A6 := Aside0.mk A60
  clear A60
  have HC7 := Aside0.mk H
  clear H
  go_enter Try.func3, Try.ntmps3
  go_upto_region 6 with (first | ((with_reducible refine gate_callee (f := 6) rfl ?_); refine goesL_ (some 18) rfl rfl Try.func6 (by kernel_rfl) rfl #[.slice A0 l0.length c0] rfl mt ?_; (with_reducible refine (laws_toByteS.calls k _ _ l0 t488 _ ?side1 ?side2 A3.out).mono ?_); (case side1 => repeat (first | exact HR0.out | (with_reducible refine Kd.C_alloc ?_ _) | (with_reducible refine Kd.C_drewN ?_ _) | (with_reducible refine Kd.C_drew ?_))); (case side2 => exact HC0.out); rintro e w8 ⟨v489, rfl, ho0, hb⟩; refine ⟨_, rfl, ?_⟩; have n0_ := Aside0.mk (Kd.R_lower ho0 (below_size bz)); have n1_ := Aside0.mk (below_step bz hb); clear HB; have HO490 := n0_; have HB := n1_; clear n0_ n1_; (try clear hb); (try clear hb2); (try clear hk); (try clear hi); (try clear ho0); obtain ⟨Ao9, co9, eo9⟩ := Kd.R_slice HO490.out; subst eo9) | ((with_reducible refine gate_callee (f := 5) rfl ?_); refine goesL_ (some 19) rfl rfl Try.func5 (by kernel_rfl) rfl #[.slice Ao9 t488.length co9] rfl mt ?_; (with_reducible refine (spec_GetMsg.calls k _ _ t488 t491 t492 t493 t494 t495 t498 t501 t504 t505 _ ?side1 ?side2 A4.out).mono ?_); (case side1 => repeat (first | exact (Kd.R_reads' HO490.out).2.2 | (with_reducible refine Kd.C_alloc ?_ _) | (with_reducible refine Kd.C_drewN ?_ _) | (with_reducible refine Kd.C_drew ?_))); (case side2 => exact (Kd.R_reads' HO490.out).2.1); rintro e w10 ⟨v496, v499, v502, rfl, ho0, ho1, ho2, hb⟩; refine ⟨_, rfl, ?_⟩; have n0_ := Aside0.mk (Kd.R_below (by refine rs ?_; exact HO490.out) hb); have n1_ := Aside0.mk (Kd.R_lower ho0 (below_size bz)); have n2_ := Aside0.mk (Kd.R_lower ho1 (below_size bz)); have n3_ := Aside0.mk (Kd.R_lower ho2 (below_size bz)); have n4_ := Aside0.mk (below_step bz hb); clear HO490; clear HB; have HO490 := n0_; have HO497 := n1_; have HO500 := n2_; have HO503 := n3_; have HB := n4_; clear n0_ n1_ n2_ n3_ n4_; (try clear hb); (try clear hb2); (try clear hk); (try clear hi); (try clear ho0); (try clear ho1); (try clear ho2)) | ((with_reducible refine gate_dst (N := 3) rfl ?_); refine box_event ?hg (N := 3) ?hd (cs := #[.int .i64 0, .int .i64 0, .int .i64 0, .int .i64 0, .slice none 0 0, .slice none 0 0, .slice none 0 0, .string (⟨#[]⟩ : ByteArray)]) (t := 29) ?hr ?_; (case hd => rfl); (case hg => rfl); (case hr => first | (go_simp; done) | (go_simp; rfl)); intro gb506 hg w11 hbox hb; have n0_ := Aside0.mk (Kd.R_below (by refine rs ?_; exact HO490.out) hb); have n1_ := Aside0.mk (Kd.R_below (by refine rs ?_; exact HO497.out) hb); have n2_ := Aside0.mk (Kd.R_below (by refine rs ?_; exact HO500.out) hb); have n3_ := Aside0.mk (Kd.R_below (by refine rs ?_; exact HO503.out) hb); have n4_ := Aside0.mk (below_step bz hb); have n5_ := Aside0.mk (hbox); have n6_ := Aside0.mk (bg : w.heap.size ≤ gb506); have n7_ := Aside0.mk (bg : w.heap.size ≤ gb506); clear HO490; clear HO497; clear HO500; clear HO503; clear HB; have HO490 := n0_; have HO497 := n1_; have HO500 := n2_; have HO503 := n3_; have HB := n4_; have BK506 := n5_; have GW506 := n6_; have GE506 := n7_; clear n0_ n1_ n2_ n3_ n4_ n5_ n6_ n7_; clear hb hbox hg; obtain ⟨hcz12_0, hcz12_1, hcz12_2, hcz12_3, hcz12_4, hcz12_5, hcz12_6, hcz12_7, hfz12_0, hfz12_1, hfz12_2, hfz12_3, hfz12_4, hfz12_5, hfz12_6, hfz12_7⟩ := bc8 BK506.out; obtain ⟨Ao13, co13, eo13⟩ := Kd.R_slice HO497.out; subst eo13; obtain ⟨Ao14, co14, eo14⟩ := Kd.R_slice HO500.out; subst eo14; obtain ⟨Ao15, co15, eo15⟩ := Kd.R_slice HO503.out; subst eo15) | ((with_reducible refine gate_callee (f := 6) rfl ?_); refine goesL_ (some 23) rfl rfl Try.func6 (by kernel_rfl) rfl #[.slice A0 l0.length c0] rfl mt ?_; (with_reducible refine (laws_toByteS.calls k _ _ l0 t507 _ ?side1 ?side2 A5.out).mono ?_); (case side1 => exact Kd.C_below HR0.out bz); (case side2 => exact HC0.out); rintro e w16 ⟨v508, rfl, ho0, hb⟩; refine ⟨_, rfl, ?_⟩; have n0_ := Aside0.mk (Kd.R_elder' (by refine rs ?_; exact (Kd.R_mono (Kd.rf (Kd.rf (Kd.rf (Kd.rf (Kd.rf (Kd.rf (Kd.rf (Kd.rf (Kd.R_types HO490.out BK506.out (by decide)))))))))) (fun _ h_ => h_.1))) (Kd.R_base ho0) hb); have n1_ := Aside0.mk (Kd.R_below (by refine rs ?_; exact (Kd.R_mono (Kd.rf (Kd.rf (Kd.rf (Kd.rf (Kd.rf (Kd.rf (Kd.rf (Kd.rf (Kd.R_types HO497.out BK506.out (by decide)))))))))) (fun _ h_ => h_.1))) hb); have n2_ := Aside0.mk (Kd.R_below (by refine rs ?_; exact (Kd.R_mono (Kd.rf (Kd.rf (Kd.rf (Kd.rf (Kd.rf (Kd.rf (Kd.rf (Kd.rf (Kd.R_types HO500.out BK506.out (by decide)))))))))) (fun _ h_ => h_.1))) hb); have n3_ := Aside0.mk (Kd.R_below (by refine rs ?_; exact (Kd.R_mono (Kd.rf (Kd.rf (Kd.rf (Kd.rf (Kd.rf (Kd.rf (Kd.rf (Kd.rf (Kd.R_types HO503.out BK506.out (by decide)))))))))) (fun _ h_ => h_.1))) hb); have n4_ := Aside0.mk (Kd.R_lower (Kd.R_new' ho0 (Kd.R_lt (by refine rs ?_; exact (Kd.R_mono (Kd.rf (Kd.rf (Kd.rf (Kd.rf (Kd.rf (Kd.rf (Kd.rf (Kd.rf (Kd.R_types HO490.out BK506.out (by decide)))))))))) (fun _ h_ => h_.1))))) (below_size bz)); have n5_ := Aside0.mk (blk_below (g := gb506) (o := .cells #[.int .i64 t491, .int .i64 t492, .int .i64 t493, .int .i64 t494, .slice Ao13 t495.length co13, .slice Ao14 t498.length co14, .slice Ao15 t501.length co15, .string t504] 29 (0, 0)) bk hb); have n6_ := Aside0.mk (below_step bz hb); clear HO490; clear HO497; clear HO500; clear HO503; clear BK506; clear HB; have HO490 := n0_; have HO497 := n1_; have HO500 := n2_; have HO503 := n3_; have HO509 := n4_; have BK506 := n5_; have HB := n6_; clear n0_ n1_ n2_ n3_ n4_ n5_ n6_; (try clear hb); (try clear hb2); (try clear hk); (try clear hi); (try clear ho0); obtain ⟨Ao17, co17, eo17⟩ := Kd.R_slice HO509.out; subst eo17) | ((with_reducible refine gate_callee (f := 7) rfl ?_); refine goesL_ (some 26) rfl rfl Try.func7 (by kernel_rfl) rfl #[.slice Ao17 t507.length co17] rfl mt ?_; (with_reducible refine (impl_GetMsg.calls k _ _ t507 t510 t511 t512 t513 t514 t517 t520 t523 t524 _ ?side1 ?side2 A6.out).mono ?_); (case side1 => repeat (first | exact (Kd.R_reads' HO509.out).2.2 | (with_reducible refine Kd.C_alloc ?_ _) | (with_reducible refine Kd.C_drewN ?_ _) | (with_reducible refine Kd.C_drew ?_))); (case side2 => exact (Kd.R_reads' HO509.out).2.1); rintro e w18 ⟨v515, v518, v521, rfl, ho0, ho1, ho2, hb⟩; refine ⟨_, rfl, ?_⟩; have n0_ := Aside0.mk (Kd.R_below (by refine rs ?_; exact HO490.out) hb); have n1_ := Aside0.mk (Kd.R_elder' (by refine rs ?_; exact HO497.out) (Kd.R_base ho0) hb); have n2_ := Aside0.mk (Kd.R_elder' (by refine rs ?_; exact HO500.out) (Kd.R_base ho1) hb); have n3_ := Aside0.mk (Kd.R_elder' (by refine rs ?_; exact HO503.out) (Kd.R_base ho2) hb); have n4_ := Aside0.mk (Kd.R_below (by refine rs ?_; exact HO509.out) hb); have n5_ := Aside0.mk (Kd.R_lower (Kd.R_new' ho0 (Kd.R_lt (by refine rs ?_; exact HO497.out))) (below_size bz)); have n6_ := Aside0.mk (Kd.R_lower (Kd.R_new' ho1 (Kd.R_lt (by refine rs ?_; exact HO500.out))) (below_size bz)); have n7_ := Aside0.mk (Kd.R_lower (Kd.R_new' ho2 (Kd.R_lt (by refine rs ?_; exact HO503.out))) (below_size bz)); have n8_ := Aside0.mk (blk_below (bo BK506) hb); have n9_ := Aside0.mk (below_step bz hb); clear HO490; clear HO497; clear HO500; clear HO503; clear HO509; clear BK506; clear HB; have HO490 := n0_; have HO497 := n1_; have HO500 := n2_; have HO503 := n3_; have HO509 := n4_; have HO516 := n5_; have HO519 := n6_; have HO522 := n7_; have BK506 := n8_; have HB := n9_; clear n0_ n1_ n2_ n3_ n4_ n5_ n6_ n7_ n8_ n9_; (try clear hb); (try clear hb2); (try clear hk); (try clear hi); (try clear ho0); (try clear ho1); (try clear ho2)) | ((with_reducible refine gate_dst (N := 6) rfl ?_); refine box_event ?hg (N := 6) ?hd (cs := #[.int .i64 0, .int .i64 0, .int .i64 0, .int .i64 0, .slice none 0 0, .slice none 0 0, .slice none 0 0, .string (⟨#[]⟩ : ByteArray)]) (t := 29) ?hr ?_; (case hd => rfl); (case hg => rfl); (case hr => first | (go_simp; done) | (go_simp; rfl)); intro gb525 hg w19 hbox hb; have n0_ := Aside0.mk (Kd.R_below (by refine rs ?_; exact HO490.out) hb); have n1_ := Aside0.mk (Kd.R_below (by refine rs ?_; exact HO497.out) hb); have n2_ := Aside0.mk (Kd.R_below (by refine rs ?_; exact HO500.out) hb); have n3_ := Aside0.mk (Kd.R_below (by refine rs ?_; exact HO503.out) hb); have n4_ := Aside0.mk (Kd.R_below (by refine rs ?_; exact HO509.out) hb); have n5_ := Aside0.mk (Kd.R_below (by refine rs ?_; exact HO516.out) hb); have n6_ := Aside0.mk (Kd.R_below (by refine rs ?_; exact HO519.out) hb); have n7_ := Aside0.mk (Kd.R_below (by refine rs ?_; exact HO522.out) hb); have n8_ := Aside0.mk (blk_below (bo BK506) hb); have n9_ := Aside0.mk (below_step bz hb); have n10_ := Aside0.mk (hbox); have n11_ := Aside0.mk (bg : w.heap.size ≤ gb525); have n12_ := Aside0.mk (bg : w.heap.size ≤ gb525); have n13_ := Aside0.mk ((by rw [hg]; exact Nat.ne_of_lt (blk_lt (bo BK506)) : gb506 ≠ gb525)); have n14_ := Aside0.mk ((by rw [hg]; exact Nat.ne_of_gt (blk_lt (bo BK506)) : gb525 ≠ gb506)); clear HO490; clear HO497; clear HO500; clear HO503; clear HO509; clear HO516; clear HO519; clear HO522; clear BK506; clear HB; have HO490 := n0_; have HO497 := n1_; have HO500 := n2_; have HO503 := n3_; have HO509 := n4_; have HO516 := n5_; have HO519 := n6_; have HO522 := n7_; have BK506 := n8_; have HB := n9_; have BK525 := n10_; have GW525 := n11_; have GE525 := n12_; have NB506_525 := n13_; have NB525_506 := n14_; clear n0_ n1_ n2_ n3_ n4_ n5_ n6_ n7_ n8_ n9_ n10_ n11_ n12_ n13_ n14_; clear hb hbox hg; have hnb20 := NB525_506.out; have hnc20 := NB506_525.out; obtain ⟨hcz21_0, hcz21_1, hcz21_2, hcz21_3, hcz21_4, hcz21_5, hcz21_6, hcz21_7, hfz21_0, hfz21_1, hfz21_2, hfz21_3, hfz21_4, hfz21_5, hfz21_6, hfz21_7⟩ := bc8 BK525.out; obtain ⟨Ao22, co22, eo22⟩ := Kd.R_slice HO516.out; subst eo22; obtain ⟨Ao23, co23, eo23⟩ := Kd.R_slice HO519.out; subst eo23; obtain ⟨Ao24, co24, eo24⟩ := Kd.R_slice HO522.out; subst eo24))
  (try simp only [Act.put, List.setIfInBounds_toArray, List.set_cons_zero, List.set_cons_succ])
  go_cut [37] (fun v37 wc => ∃ (kq : Nat) (x37_6 : Bool), v37 = .bool x37_6 ∧ Aside0 (laws_FnExactGetMsg.j0 kq l0 t505 t507 t524 x37_6 t491 t492 t493 t494 t495 t498 t501 t504 t510 t511 t512 t513 t514 t517 t520 t523 = some r) ∧ Aside0 (kq ≤ k) ∧ Aside0 (Kd.R (Kd.int .u8) 5 wc w.heap.size (fun _ => True) (.slice Ao17 t507.length co17) t507) ∧ Aside0 (Kd.R (Kd.int .u32) 60 wc w.heap.size (fun k_ => some k_ ≠ ((.slice Ao22 t514.length co22) : Value).ownBlock) (.slice Ao13 t495.length co13) t495) ∧ Aside0 (Kd.R Kd.string 9 wc w.heap.size (fun k_ => some k_ ≠ ((.slice Ao23 t517.length co23) : Value).ownBlock) (.slice Ao14 t498.length co14) t498) ∧ Aside0 (Kd.R k72 72 wc w.heap.size (fun k_ => some k_ ≠ ((.slice Ao24 t520.length co24) : Value).ownBlock) (.slice Ao15 t501.length co15) t501) ∧ Aside0 (Kd.R (Kd.int .u32) 60 wc w.heap.size (fun k_ => some k_ ≠ ((.slice Ao13 t495.length co13) : Value).ownBlock) (.slice Ao22 t514.length co22) t514) ∧ Aside0 (Kd.R Kd.string 9 wc w.heap.size (fun k_ => some k_ ≠ ((.slice Ao14 t498.length co14) : Value).ownBlock) (.slice Ao23 t517.length co23) t517) ∧ Aside0 (Kd.R k72 72 wc w.heap.size (fun k_ => some k_ ≠ ((.slice Ao15 t501.length co15) : Value).ownBlock) (.slice Ao24 t520.length co24) t520) ∧ Aside0 (wc.heap[gb506]? = some (.cells #[.int .i64 t491, .int .i64 t492, .int .i64 t493, .int .i64 t494, (.slice Ao13 t495.length co13), (.slice Ao14 t498.length co14), (.slice Ao15 t501.length co15), .string t504] 29 (0, 0))) ∧ Aside0 (wc.heap[gb525]? = some (.cells #[.int .i64 t510, .int .i64 t511, .int .i64 t512, .int .i64 t513, (.slice Ao22 t514.length co22), (.slice Ao23 t517.length co23), (.slice Ao24 t520.length co24), .string t523] 29 (0, 0))) ∧ Aside0 (Below w.heap.size w wc))
  case first =>
   have H := HC7.out
   clear HC7
   replace H := Option.bind_eq_some_iff.mp H
   obtain ⟨t526, A250, H⟩ := H
   try dsimp -simprocs only at H
   have A25 := Aside0.mk A250
   clear A250
   by_cases c26 : t526 = true
   ·subst c26
    have H1 : (laws_FnExactGetMsg.j0 k l0 t505 t507 t524 (t524 != t505) t491 t492 t493 t494 t495 t498 t501 t504 t510 t511 t512 t513 t514 t517 t520 t523) = some r := by rw [if_pos rfl] at H; exact H
    clear H
    have H := H1
    clear H1
    have H' := Aside0.mk H
    clear H
    have hnb27 := NB525_506.out
    have hnc27 := NB506_525.out
    obtain ⟨hcz28_0, hcz28_1, hcz28_2, hcz28_3, hcz28_4, hcz28_5, hcz28_6, hcz28_7, hfz28_0, hfz28_1, hfz28_2, hfz28_3, hfz28_4, hfz28_5, hfz28_6, hfz28_7⟩ := bc8 BK525.out
    obtain ⟨hcz29_0, hcz29_1, hcz29_2, hcz29_3, hcz29_4, hcz29_5, hcz29_6, hcz29_7, hfz29_0, hfz29_1, hfz29_2, hfz29_3, hfz29_4, hfz29_5, hfz29_6, hfz29_7⟩ := bc8 BK506.out
    go_wp2_with (first | ((with_reducible refine gate_callee (f := 8) rfl ?_); refine goesL_ (some 31) rfl rfl Try.func8 (by kernel_rfl) rfl #[.agg #[.int .i64 t510, .int .i64 t511, .int .i64 t512, .int .i64 t513, .slice Ao22 t514.length co22, .slice Ao23 t517.length co23, .slice Ao24 t520.length co24, .string t523], .agg #[.int .i64 t491, .int .i64 t492, .int .i64 t493, .int .i64 t494, .slice Ao13 t495.length co13, .slice Ao14 t498.length co14, .slice Ao15 t501.length co15, .string t504]] rfl mt ?_; (with_reducible refine (laws_eqMsg.calls k t510 t511 t512 t513 _ _ t514 _ _ t517 _ _ t520 t523 t491 t492 t493 t494 _ _ t495 _ _ t498 _ _ t501 t504 true _ ?side1 ?side2 ?side3 ?side4 ?side5 ?side6 ?side7 ?side8 ?side9 ?side10 ?side11 ?side12 A25.out).mono ?_); (case side1 => refine (Kd.R_reads' (e := 60) (base := w.heap.size) (ok := fun k_ => (True ∧ some k_ ≠ (.slice Ao13 t495.length co13 : Value).ownBlock)) (n := t514.length) (c := co22) ?_).2.2; exact (by refine rs ?_; exact (Kd.R_mono (Kd.rf (Kd.rf (Kd.rf (Kd.rf (Kd.rf (Kd.rf (Kd.rf (Kd.rf (Kd.R_types HO516.out BK525.out (by decide)))))))))) (fun _ h_ => h_.1)))); (case side2 => exact (Kd.R_reads' HO516.out).2.1); (case side3 => refine (Kd.R_reads' (e := 9) (base := w.heap.size) (ok := fun k_ => (True ∧ some k_ ≠ (.slice Ao14 t498.length co14 : Value).ownBlock)) (n := t517.length) (c := co23) ?_).2.2; exact (by refine rs ?_; exact (Kd.R_mono (Kd.rf (Kd.rf (Kd.rf (Kd.rf (Kd.rf (Kd.rf (Kd.rf (Kd.rf (Kd.R_types HO519.out BK525.out (by decide)))))))))) (fun _ h_ => h_.1)))); (case side4 => exact (Kd.R_reads' HO519.out).2.1); (case side5 => refine (Kd.R_reads' (e := 72) (base := w.heap.size) (ok := fun k_ => (True ∧ some k_ ≠ (.slice Ao15 t501.length co15 : Value).ownBlock)) (n := t520.length) (c := co24) ?_).2.2; exact (by refine rs ?_; exact (Kd.R_mono (Kd.rf (Kd.rf (Kd.rf (Kd.rf (Kd.rf (Kd.rf (Kd.rf (Kd.rf (Kd.R_types HO522.out BK525.out (by decide)))))))))) (fun _ h_ => h_.1)))); (case side6 => exact (Kd.R_reads' HO522.out).2.1); (case side7 => refine (Kd.R_reads' (e := 60) (base := w.heap.size) (ok := fun k_ => (True ∧ some k_ ≠ (.slice Ao22 t514.length co22 : Value).ownBlock)) (n := t495.length) (c := co13) ?_).2.2; exact (by refine rs ?_; exact (Kd.R_mono (Kd.rf (Kd.rf (Kd.rf (Kd.rf (Kd.rf (Kd.rf (Kd.rf (Kd.rf (Kd.R_types HO497.out BK525.out (by decide)))))))))) (fun _ h_ => h_.1)))); (case side8 => exact (Kd.R_reads' HO497.out).2.1); (case side9 => refine (Kd.R_reads' (e := 9) (base := w.heap.size) (ok := fun k_ => (True ∧ some k_ ≠ (.slice Ao23 t517.length co23 : Value).ownBlock)) (n := t498.length) (c := co14) ?_).2.2; exact (by refine rs ?_; exact (Kd.R_mono (Kd.rf (Kd.rf (Kd.rf (Kd.rf (Kd.rf (Kd.rf (Kd.rf (Kd.rf (Kd.R_types HO500.out BK525.out (by decide)))))))))) (fun _ h_ => h_.1)))); (case side10 => exact (Kd.R_reads' HO500.out).2.1); (case side11 => refine (Kd.R_reads' (e := 72) (base := w.heap.size) (ok := fun k_ => (True ∧ some k_ ≠ (.slice Ao24 t520.length co24 : Value).ownBlock)) (n := t501.length) (c := co15) ?_).2.2; exact (by refine rs ?_; exact (Kd.R_mono (Kd.rf (Kd.rf (Kd.rf (Kd.rf (Kd.rf (Kd.rf (Kd.rf (Kd.rf (Kd.R_types HO503.out BK525.out (by decide)))))))))) (fun _ h_ => h_.1)))); (case side12 => exact (Kd.R_reads' HO503.out).2.1); rintro e w30 ⟨rfl, hb⟩; refine ⟨_, rfl, ?_⟩; have n0_ := Aside0.mk (Kd.R_below (by refine rs ?_; exact (Kd.R_mono (Kd.rf (Kd.rf (Kd.rf (Kd.rf (Kd.rf (Kd.rf (Kd.rf (Kd.rf (Kd.R_types HO490.out BK525.out (by decide)))))))))) (fun _ h_ => h_.1))) hb); have n1_ := Aside0.mk (Kd.R_below (by refine rs ?_; exact (Kd.R_mono (Kd.rf (Kd.rf (Kd.rf (Kd.rf (Kd.rf (Kd.rf (Kd.rf (Kd.rf (Kd.R_types HO497.out BK525.out (by decide)))))))))) (fun _ h_ => h_.1))) hb); have n2_ := Aside0.mk (Kd.R_below (by refine rs ?_; exact (Kd.R_mono (Kd.rf (Kd.rf (Kd.rf (Kd.rf (Kd.rf (Kd.rf (Kd.rf (Kd.rf (Kd.R_types HO500.out BK525.out (by decide)))))))))) (fun _ h_ => h_.1))) hb); have n3_ := Aside0.mk (Kd.R_below (by refine rs ?_; exact (Kd.R_mono (Kd.rf (Kd.rf (Kd.rf (Kd.rf (Kd.rf (Kd.rf (Kd.rf (Kd.rf (Kd.R_types HO503.out BK525.out (by decide)))))))))) (fun _ h_ => h_.1))) hb); have n4_ := Aside0.mk (Kd.R_below (by refine rs ?_; exact (Kd.R_mono (Kd.rf (Kd.rf (Kd.rf (Kd.rf (Kd.rf (Kd.rf (Kd.rf (Kd.rf (Kd.R_types HO509.out BK525.out (by decide)))))))))) (fun _ h_ => h_.1))) hb); have n5_ := Aside0.mk (Kd.R_below (by refine rs ?_; exact (Kd.R_mono (Kd.rf (Kd.rf (Kd.rf (Kd.rf (Kd.rf (Kd.rf (Kd.rf (Kd.rf (Kd.R_types HO516.out BK525.out (by decide)))))))))) (fun _ h_ => h_.1))) hb); have n6_ := Aside0.mk (Kd.R_below (by refine rs ?_; exact (Kd.R_mono (Kd.rf (Kd.rf (Kd.rf (Kd.rf (Kd.rf (Kd.rf (Kd.rf (Kd.rf (Kd.R_types HO519.out BK525.out (by decide)))))))))) (fun _ h_ => h_.1))) hb); have n7_ := Aside0.mk (Kd.R_below (by refine rs ?_; exact (Kd.R_mono (Kd.rf (Kd.rf (Kd.rf (Kd.rf (Kd.rf (Kd.rf (Kd.rf (Kd.rf (Kd.R_types HO522.out BK525.out (by decide)))))))))) (fun _ h_ => h_.1))) hb); have n8_ := Aside0.mk (blk_below (bo BK506) hb); have n9_ := Aside0.mk (blk_below (g := gb525) (o := .cells #[.int .i64 t510, .int .i64 t511, .int .i64 t512, .int .i64 t513, .slice Ao22 t514.length co22, .slice Ao23 t517.length co23, .slice Ao24 t520.length co24, .string t523] 29 (0, 0)) bk hb); have n10_ := Aside0.mk (below_step bz hb); clear HO490; clear HO497; clear HO500; clear HO503; clear HO509; clear HO516; clear HO519; clear HO522; clear BK506; clear BK525; clear HB; have HO490 := n0_; have HO497 := n1_; have HO500 := n2_; have HO503 := n3_; have HO509 := n4_; have HO516 := n5_; have HO519 := n6_; have HO522 := n7_; have BK506 := n8_; have BK525 := n9_; have HB := n10_; clear n0_ n1_ n2_ n3_ n4_ n5_ n6_ n7_ n8_ n9_ n10_; (try clear hb); (try clear hb2); (try clear hk); (try clear hi)))
    go_meet
    case rel => exact ⟨_, ((t524 != t505)), sd, H', ⟨ob⟩, ⟨by refine rs ?_; exact Kd.R_mono HO509.out (fun _ hk => trivial)⟩, ⟨by refine rs ?_; exact Kd.R_mono HO497.out (fun _ hk => hk.2)⟩, ⟨by refine rs ?_; exact Kd.R_mono HO500.out (fun _ hk => hk.2)⟩, ⟨by refine rs ?_; exact Kd.R_mono HO503.out (fun _ hk => hk.2)⟩, ⟨by refine rs ?_; exact Kd.R_mono HO516.out (fun _ hk => hk.2)⟩, ⟨by refine rs ?_; exact Kd.R_mono HO519.out (fun _ hk => hk.2)⟩, ⟨by refine rs ?_; exact Kd.R_mono HO522.out (fun _ hk => hk.2)⟩, ⟨(bo BK506)⟩, ⟨(bo BK525)⟩, ⟨bz⟩⟩
   ·replace c26 := Bool.eq_false_iff.mpr c26
    subst c26
    have H1 : (laws_FnExactGetMsg.j0 k l0 t505 t507 t524 true t491 t492 t493 t494 t495 t498 t501 t504 t510 t511 t512 t513 t514 t517 t520 t523) = some r := by rw [if_neg (show ¬ (false = true) by decide)] at H; exact H
    clear H
    have H := H1
    clear H1
    have H' := Aside0.mk H
    clear H
    have hnb31 := NB525_506.out
    have hnc31 := NB506_525.out
    obtain ⟨hcz32_0, hcz32_1, hcz32_2, hcz32_3, hcz32_4, hcz32_5, hcz32_6, hcz32_7, hfz32_0, hfz32_1, hfz32_2, hfz32_3, hfz32_4, hfz32_5, hfz32_6, hfz32_7⟩ := bc8 BK525.out
    obtain ⟨hcz33_0, hcz33_1, hcz33_2, hcz33_3, hcz33_4, hcz33_5, hcz33_6, hcz33_7, hfz33_0, hfz33_1, hfz33_2, hfz33_3, hfz33_4, hfz33_5, hfz33_6, hfz33_7⟩ := bc8 BK506.out
    go_wp2_with (first | ((with_reducible refine gate_callee (f := 8) rfl ?_); refine goesL_ (some 31) rfl rfl Try.func8 (by kernel_rfl) rfl #[.agg #[.int .i64 t510, .int .i64 t511, .int .i64 t512, .int .i64 t513, .slice Ao22 t514.length co22, .slice Ao23 t517.length co23, .slice Ao24 t520.length co24, .string t523], .agg #[.int .i64 t491, .int .i64 t492, .int .i64 t493, .int .i64 t494, .slice Ao13 t495.length co13, .slice Ao14 t498.length co14, .slice Ao15 t501.length co15, .string t504]] rfl mt ?_; (with_reducible refine (laws_eqMsg.calls k t510 t511 t512 t513 _ _ t514 _ _ t517 _ _ t520 t523 t491 t492 t493 t494 _ _ t495 _ _ t498 _ _ t501 t504 false _ ?side1 ?side2 ?side3 ?side4 ?side5 ?side6 ?side7 ?side8 ?side9 ?side10 ?side11 ?side12 A25.out).mono ?_); (case side1 => refine (Kd.R_reads' (e := 60) (base := w.heap.size) (ok := fun k_ => (True ∧ some k_ ≠ (.slice Ao13 t495.length co13 : Value).ownBlock)) (n := t514.length) (c := co22) ?_).2.2; exact (by refine rs ?_; exact (Kd.R_mono (Kd.rf (Kd.rf (Kd.rf (Kd.rf (Kd.rf (Kd.rf (Kd.rf (Kd.rf (Kd.R_types HO516.out BK525.out (by decide)))))))))) (fun _ h_ => h_.1)))); (case side2 => exact (Kd.R_reads' HO516.out).2.1); (case side3 => refine (Kd.R_reads' (e := 9) (base := w.heap.size) (ok := fun k_ => (True ∧ some k_ ≠ (.slice Ao14 t498.length co14 : Value).ownBlock)) (n := t517.length) (c := co23) ?_).2.2; exact (by refine rs ?_; exact (Kd.R_mono (Kd.rf (Kd.rf (Kd.rf (Kd.rf (Kd.rf (Kd.rf (Kd.rf (Kd.rf (Kd.R_types HO519.out BK525.out (by decide)))))))))) (fun _ h_ => h_.1)))); (case side4 => exact (Kd.R_reads' HO519.out).2.1); (case side5 => refine (Kd.R_reads' (e := 72) (base := w.heap.size) (ok := fun k_ => (True ∧ some k_ ≠ (.slice Ao15 t501.length co15 : Value).ownBlock)) (n := t520.length) (c := co24) ?_).2.2; exact (by refine rs ?_; exact (Kd.R_mono (Kd.rf (Kd.rf (Kd.rf (Kd.rf (Kd.rf (Kd.rf (Kd.rf (Kd.rf (Kd.R_types HO522.out BK525.out (by decide)))))))))) (fun _ h_ => h_.1)))); (case side6 => exact (Kd.R_reads' HO522.out).2.1); (case side7 => refine (Kd.R_reads' (e := 60) (base := w.heap.size) (ok := fun k_ => (True ∧ some k_ ≠ (.slice Ao22 t514.length co22 : Value).ownBlock)) (n := t495.length) (c := co13) ?_).2.2; exact (by refine rs ?_; exact (Kd.R_mono (Kd.rf (Kd.rf (Kd.rf (Kd.rf (Kd.rf (Kd.rf (Kd.rf (Kd.rf (Kd.R_types HO497.out BK525.out (by decide)))))))))) (fun _ h_ => h_.1)))); (case side8 => exact (Kd.R_reads' HO497.out).2.1); (case side9 => refine (Kd.R_reads' (e := 9) (base := w.heap.size) (ok := fun k_ => (True ∧ some k_ ≠ (.slice Ao23 t517.length co23 : Value).ownBlock)) (n := t498.length) (c := co14) ?_).2.2; exact (by refine rs ?_; exact (Kd.R_mono (Kd.rf (Kd.rf (Kd.rf (Kd.rf (Kd.rf (Kd.rf (Kd.rf (Kd.rf (Kd.R_types HO500.out BK525.out (by decide)))))))))) (fun _ h_ => h_.1)))); (case side10 => exact (Kd.R_reads' HO500.out).2.1); (case side11 => refine (Kd.R_reads' (e := 72) (base := w.heap.size) (ok := fun k_ => (True ∧ some k_ ≠ (.slice Ao24 t520.length co24 : Value).ownBlock)) (n := t501.length) (c := co15) ?_).2.2; exact (by refine rs ?_; exact (Kd.R_mono (Kd.rf (Kd.rf (Kd.rf (Kd.rf (Kd.rf (Kd.rf (Kd.rf (Kd.rf (Kd.R_types HO503.out BK525.out (by decide)))))))))) (fun _ h_ => h_.1)))); (case side12 => exact (Kd.R_reads' HO503.out).2.1); rintro e w34 ⟨rfl, hb⟩; refine ⟨_, rfl, ?_⟩; have n0_ := Aside0.mk (Kd.R_below (by refine rs ?_; exact (Kd.R_mono (Kd.rf (Kd.rf (Kd.rf (Kd.rf (Kd.rf (Kd.rf (Kd.rf (Kd.rf (Kd.R_types HO490.out BK525.out (by decide)))))))))) (fun _ h_ => h_.1))) hb); have n1_ := Aside0.mk (Kd.R_below (by refine rs ?_; exact (Kd.R_mono (Kd.rf (Kd.rf (Kd.rf (Kd.rf (Kd.rf (Kd.rf (Kd.rf (Kd.rf (Kd.R_types HO497.out BK525.out (by decide)))))))))) (fun _ h_ => h_.1))) hb); have n2_ := Aside0.mk (Kd.R_below (by refine rs ?_; exact (Kd.R_mono (Kd.rf (Kd.rf (Kd.rf (Kd.rf (Kd.rf (Kd.rf (Kd.rf (Kd.rf (Kd.R_types HO500.out BK525.out (by decide)))))))))) (fun _ h_ => h_.1))) hb); have n3_ := Aside0.mk (Kd.R_below (by refine rs ?_; exact (Kd.R_mono (Kd.rf (Kd.rf (Kd.rf (Kd.rf (Kd.rf (Kd.rf (Kd.rf (Kd.rf (Kd.R_types HO503.out BK525.out (by decide)))))))))) (fun _ h_ => h_.1))) hb); have n4_ := Aside0.mk (Kd.R_below (by refine rs ?_; exact (Kd.R_mono (Kd.rf (Kd.rf (Kd.rf (Kd.rf (Kd.rf (Kd.rf (Kd.rf (Kd.rf (Kd.R_types HO509.out BK525.out (by decide)))))))))) (fun _ h_ => h_.1))) hb); have n5_ := Aside0.mk (Kd.R_below (by refine rs ?_; exact (Kd.R_mono (Kd.rf (Kd.rf (Kd.rf (Kd.rf (Kd.rf (Kd.rf (Kd.rf (Kd.rf (Kd.R_types HO516.out BK525.out (by decide)))))))))) (fun _ h_ => h_.1))) hb); have n6_ := Aside0.mk (Kd.R_below (by refine rs ?_; exact (Kd.R_mono (Kd.rf (Kd.rf (Kd.rf (Kd.rf (Kd.rf (Kd.rf (Kd.rf (Kd.rf (Kd.R_types HO519.out BK525.out (by decide)))))))))) (fun _ h_ => h_.1))) hb); have n7_ := Aside0.mk (Kd.R_below (by refine rs ?_; exact (Kd.R_mono (Kd.rf (Kd.rf (Kd.rf (Kd.rf (Kd.rf (Kd.rf (Kd.rf (Kd.rf (Kd.R_types HO522.out BK525.out (by decide)))))))))) (fun _ h_ => h_.1))) hb); have n8_ := Aside0.mk (blk_below (bo BK506) hb); have n9_ := Aside0.mk (blk_below (g := gb525) (o := .cells #[.int .i64 t510, .int .i64 t511, .int .i64 t512, .int .i64 t513, .slice Ao22 t514.length co22, .slice Ao23 t517.length co23, .slice Ao24 t520.length co24, .string t523] 29 (0, 0)) bk hb); have n10_ := Aside0.mk (below_step bz hb); clear HO490; clear HO497; clear HO500; clear HO503; clear HO509; clear HO516; clear HO519; clear HO522; clear BK506; clear BK525; clear HB; have HO490 := n0_; have HO497 := n1_; have HO500 := n2_; have HO503 := n3_; have HO509 := n4_; have HO516 := n5_; have HO519 := n6_; have HO522 := n7_; have BK506 := n8_; have BK525 := n9_; have HB := n10_; clear n0_ n1_ n2_ n3_ n4_ n5_ n6_ n7_ n8_ n9_ n10_; (try clear hb); (try clear hb2); (try clear hk); (try clear hi)))
    go_meet
    case rel => exact ⟨_, (true), sd, H', ⟨ob⟩, ⟨by refine rs ?_; exact Kd.R_mono HO509.out (fun _ hk => trivial)⟩, ⟨by refine rs ?_; exact Kd.R_mono HO497.out (fun _ hk => hk.2)⟩, ⟨by refine rs ?_; exact Kd.R_mono HO500.out (fun _ hk => hk.2)⟩, ⟨by refine rs ?_; exact Kd.R_mono HO503.out (fun _ hk => hk.2)⟩, ⟨by refine rs ?_; exact Kd.R_mono HO516.out (fun _ hk => hk.2)⟩, ⟨by refine rs ?_; exact Kd.R_mono HO519.out (fun _ hk => hk.2)⟩, ⟨by refine rs ?_; exact Kd.R_mono HO522.out (fun _ hk => hk.2)⟩, ⟨(bo BK506)⟩, ⟨(bo BK525)⟩, ⟨bz⟩⟩
  case rest =>
   clear HC7
   try clear c2
   try clear c2b0
   try clear c2b1
   try clear p2
   try clear c3
   try clear c5
   try clear c6
   try clear c7
   try clear c8
   try clear c20
   try clear c26
   try clear c27
   try clear c31
   try clear hcz12_0 hcz12_1 hcz12_2 hcz12_3 hcz12_4 hcz12_5 hcz12_6 hcz12_7 hfz12_0 hfz12_1 hfz12_2 hfz12_3 hfz12_4 hfz12_5 hfz12_6 hfz12_7
   try clear hcz21_0 hcz21_1 hcz21_2 hcz21_3 hcz21_4 hcz21_5 hcz21_6 hcz21_7 hfz21_0 hfz21_1 hfz21_2 hfz21_3 hfz21_4 hfz21_5 hfz21_6 hfz21_7
   try clear hcz28_0 hcz28_1 hcz28_2 hcz28_3 hcz28_4 hcz28_5 hcz28_6 hcz28_7 hfz28_0 hfz28_1 hfz28_2 hfz28_3 hfz28_4 hfz28_5 hfz28_6 hfz28_7
   try clear hcz29_0 hcz29_1 hcz29_2 hcz29_3 hcz29_4 hcz29_5 hcz29_6 hcz29_7 hfz29_0 hfz29_1 hfz29_2 hfz29_3 hfz29_4 hfz29_5 hfz29_6 hfz29_7
   try clear hcz32_0 hcz32_1 hcz32_2 hcz32_3 hcz32_4 hcz32_5 hcz32_6 hcz32_7 hfz32_0 hfz32_1 hfz32_2 hfz32_3 hfz32_4 hfz32_5 hfz32_6 hfz32_7
   try clear hcz33_0 hcz33_1 hcz33_2 hcz33_3 hcz33_4 hcz33_5 hcz33_6 hcz33_7 hfz33_0 hfz33_1 hfz33_2 hfz33_3 hfz33_4 hfz33_5 hfz33_6 hfz33_7
   obtain ⟨kq, x37_6, rfl, HA, HJ6, HO_5, HO_507004, HO_507005, HO_507006, HO_526004, HO_526005, HO_526006, BK506, BK525, HB⟩ := hcut
   cases kq with
   | zero => exact absurd HA.out (by simp [laws_FnExactGetMsg.j0])
   | succ kj6 =>
    have H := HA.out
    clear HA
    simp only [laws_FnExactGetMsg.j0] at H
    by_cases c35 : x37_6 = true
    ·subst c35
     have H1 : (some false) = some r := by rw [if_pos rfl] at H; exact H
     clear H
     have H := H1
     clear H1
     obtain rfl := Option.some.inj H
     go_wp2
     go_ret
     exact ⟨rq, bz⟩
    ·replace c35 := Bool.eq_false_iff.mpr c35
     subst c35
     have H1 : ((laws_toByteS.f kj6 l0).bind fun t527 => ((laws_eqByteS.f kj6 t507 t527).bind fun t530 => (if t530 = true then ((laws_markByteS.f kj6 t507 1).bind fun bt531 => (if bt531.1 < 0 then (laws_FnExactGetMsg.j1 kj6 l0 t505 true t491 t492 t493 t494 t495 t498 t501 t504 t510 t511 t512 t513 t514 t517 t520 t523) else ((laws_eqMsg.f kj6 t510 t511 t512 t513 t514 t517 t520 t523 t491 t492 t493 t494 t495 t498 t501 t504).bind fun t533 => (if t533 = true then (laws_FnExactGetMsg.j1 kj6 l0 t505 (t524 != t505) t491 t492 t493 t494 t495 t498 t501 t504 t510 t511 t512 t513 t514 t517 t520 t523) else (laws_FnExactGetMsg.j1 kj6 l0 t505 true t491 t492 t493 t494 t495 t498 t501 t504 t510 t511 t512 t513 t514 t517 t520 t523))))) else (some false)))) = some r := by rw [if_neg (show ¬ (false = true) by decide)] at H; exact H
     clear H
     have H := H1
     clear H1
     replace H := Option.bind_eq_some_iff.mp H
     obtain ⟨t527, A360, H⟩ := H
     try dsimp -simprocs only at H
     have A36 := Aside0.mk A360
     clear A360
     replace H := Option.bind_eq_some_iff.mp H
     obtain ⟨t530, A370, H⟩ := H
     try dsimp -simprocs only at H
     have A37 := Aside0.mk A370
     clear A370
     have HC38 := Aside0.mk H
     clear H
     go_upto_if 42 with (first | ((with_reducible refine gate_callee (f := 6) rfl ?_); refine goesL_ (some 40) rfl rfl Try.func6 (by kernel_rfl) rfl #[.slice A0 l0.length c0] rfl mt ?_; (with_reducible refine (laws_toByteS.calls kj6 _ _ l0 t527 _ ?side1 ?side2 A36.out).mono ?_); (case side1 => exact cz HR0); (case side2 => exact HC0.out); rintro e w39 ⟨v528, rfl, ho0, hb⟩; refine ⟨_, rfl, ?_⟩; have n0_ := Aside0.mk (Kd.R_elder' (by refine rs ?_; exact HO_5.out) (Kd.R_base ho0) hb); have n1_ := Aside0.mk (Kd.R_below (by refine rs ?_; exact HO_507004.out) hb); have n2_ := Aside0.mk (Kd.R_below (by refine rs ?_; exact HO_507005.out) hb); have n3_ := Aside0.mk (Kd.R_below (by refine rs ?_; exact HO_507006.out) hb); have n4_ := Aside0.mk (Kd.R_below (by refine rs ?_; exact HO_526004.out) hb); have n5_ := Aside0.mk (Kd.R_below (by refine rs ?_; exact HO_526005.out) hb); have n6_ := Aside0.mk (Kd.R_below (by refine rs ?_; exact HO_526006.out) hb); have n7_ := Aside0.mk (Kd.R_lower (Kd.R_new' ho0 (Kd.R_lt (by refine rs ?_; exact HO_5.out))) (below_size bz)); have n8_ := Aside0.mk (blk_below (bo BK506) hb); have n9_ := Aside0.mk (blk_below (bo BK525) hb); have n10_ := Aside0.mk (below_step bz hb); clear HO_5; clear HO_507004; clear HO_507005; clear HO_507006; clear HO_526004; clear HO_526005; clear HO_526006; clear BK506; clear BK525; clear HB; have HO_5 := n0_; have HO_507004 := n1_; have HO_507005 := n2_; have HO_507006 := n3_; have HO_526004 := n4_; have HO_526005 := n5_; have HO_526006 := n6_; have HO529 := n7_; have BK506 := n8_; have BK525 := n9_; have HB := n10_; clear n0_ n1_ n2_ n3_ n4_ n5_ n6_ n7_ n8_ n9_ n10_; (try clear hb); (try clear hb2); (try clear hk); (try clear hi); (try clear ho0); obtain ⟨Ao40, co40, eo40⟩ := Kd.R_slice HO529.out; subst eo40) | ((with_reducible refine gate_callee (f := 9) rfl ?_); refine goesL_ (some 41) rfl rfl Try.func9 (by kernel_rfl) rfl #[.slice Ao17 t507.length co17, .slice Ao40 t527.length co40] rfl mt ?_; (with_reducible refine (laws_eqByteS.calls kj6 _ _ t507 _ _ t527 t530 _ ?side1 ?side2 ?side3 ?side4 A37.out).mono ?_); (case side1 => repeat (first | exact (Kd.R_reads' HO_5.out).2.2 | (with_reducible refine Kd.C_alloc ?_ _) | (with_reducible refine Kd.C_drewN ?_ _) | (with_reducible refine Kd.C_drew ?_))); (case side2 => exact (Kd.R_reads' HO_5.out).2.1); (case side3 => repeat (first | exact (Kd.R_reads' HO529.out).2.2 | (with_reducible refine Kd.C_alloc ?_ _) | (with_reducible refine Kd.C_drewN ?_ _) | (with_reducible refine Kd.C_drew ?_))); (case side4 => exact (Kd.R_reads' HO529.out).2.1); rintro e w' ⟨rfl, ⟨nd, rfl⟩⟩; refine ⟨_, rfl, ?_⟩))
     (try simp only [Act.put, List.setIfInBounds_toArray, List.set_cons_zero, List.set_cons_succ])
     have H := HC38.out
     clear HC38
     by_cases c41 : t530 = true
     ·subst c41
      have H1 : ((laws_markByteS.f kj6 t507 1).bind fun bt531 => (if bt531.1 < 0 then (laws_FnExactGetMsg.j1 kj6 l0 t505 true t491 t492 t493 t494 t495 t498 t501 t504 t510 t511 t512 t513 t514 t517 t520 t523) else ((laws_eqMsg.f kj6 t510 t511 t512 t513 t514 t517 t520 t523 t491 t492 t493 t494 t495 t498 t501 t504).bind fun t533 => (if t533 = true then (laws_FnExactGetMsg.j1 kj6 l0 t505 (t524 != t505) t491 t492 t493 t494 t495 t498 t501 t504 t510 t511 t512 t513 t514 t517 t520 t523) else (laws_FnExactGetMsg.j1 kj6 l0 t505 true t491 t492 t493 t494 t495 t498 t501 t504 t510 t511 t512 t513 t514 t517 t520 t523))))) = some r := by rw [if_pos rfl] at H; exact H
      clear H
      have H := H1
      clear H1
      replace H := Option.bind_eq_some_iff.mp H
      obtain ⟨⟨t531, t532⟩, A420, H⟩ := H
      try dsimp -simprocs only at H
      have A42 := Aside0.mk A420
      clear A420
      have HC43 := Aside0.mk H
      clear H
      go_upto_region 12 with (first | ((with_reducible refine gate_callee (f := 10) rfl ?_); refine goesL_ (some 45) rfl rfl Try.func10 (by kernel_rfl) rfl #[.slice Ao17 t507.length co17, .int .i64 1] rfl mt ?_; (with_reducible refine (laws_markByteS.calls kj6 (fun k_ => some k_ = (.slice Ao17 t507.length co17 : Value).ownBlock) (.slice Ao17 t507.length co17) t507 1 t531 t532 w _ ?side1 ?side2 A42.out).mono ?_); (case side1 => repeat (first | (with_reducible first | exact HB.out | apply below_alloc | apply pw_below_drewN | apply below_drew1 | refine below_set ?_ GE506.out | refine below_set ?_ GE525.out) | exact HB.out)); (case side2 => exact Kd.R_tight rfl HO_5.out); rintro e w44 ⟨rfl, hy0, hb, hkp⟩; refine ⟨_, rfl, ?_⟩; have n0_ := Aside0.mk (Kd.R_reok rfl hy0 (fun k_ e_ => HO_5.out.1 k_ e_)); have n1_ := Aside0.mk (Kd.R_mono (ok' := fun k_ => some k_ ≠ (.slice Ao22 t514.length co22 : Value).ownBlock) (Kd.R_keptB ((Kd.R_apart' HO_507004.out (Kd.R_typed HO_5.out) (by decide))) hkp (fun k_ hk_ hs_ => (hk_.2) hs_)) (fun k_ hk_ => hk_.1.1)); have n2_ := Aside0.mk (Kd.R_mono (ok' := fun k_ => some k_ ≠ (.slice Ao23 t517.length co23 : Value).ownBlock) (Kd.R_keptB ((Kd.R_apart' HO_507005.out (Kd.R_typed HO_5.out) (by decide))) hkp (fun k_ hk_ hs_ => (hk_.2) hs_)) (fun k_ hk_ => hk_.1.1)); have n3_ := Aside0.mk (Kd.R_mono (ok' := fun k_ => some k_ ≠ (.slice Ao24 t520.length co24 : Value).ownBlock) (Kd.R_keptB ((Kd.R_apart' HO_507006.out (Kd.R_typed HO_5.out) (by decide))) hkp (fun k_ hk_ hs_ => (hk_.2) hs_)) (fun k_ hk_ => hk_.1.1)); have n4_ := Aside0.mk (Kd.R_mono (ok' := fun k_ => some k_ ≠ (.slice Ao13 t495.length co13 : Value).ownBlock) (Kd.R_keptB ((Kd.R_apart' HO_526004.out (Kd.R_typed HO_5.out) (by decide))) hkp (fun k_ hk_ hs_ => (hk_.2) hs_)) (fun k_ hk_ => hk_.1.1)); have n5_ := Aside0.mk (Kd.R_mono (ok' := fun k_ => some k_ ≠ (.slice Ao14 t498.length co14 : Value).ownBlock) (Kd.R_keptB ((Kd.R_apart' HO_526005.out (Kd.R_typed HO_5.out) (by decide))) hkp (fun k_ hk_ hs_ => (hk_.2) hs_)) (fun k_ hk_ => hk_.1.1)); have n6_ := Aside0.mk (Kd.R_mono (ok' := fun k_ => some k_ ≠ (.slice Ao15 t501.length co15 : Value).ownBlock) (Kd.R_keptB ((Kd.R_apart' HO_526006.out (Kd.R_typed HO_5.out) (by decide))) hkp (fun k_ hk_ hs_ => (hk_.2) hs_)) (fun k_ hk_ => hk_.1.1)); have n7_ := Aside0.mk (blk_kept (bo BK506) hkp (fun hs_ => (fun e_ => (Kd.R_ne HO_5.out BK506.out (by decide)) e_) hs_)); have n8_ := Aside0.mk (blk_kept (bo BK525) hkp (fun hs_ => (fun e_ => (Kd.R_ne HO_5.out BK525.out (by decide)) e_) hs_)); have n9_ := Aside0.mk (Kd.R_mono (ok' := fun k_ => some k_ ≠ (.slice Ao17 t507.length co17 : Value).ownBlock) (Kd.R_keptB (HO529.out) hkp (fun k_ hk_ hs_ => (hk_.2) hs_)) (fun k_ hk_ => hk_.1.2)); have n10_ := Aside0.mk (hb); clear HO_5; clear HO_507004; clear HO_507005; clear HO_507006; clear HO_526004; clear HO_526005; clear HO_526006; clear BK506; clear BK525; clear HO529; clear HB; have HO_5 := n0_; have HO_507004 := n1_; have HO_507005 := n2_; have HO_507006 := n3_; have HO_526004 := n4_; have HO_526005 := n5_; have HO_526006 := n6_; have BK506 := n7_; have BK525 := n8_; have HO529 := n9_; have HB := n10_; clear n0_ n1_ n2_ n3_ n4_ n5_ n6_ n7_ n8_ n9_ n10_; (try clear hb); (try clear hkp); (try clear hy0)))
      (try simp only [Act.put, List.setIfInBounds_toArray, List.set_cons_zero, List.set_cons_succ])
      go_cut [58] (fun v58 wc => ∃ (kq : Nat) (x58_42 : Bool), v58 = .bool x58_42 ∧ Aside0 (laws_FnExactGetMsg.j1 kq l0 t505 x58_42 t491 t492 t493 t494 t495 t498 t501 t504 t510 t511 t512 t513 t514 t517 t520 t523 = some r) ∧ Aside0 (kq ≤ kj6) ∧ Aside0 (Kd.R (Kd.int .u32) 60 wc w.heap.size (fun k_ => some k_ ≠ ((.slice Ao22 t514.length co22) : Value).ownBlock) (.slice Ao13 t495.length co13) t495) ∧ Aside0 (Kd.R Kd.string 9 wc w.heap.size (fun k_ => some k_ ≠ ((.slice Ao23 t517.length co23) : Value).ownBlock) (.slice Ao14 t498.length co14) t498) ∧ Aside0 (Kd.R k72 72 wc w.heap.size (fun k_ => some k_ ≠ ((.slice Ao24 t520.length co24) : Value).ownBlock) (.slice Ao15 t501.length co15) t501) ∧ Aside0 (Kd.R (Kd.int .u32) 60 wc w.heap.size (fun k_ => some k_ ≠ ((.slice Ao13 t495.length co13) : Value).ownBlock) (.slice Ao22 t514.length co22) t514) ∧ Aside0 (Kd.R Kd.string 9 wc w.heap.size (fun k_ => some k_ ≠ ((.slice Ao14 t498.length co14) : Value).ownBlock) (.slice Ao23 t517.length co23) t517) ∧ Aside0 (Kd.R k72 72 wc w.heap.size (fun k_ => some k_ ≠ ((.slice Ao15 t501.length co15) : Value).ownBlock) (.slice Ao24 t520.length co24) t520) ∧ Aside0 (wc.heap[gb506]? = some (.cells #[.int .i64 t491, .int .i64 t492, .int .i64 t493, .int .i64 t494, (.slice Ao13 t495.length co13), (.slice Ao14 t498.length co14), (.slice Ao15 t501.length co15), .string t504] 29 (0, 0))) ∧ Aside0 (wc.heap[gb525]? = some (.cells #[.int .i64 t510, .int .i64 t511, .int .i64 t512, .int .i64 t513, (.slice Ao22 t514.length co22), (.slice Ao23 t517.length co23), (.slice Ao24 t520.length co24), .string t523] 29 (0, 0))) ∧ Aside0 (Below w.heap.size w wc))
      case first =>
       have H := HC43.out
       clear HC43
       by_cases c45 : t531 < 0
       ·rw [if_pos c45] at H
        have c45b0 : decide (t531 < 0) = true := decide_eq_true c45
        clear c45
        (first | rw [c45b0] | (simp only [i64_w, i32_w]; rw [c45b0]) | skip)
        have H' := Aside0.mk H
        clear H
        go_wp2
        go_meet
        case rel => exact ⟨_, (true), sd, H', ⟨by have := HJ6.out; first | omega | exact Nat.le_refl _⟩, ⟨by refine rs ?_; exact HO_507004.out⟩, ⟨by refine rs ?_; exact HO_507005.out⟩, ⟨by refine rs ?_; exact HO_507006.out⟩, ⟨by refine rs ?_; exact HO_526004.out⟩, ⟨by refine rs ?_; exact HO_526005.out⟩, ⟨by refine rs ?_; exact HO_526006.out⟩, ⟨(bo BK506)⟩, ⟨(bo BK525)⟩, ⟨bz⟩⟩
       ·rw [if_neg c45] at H
        have c45b0 : decide (t531 < 0) = false := decide_eq_false c45
        clear c45
        (first | rw [c45b0] | (simp only [i64_w, i32_w]; rw [c45b0]) | skip)
        replace H := Option.bind_eq_some_iff.mp H
        obtain ⟨t533, A460, H⟩ := H
        try dsimp -simprocs only at H
        have A46 := Aside0.mk A460
        clear A460
        by_cases c47 : t533 = true
        ·subst c47
         have H1 : (laws_FnExactGetMsg.j1 kj6 l0 t505 (t524 != t505) t491 t492 t493 t494 t495 t498 t501 t504 t510 t511 t512 t513 t514 t517 t520 t523) = some r := by rw [if_pos rfl] at H; exact H
         clear H
         have H := H1
         clear H1
         have H' := Aside0.mk H
         clear H
         have hnb48 := NB525_506.out
         have hnc48 := NB506_525.out
         obtain ⟨hcz49_0, hcz49_1, hcz49_2, hcz49_3, hcz49_4, hcz49_5, hcz49_6, hcz49_7, hfz49_0, hfz49_1, hfz49_2, hfz49_3, hfz49_4, hfz49_5, hfz49_6, hfz49_7⟩ := bc8 BK525.out
         obtain ⟨hcz50_0, hcz50_1, hcz50_2, hcz50_3, hcz50_4, hcz50_5, hcz50_6, hcz50_7, hfz50_0, hfz50_1, hfz50_2, hfz50_3, hfz50_4, hfz50_5, hfz50_6, hfz50_7⟩ := bc8 BK506.out
         go_wp2_with (first | (go_at_call 8; (with_reducible refine (laws_eqMsg.calls kj6 t510 t511 t512 t513 _ _ t514 _ _ t517 _ _ t520 t523 t491 t492 t493 t494 _ _ t495 _ _ t498 _ _ t501 t504 true _ ?side1 ?side2 ?side3 ?side4 ?side5 ?side6 ?side7 ?side8 ?side9 ?side10 ?side11 ?side12 A46.out).mono ?_); (case side1 => repeat (first | exact (Kd.R_reads' HO_526004.out).2.2 | (with_reducible refine Kd.C_alloc ?_ _) | (with_reducible refine Kd.C_drewN ?_ _) | (with_reducible refine Kd.C_drew ?_))); (case side2 => exact (Kd.R_reads' HO_526004.out).2.1); (case side3 => repeat (first | exact (Kd.R_reads' HO_526005.out).2.2 | (with_reducible refine Kd.C_alloc ?_ _) | (with_reducible refine Kd.C_drewN ?_ _) | (with_reducible refine Kd.C_drew ?_))); (case side4 => exact (Kd.R_reads' HO_526005.out).2.1); (case side5 => repeat (first | exact (Kd.R_reads' HO_526006.out).2.2 | (with_reducible refine Kd.C_alloc ?_ _) | (with_reducible refine Kd.C_drewN ?_ _) | (with_reducible refine Kd.C_drew ?_))); (case side6 => exact (Kd.R_reads' HO_526006.out).2.1); (case side7 => repeat (first | exact (Kd.R_reads' HO_507004.out).2.2 | (with_reducible refine Kd.C_alloc ?_ _) | (with_reducible refine Kd.C_drewN ?_ _) | (with_reducible refine Kd.C_drew ?_))); (case side8 => exact (Kd.R_reads' HO_507004.out).2.1); (case side9 => repeat (first | exact (Kd.R_reads' HO_507005.out).2.2 | (with_reducible refine Kd.C_alloc ?_ _) | (with_reducible refine Kd.C_drewN ?_ _) | (with_reducible refine Kd.C_drew ?_))); (case side10 => exact (Kd.R_reads' HO_507005.out).2.1); (case side11 => repeat (first | exact (Kd.R_reads' HO_507006.out).2.2 | (with_reducible refine Kd.C_alloc ?_ _) | (with_reducible refine Kd.C_drewN ?_ _) | (with_reducible refine Kd.C_drew ?_))); (case side12 => exact (Kd.R_reads' HO_507006.out).2.1); rintro e w51 ⟨rfl, hb⟩; have n0_ := Aside0.mk (Kd.R_below (by refine rs ?_; exact HO_5.out) hb); have n1_ := Aside0.mk (Kd.R_below (by refine rs ?_; exact HO_507004.out) hb); have n2_ := Aside0.mk (Kd.R_below (by refine rs ?_; exact HO_507005.out) hb); have n3_ := Aside0.mk (Kd.R_below (by refine rs ?_; exact HO_507006.out) hb); have n4_ := Aside0.mk (Kd.R_below (by refine rs ?_; exact HO_526004.out) hb); have n5_ := Aside0.mk (Kd.R_below (by refine rs ?_; exact HO_526005.out) hb); have n6_ := Aside0.mk (Kd.R_below (by refine rs ?_; exact HO_526006.out) hb); have n7_ := Aside0.mk (Kd.R_below (by refine rs ?_; exact HO529.out) hb); have n8_ := Aside0.mk (blk_below (bo BK506) hb); have n9_ := Aside0.mk (blk_below (bo BK525) hb); have n10_ := Aside0.mk (below_step bz hb); clear HO_5; clear HO_507004; clear HO_507005; clear HO_507006; clear HO_526004; clear HO_526005; clear HO_526006; clear HO529; clear BK506; clear BK525; clear HB; have HO_5 := n0_; have HO_507004 := n1_; have HO_507005 := n2_; have HO_507006 := n3_; have HO_526004 := n4_; have HO_526005 := n5_; have HO_526006 := n6_; have HO529 := n7_; have BK506 := n8_; have BK525 := n9_; have HB := n10_; clear n0_ n1_ n2_ n3_ n4_ n5_ n6_ n7_ n8_ n9_ n10_; (try clear hb); (try clear hb2); (try clear hk); (try clear hi)))
         go_meet
         case rel => exact ⟨_, ((t524 != t505)), sd, H', ⟨by have := HJ6.out; first | omega | exact Nat.le_refl _⟩, ⟨by refine rs ?_; exact HO_507004.out⟩, ⟨by refine rs ?_; exact HO_507005.out⟩, ⟨by refine rs ?_; exact HO_507006.out⟩, ⟨by refine rs ?_; exact HO_526004.out⟩, ⟨by refine rs ?_; exact HO_526005.out⟩, ⟨by refine rs ?_; exact HO_526006.out⟩, ⟨(bo BK506)⟩, ⟨(bo BK525)⟩, ⟨bz⟩⟩
        ·replace c47 := Bool.eq_false_iff.mpr c47
         subst c47
         have H1 : (laws_FnExactGetMsg.j1 kj6 l0 t505 true t491 t492 t493 t494 t495 t498 t501 t504 t510 t511 t512 t513 t514 t517 t520 t523) = some r := by rw [if_neg (show ¬ (false = true) by decide)] at H; exact H
         clear H
         have H := H1
         clear H1
         have H' := Aside0.mk H
         clear H
         have hnb52 := NB525_506.out
         have hnc52 := NB506_525.out
         obtain ⟨hcz53_0, hcz53_1, hcz53_2, hcz53_3, hcz53_4, hcz53_5, hcz53_6, hcz53_7, hfz53_0, hfz53_1, hfz53_2, hfz53_3, hfz53_4, hfz53_5, hfz53_6, hfz53_7⟩ := bc8 BK525.out
         obtain ⟨hcz54_0, hcz54_1, hcz54_2, hcz54_3, hcz54_4, hcz54_5, hcz54_6, hcz54_7, hfz54_0, hfz54_1, hfz54_2, hfz54_3, hfz54_4, hfz54_5, hfz54_6, hfz54_7⟩ := bc8 BK506.out
         go_wp2_with (first | (go_at_call 8; (with_reducible refine (laws_eqMsg.calls kj6 t510 t511 t512 t513 _ _ t514 _ _ t517 _ _ t520 t523 t491 t492 t493 t494 _ _ t495 _ _ t498 _ _ t501 t504 false _ ?side1 ?side2 ?side3 ?side4 ?side5 ?side6 ?side7 ?side8 ?side9 ?side10 ?side11 ?side12 A46.out).mono ?_); (case side1 => repeat (first | exact (Kd.R_reads' HO_526004.out).2.2 | (with_reducible refine Kd.C_alloc ?_ _) | (with_reducible refine Kd.C_drewN ?_ _) | (with_reducible refine Kd.C_drew ?_))); (case side2 => exact (Kd.R_reads' HO_526004.out).2.1); (case side3 => repeat (first | exact (Kd.R_reads' HO_526005.out).2.2 | (with_reducible refine Kd.C_alloc ?_ _) | (with_reducible refine Kd.C_drewN ?_ _) | (with_reducible refine Kd.C_drew ?_))); (case side4 => exact (Kd.R_reads' HO_526005.out).2.1); (case side5 => repeat (first | exact (Kd.R_reads' HO_526006.out).2.2 | (with_reducible refine Kd.C_alloc ?_ _) | (with_reducible refine Kd.C_drewN ?_ _) | (with_reducible refine Kd.C_drew ?_))); (case side6 => exact (Kd.R_reads' HO_526006.out).2.1); (case side7 => repeat (first | exact (Kd.R_reads' HO_507004.out).2.2 | (with_reducible refine Kd.C_alloc ?_ _) | (with_reducible refine Kd.C_drewN ?_ _) | (with_reducible refine Kd.C_drew ?_))); (case side8 => exact (Kd.R_reads' HO_507004.out).2.1); (case side9 => repeat (first | exact (Kd.R_reads' HO_507005.out).2.2 | (with_reducible refine Kd.C_alloc ?_ _) | (with_reducible refine Kd.C_drewN ?_ _) | (with_reducible refine Kd.C_drew ?_))); (case side10 => exact (Kd.R_reads' HO_507005.out).2.1); (case side11 => repeat (first | exact (Kd.R_reads' HO_507006.out).2.2 | (with_reducible refine Kd.C_alloc ?_ _) | (with_reducible refine Kd.C_drewN ?_ _) | (with_reducible refine Kd.C_drew ?_))); (case side12 => exact (Kd.R_reads' HO_507006.out).2.1); rintro e w55 ⟨rfl, hb⟩; have n0_ := Aside0.mk (Kd.R_below (by refine rs ?_; exact HO_5.out) hb); have n1_ := Aside0.mk (Kd.R_below (by refine rs ?_; exact HO_507004.out) hb); have n2_ := Aside0.mk (Kd.R_below (by refine rs ?_; exact HO_507005.out) hb); have n3_ := Aside0.mk (Kd.R_below (by refine rs ?_; exact HO_507006.out) hb); have n4_ := Aside0.mk (Kd.R_below (by refine rs ?_; exact HO_526004.out) hb); have n5_ := Aside0.mk (Kd.R_below (by refine rs ?_; exact HO_526005.out) hb); have n6_ := Aside0.mk (Kd.R_below (by refine rs ?_; exact HO_526006.out) hb); have n7_ := Aside0.mk (Kd.R_below (by refine rs ?_; exact HO529.out) hb); have n8_ := Aside0.mk (blk_below (bo BK506) hb); have n9_ := Aside0.mk (blk_below (bo BK525) hb); have n10_ := Aside0.mk (below_step bz hb); clear HO_5; clear HO_507004; clear HO_507005; clear HO_507006; clear HO_526004; clear HO_526005; clear HO_526006; clear HO529; clear BK506; clear BK525; clear HB; have HO_5 := n0_; have HO_507004 := n1_; have HO_507005 := n2_; have HO_507006 := n3_; have HO_526004 := n4_; have HO_526005 := n5_; have HO_526006 := n6_; have HO529 := n7_; have BK506 := n8_; have BK525 := n9_; have HB := n10_; clear n0_ n1_ n2_ n3_ n4_ n5_ n6_ n7_ n8_ n9_ n10_; (try clear hb); (try clear hb2); (try clear hk); (try clear hi)))
         go_meet
         case rel => exact ⟨_, (true), sd, H', ⟨by have := HJ6.out; first | omega | exact Nat.le_refl _⟩, ⟨by refine rs ?_; exact HO_507004.out⟩, ⟨by refine rs ?_; exact HO_507005.out⟩, ⟨by refine rs ?_; exact HO_507006.out⟩, ⟨by refine rs ?_; exact HO_526004.out⟩, ⟨by refine rs ?_; exact HO_526005.out⟩, ⟨by refine rs ?_; exact HO_526006.out⟩, ⟨(bo BK506)⟩, ⟨(bo BK525)⟩, ⟨bz⟩⟩
      case rest =>
       clear HC43
       try clear c1
       try clear c2
       try clear c2b0
       try clear c2b1
       try clear p2
       try clear c3
       try clear c4
       try clear c5
       try clear c6
       try clear c7
       try clear c8
       try clear c9
       try clear c10
       try clear c20
       try clear c26
       try clear c27
       try clear c31
       try clear c35
       try clear c41
       try clear c45
       try clear c45b0
       try clear c47
       try clear c48
       try clear c52
       try clear hcz12_0 hcz12_1 hcz12_2 hcz12_3 hcz12_4 hcz12_5 hcz12_6 hcz12_7 hfz12_0 hfz12_1 hfz12_2 hfz12_3 hfz12_4 hfz12_5 hfz12_6 hfz12_7
       try clear hcz21_0 hcz21_1 hcz21_2 hcz21_3 hcz21_4 hcz21_5 hcz21_6 hcz21_7 hfz21_0 hfz21_1 hfz21_2 hfz21_3 hfz21_4 hfz21_5 hfz21_6 hfz21_7
       try clear hcz28_0 hcz28_1 hcz28_2 hcz28_3 hcz28_4 hcz28_5 hcz28_6 hcz28_7 hfz28_0 hfz28_1 hfz28_2 hfz28_3 hfz28_4 hfz28_5 hfz28_6 hfz28_7
       try clear hcz29_0 hcz29_1 hcz29_2 hcz29_3 hcz29_4 hcz29_5 hcz29_6 hcz29_7 hfz29_0 hfz29_1 hfz29_2 hfz29_3 hfz29_4 hfz29_5 hfz29_6 hfz29_7
       try clear hcz32_0 hcz32_1 hcz32_2 hcz32_3 hcz32_4 hcz32_5 hcz32_6 hcz32_7 hfz32_0 hfz32_1 hfz32_2 hfz32_3 hfz32_4 hfz32_5 hfz32_6 hfz32_7
       try clear hcz33_0 hcz33_1 hcz33_2 hcz33_3 hcz33_4 hcz33_5 hcz33_6 hcz33_7 hfz33_0 hfz33_1 hfz33_2 hfz33_3 hfz33_4 hfz33_5 hfz33_6 hfz33_7
       try clear hcz49_0 hcz49_1 hcz49_2 hcz49_3 hcz49_4 hcz49_5 hcz49_6 hcz49_7 hfz49_0 hfz49_1 hfz49_2 hfz49_3 hfz49_4 hfz49_5 hfz49_6 hfz49_7
       try clear hcz50_0 hcz50_1 hcz50_2 hcz50_3 hcz50_4 hcz50_5 hcz50_6 hcz50_7 hfz50_0 hfz50_1 hfz50_2 hfz50_3 hfz50_4 hfz50_5 hfz50_6 hfz50_7
       try clear hcz53_0 hcz53_1 hcz53_2 hcz53_3 hcz53_4 hcz53_5 hcz53_6 hcz53_7 hfz53_0 hfz53_1 hfz53_2 hfz53_3 hfz53_4 hfz53_5 hfz53_6 hfz53_7
       try clear hcz54_0 hcz54_1 hcz54_2 hcz54_3 hcz54_4 hcz54_5 hcz54_6 hcz54_7 hfz54_0 hfz54_1 hfz54_2 hfz54_3 hfz54_4 hfz54_5 hfz54_6 hfz54_7
       try clear p2
       obtain ⟨kq, x58_42, rfl, HA, HJ42, HO_507004, HO_507005, HO_507006, HO_526004, HO_526005, HO_526006, BK506, BK525, HB⟩ := hcut
       cases kq with
       | zero => exact absurd HA.out (by simp [laws_FnExactGetMsg.j1])
       | succ kj42 =>
        have H := HA.out
        clear HA
        simp only [laws_FnExactGetMsg.j1] at H
        by_cases c56 : x58_42 = true
        ·subst c56
         have H1 : (some false) = some r := by rw [if_pos rfl] at H; exact H
         clear H
         have H := H1
         clear H1
         obtain rfl := Option.some.inj H
         go_wp2
         go_ret
         exact ⟨rq, bz⟩
        ·replace c56 := Bool.eq_false_iff.mpr c56
         subst c56
         have H1 : ((laws_markMsg.f kj42 t510 t511 t512 t513 t514 t517 t520 t523 1).bind fun bt534 => ((laws_heldMsg.f kj42 t510 t511 t512 t513 bt534.2.1 bt534.2.2.1 bt534.2.2.2 t523 1).bind fun t538 => (if t538 < 0 then (some false) else (if t538 = bt534.1 then ((laws_toByteS.f kj42 l0).bind fun t539 => ((impl_GetMsg.f kj42 t539).bind fun bt542 => ((laws_eqMsg.f kj42 bt542.1 bt542.2.1 bt542.2.2.1 bt542.2.2.2.1 bt542.2.2.2.2.1 bt542.2.2.2.2.2.1 bt542.2.2.2.2.2.2.1 bt542.2.2.2.2.2.2.2.1 t491 t492 t493 t494 t495 t498 t501 t504).bind fun t558 => (if t558 = true then (laws_FnExactGetMsg.j2 kj42 bt534.1 (bt542.2.2.2.2.2.2.2.2 != t505) t510 t511 t512 t513 bt534.2.1 bt534.2.2.1 bt534.2.2.2 t523) else (laws_FnExactGetMsg.j2 kj42 bt534.1 true t510 t511 t512 t513 bt534.2.1 bt534.2.2.1 bt534.2.2.2 t523))))) else (some false))))) = some r := by rw [if_neg (show ¬ (false = true) by decide)] at H; exact H
         clear H
         have H := H1
         clear H1
         replace H := Option.bind_eq_some_iff.mp H
         obtain ⟨⟨t534, t535, t536, t537⟩, A570, H⟩ := H
         try dsimp -simprocs only at H
         have A57 := Aside0.mk A570
         clear A570
         replace H := Option.bind_eq_some_iff.mp H
         obtain ⟨t538, A580, H⟩ := H
         try dsimp -simprocs only at H
         have A58 := Aside0.mk A580
         clear A580
         have HC59 := Aside0.mk H
         clear H
         have hnb60 := NB525_506.out
         have hnc60 := NB506_525.out
         obtain ⟨hcz61_0, hcz61_1, hcz61_2, hcz61_3, hcz61_4, hcz61_5, hcz61_6, hcz61_7, hfz61_0, hfz61_1, hfz61_2, hfz61_3, hfz61_4, hfz61_5, hfz61_6, hfz61_7⟩ := bc8 BK525.out
         go_upto_if 66 with (first | ((with_reducible refine gate_callee (f := 11) rfl ?_); refine goesL_ (some 61) rfl rfl Try.func11 (by kernel_rfl) rfl #[.agg #[.int .i64 t510, .int .i64 t511, .int .i64 t512, .int .i64 t513, .slice Ao22 t514.length co22, .slice Ao23 t517.length co23, .slice Ao24 t520.length co24, .string t523], .int .i64 1] rfl mt ?_; (with_reducible refine (laws_markMsg.calls kj42 t510 t511 t512 t513 (fun k_ => some k_ = (.slice Ao22 t514.length co22 : Value).ownBlock) (.slice Ao22 t514.length co22) t514 (fun k_ => some k_ = (.slice Ao23 t517.length co23 : Value).ownBlock) (.slice Ao23 t517.length co23) t517 (fun k_ => some k_ = (.slice Ao24 t520.length co24 : Value).ownBlock) (.slice Ao24 t520.length co24) t520 t523 1 t534 t535 t536 t537 w _ ?side1 ?side2 ?side3 ?side4 A57.out).mono ?_); (case side1 => repeat (first | (with_reducible first | exact HB.out | apply below_alloc | apply pw_below_drewN | apply below_drew1 | refine below_set ?_ GE506.out | refine below_set ?_ GE525.out) | exact HB.out)); (case side2 => exact Kd.R_tight rfl HO_526004.out); (case side3 => exact Kd.R_tight rfl HO_526005.out); (case side4 => exact Kd.R_tight rfl HO_526006.out); rintro e w62 ⟨rfl, hy0, hy1, hy2, hb, hkp⟩; refine ⟨_, rfl, ?_⟩; have n0_ := Aside0.mk (Kd.R_mono (ok' := fun k_ => some k_ ≠ (.slice Ao22 t514.length co22 : Value).ownBlock) (Kd.R_keptB ((Kd.R_apart' (Kd.R_apart' HO_507004.out (Kd.R_typed HO_526005.out) (by decide)) (Kd.R_typed HO_526006.out) (by decide))) hkp (fun k_ hk_ hs_ => Or.elim hs_ (fun e_ => (hk_.1.1) e_) (fun e_ => Or.elim e_ (fun e_ => (hk_.1.2) e_) (fun e_ => (hk_.2) e_)))) (fun k_ hk_ => hk_.1.1.1)); have n1_ := Aside0.mk (Kd.R_mono (ok' := fun k_ => some k_ ≠ (.slice Ao23 t517.length co23 : Value).ownBlock) (Kd.R_keptB ((Kd.R_apart' (Kd.R_apart' HO_507005.out (Kd.R_typed HO_526004.out) (by decide)) (Kd.R_typed HO_526006.out) (by decide))) hkp (fun k_ hk_ hs_ => Or.elim hs_ (fun e_ => (hk_.1.2) e_) (fun e_ => Or.elim e_ (fun e_ => (hk_.1.1) e_) (fun e_ => (hk_.2) e_)))) (fun k_ hk_ => hk_.1.1.1)); have n2_ := Aside0.mk (Kd.R_mono (ok' := fun k_ => some k_ ≠ (.slice Ao24 t520.length co24 : Value).ownBlock) (Kd.R_keptB ((Kd.R_apart' (Kd.R_apart' HO_507006.out (Kd.R_typed HO_526004.out) (by decide)) (Kd.R_typed HO_526005.out) (by decide))) hkp (fun k_ hk_ hs_ => Or.elim hs_ (fun e_ => (hk_.1.2) e_) (fun e_ => Or.elim e_ (fun e_ => (hk_.2) e_) (fun e_ => (hk_.1.1) e_)))) (fun k_ hk_ => hk_.1.1.1)); have n3_ := Aside0.mk (Kd.R_reok rfl hy0 (fun k_ e_ => HO_526004.out.1 k_ e_)); have n4_ := Aside0.mk (Kd.R_reok rfl hy1 (fun k_ e_ => HO_526005.out.1 k_ e_)); have n5_ := Aside0.mk (Kd.R_reok rfl hy2 (fun k_ e_ => HO_526006.out.1 k_ e_)); have n6_ := Aside0.mk (blk_kept (bo BK506) hkp (fun hs_ => Or.elim hs_ (fun e_ => (fun e_ => (Kd.R_ne HO_526004.out BK506.out (by decide)) e_) e_) (fun e_ => Or.elim e_ (fun e_ => (fun e_ => (Kd.R_ne HO_526005.out BK506.out (by decide)) e_) e_) (fun e_ => (fun e_ => (Kd.R_ne HO_526006.out BK506.out (by decide)) e_) e_)))); have n7_ := Aside0.mk (blk_kept (bo BK525) hkp (fun hs_ => Or.elim hs_ (fun e_ => (fun e_ => (Kd.R_ne HO_526004.out BK525.out (by decide)) e_) e_) (fun e_ => Or.elim e_ (fun e_ => (fun e_ => (Kd.R_ne HO_526005.out BK525.out (by decide)) e_) e_) (fun e_ => (fun e_ => (Kd.R_ne HO_526006.out BK525.out (by decide)) e_) e_)))); have n8_ := Aside0.mk (hb); clear HO_507004; clear HO_507005; clear HO_507006; clear HO_526004; clear HO_526005; clear HO_526006; clear BK506; clear BK525; clear HB; have HO_507004 := n0_; have HO_507005 := n1_; have HO_507006 := n2_; have HO_526004 := n3_; have HO_526005 := n4_; have HO_526006 := n5_; have BK506 := n6_; have BK525 := n7_; have HB := n8_; clear n0_ n1_ n2_ n3_ n4_ n5_ n6_ n7_ n8_; (try clear hb); (try clear hkp); (try clear hy0); (try clear hy1); (try clear hy2); obtain ⟨hcz63_0, hcz63_1, hcz63_2, hcz63_3, hcz63_4, hcz63_5, hcz63_6, hcz63_7, hfz63_0, hfz63_1, hfz63_2, hfz63_3, hfz63_4, hfz63_5, hfz63_6, hfz63_7⟩ := bc8 BK525.out) | ((with_reducible refine gate_callee (f := 12) rfl ?_); refine goesL_ (some 64) rfl rfl Try.func12 (by kernel_rfl) rfl #[.agg #[.int .i64 t510, .int .i64 t511, .int .i64 t512, .int .i64 t513, .slice Ao22 t535.length co22, .slice Ao23 t536.length co23, .slice Ao24 t537.length co24, .string t523], .int .i64 1] rfl (by (try simp only [List.map_toArray, List.map_cons, List.map_nil]); first | done | (rw [show t535.length = t514.length from (Kd.R_reads' HO_526004.out).1.symm, show t536.length = t517.length from (Kd.R_reads' HO_526005.out).1.symm, show t537.length = t520.length from (Kd.R_reads' HO_526006.out).1.symm] <;> rfl) | rfl | (simp only [List.length_drop, List.length_take]; rfl)) ?_; (with_reducible refine (laws_heldMsg.calls kj42 t510 t511 t512 t513 _ _ t535 _ _ t536 _ _ t537 t523 1 t538 _ ?side1 ?side2 ?side3 ?side4 ?side5 ?side6 A58.out).mono ?_); (case side1 => repeat (first | exact (Kd.R_reads' HO_526004.out).2.2 | (with_reducible refine Kd.C_alloc ?_ _) | (with_reducible refine Kd.C_drewN ?_ _) | (with_reducible refine Kd.C_drew ?_))); (case side2 => rw [show t535.length = t514.length from (Kd.R_reads' HO_526004.out).1.symm]; exact (Kd.R_reads' HO_526004.out).2.1); (case side3 => repeat (first | exact (Kd.R_reads' HO_526005.out).2.2 | (with_reducible refine Kd.C_alloc ?_ _) | (with_reducible refine Kd.C_drewN ?_ _) | (with_reducible refine Kd.C_drew ?_))); (case side4 => rw [show t536.length = t517.length from (Kd.R_reads' HO_526005.out).1.symm]; exact (Kd.R_reads' HO_526005.out).2.1); (case side5 => repeat (first | exact (Kd.R_reads' HO_526006.out).2.2 | (with_reducible refine Kd.C_alloc ?_ _) | (with_reducible refine Kd.C_drewN ?_ _) | (with_reducible refine Kd.C_drew ?_))); (case side6 => rw [show t537.length = t520.length from (Kd.R_reads' HO_526006.out).1.symm]; exact (Kd.R_reads' HO_526006.out).2.1); rintro e w64 ⟨rfl, hb⟩; refine ⟨_, rfl, ?_⟩; have n0_ := Aside0.mk (Kd.R_below (by refine rs ?_; exact HO_507004.out) hb); have n1_ := Aside0.mk (Kd.R_below (by refine rs ?_; exact HO_507005.out) hb); have n2_ := Aside0.mk (Kd.R_below (by refine rs ?_; exact HO_507006.out) hb); have n3_ := Aside0.mk (Kd.R_below (by refine rs ?_; exact HO_526004.out) hb); have n4_ := Aside0.mk (Kd.R_below (by refine rs ?_; exact HO_526005.out) hb); have n5_ := Aside0.mk (Kd.R_below (by refine rs ?_; exact HO_526006.out) hb); have n6_ := Aside0.mk (blk_below (bo BK506) hb); have n7_ := Aside0.mk (blk_below (bo BK525) hb); have n8_ := Aside0.mk (below_step bz hb); clear HO_507004; clear HO_507005; clear HO_507006; clear HO_526004; clear HO_526005; clear HO_526006; clear BK506; clear BK525; clear HB; have HO_507004 := n0_; have HO_507005 := n1_; have HO_507006 := n2_; have HO_526004 := n3_; have HO_526005 := n4_; have HO_526006 := n5_; have BK506 := n6_; have BK525 := n7_; have HB := n8_; clear n0_ n1_ n2_ n3_ n4_ n5_ n6_ n7_ n8_; (try clear hb); (try clear hb2); (try clear hk); (try clear hi)))
         (try simp only [Act.put, List.setIfInBounds_toArray, List.set_cons_zero, List.set_cons_succ])
         have H := HC59.out
         clear HC59
         by_cases c65 : t538 < 0
         ·rw [if_pos c65] at H
          have c65b0 : decide (t538 < 0) = true := decide_eq_true c65
          clear c65
          (first | rw [c65b0] | (simp only [i64_w, i32_w]; rw [c65b0]) | skip)
          obtain rfl := Option.some.inj H
          go_wp2
          go_ret
          exact ⟨rq, bz⟩
         ·rw [if_neg c65] at H
          have c65b0 : decide (t538 < 0) = false := decide_eq_false c65
          clear c65
          (first | rw [c65b0] | (simp only [i64_w, i32_w]; rw [c65b0]) | skip)
          by_cases c66 : t538 = t534
          ·rw [if_pos c66] at H
           have c66b0 : (t538 == t534) = true := beq_iff_eq.mpr c66
           have c66b1 : (t538 != t534) = false := bne_eq_false_iff_eq.mpr c66
           clear c66
           replace H := Option.bind_eq_some_iff.mp H
           obtain ⟨t539, A670, H⟩ := H
           try dsimp -simprocs only at H
           have A67 := Aside0.mk A670
           clear A670
           replace H := Option.bind_eq_some_iff.mp H
           obtain ⟨⟨t542, t543, t544, t545, t546, t549, t552, t555, t556⟩, A680, H⟩ := H
           try dsimp -simprocs only at H
           have A68 := Aside0.mk A680
           clear A680
           have HC69 := Aside0.mk H
           clear H
           go_upto_region 23 with (first | ((with_reducible refine gate_callee (f := 6) rfl ?_); refine goesL_ (some 72) rfl rfl Try.func6 (by kernel_rfl) rfl #[.slice A0 l0.length c0] rfl mt ?_; (with_reducible refine (laws_toByteS.calls kj42 _ _ l0 t539 _ ?side1 ?side2 A67.out).mono ?_); (case side1 => exact cz HR0); (case side2 => exact HC0.out); rintro e w70 ⟨v540, rfl, ho0, hb⟩; refine ⟨_, rfl, ?_⟩; have n0_ := Aside0.mk (Kd.R_below (by refine rs ?_; exact HO_507004.out) hb); have n1_ := Aside0.mk (Kd.R_below (by refine rs ?_; exact HO_507005.out) hb); have n2_ := Aside0.mk (Kd.R_below (by refine rs ?_; exact HO_507006.out) hb); have n3_ := Aside0.mk (Kd.R_below (by refine rs ?_; exact HO_526004.out) hb); have n4_ := Aside0.mk (Kd.R_below (by refine rs ?_; exact HO_526005.out) hb); have n5_ := Aside0.mk (Kd.R_below (by refine rs ?_; exact HO_526006.out) hb); have n6_ := Aside0.mk (Kd.R_lower ho0 (below_size bz)); have n7_ := Aside0.mk (blk_below (bo BK506) hb); have n8_ := Aside0.mk (blk_below (bo BK525) hb); have n9_ := Aside0.mk (below_step bz hb); clear HO_507004; clear HO_507005; clear HO_507006; clear HO_526004; clear HO_526005; clear HO_526006; clear BK506; clear BK525; clear HB; have HO_507004 := n0_; have HO_507005 := n1_; have HO_507006 := n2_; have HO_526004 := n3_; have HO_526005 := n4_; have HO_526006 := n5_; have HO541 := n6_; have BK506 := n7_; have BK525 := n8_; have HB := n9_; clear n0_ n1_ n2_ n3_ n4_ n5_ n6_ n7_ n8_ n9_; (try clear hb); (try clear hb2); (try clear hk); (try clear hi); (try clear ho0); obtain ⟨Ao71, co71, eo71⟩ := Kd.R_slice HO541.out; subst eo71) | ((with_reducible refine gate_callee (f := 7) rfl ?_); refine goesL_ (some 73) rfl rfl Try.func7 (by kernel_rfl) rfl #[.slice Ao71 t539.length co71] rfl mt ?_; (with_reducible refine (impl_GetMsg.calls kj42 _ _ t539 t542 t543 t544 t545 t546 t549 t552 t555 t556 _ ?side1 ?side2 A68.out).mono ?_); (case side1 => repeat (first | exact (Kd.R_reads' HO541.out).2.2 | (with_reducible refine Kd.C_alloc ?_ _) | (with_reducible refine Kd.C_drewN ?_ _) | (with_reducible refine Kd.C_drew ?_))); (case side2 => exact (Kd.R_reads' HO541.out).2.1); rintro e w72 ⟨v547, v550, v553, rfl, ho0, ho1, ho2, hb⟩; refine ⟨_, rfl, ?_⟩; have n0_ := Aside0.mk (Kd.R_elder' (by refine rs ?_; exact HO_507004.out) (Kd.R_base ho0) hb); have n1_ := Aside0.mk (Kd.R_elder' (by refine rs ?_; exact HO_507005.out) (Kd.R_base ho1) hb); have n2_ := Aside0.mk (Kd.R_elder' (by refine rs ?_; exact HO_507006.out) (Kd.R_base ho2) hb); have n3_ := Aside0.mk (Kd.R_elder' (by refine rs ?_; exact HO_526004.out) (Kd.R_base ho0) hb); have n4_ := Aside0.mk (Kd.R_elder' (by refine rs ?_; exact HO_526005.out) (Kd.R_base ho1) hb); have n5_ := Aside0.mk (Kd.R_elder' (by refine rs ?_; exact HO_526006.out) (Kd.R_base ho2) hb); have n6_ := Aside0.mk (Kd.R_below (by refine rs ?_; exact HO541.out) hb); have n7_ := Aside0.mk (Kd.R_lower (Kd.R_new' (Kd.R_new' ho0 (Kd.R_lt (by refine rs ?_; exact HO_507004.out))) (Kd.R_lt (by refine rs ?_; exact HO_526004.out))) (below_size bz)); have n8_ := Aside0.mk (Kd.R_lower (Kd.R_new' (Kd.R_new' ho1 (Kd.R_lt (by refine rs ?_; exact HO_507005.out))) (Kd.R_lt (by refine rs ?_; exact HO_526005.out))) (below_size bz)); have n9_ := Aside0.mk (Kd.R_lower (Kd.R_new' (Kd.R_new' ho2 (Kd.R_lt (by refine rs ?_; exact HO_507006.out))) (Kd.R_lt (by refine rs ?_; exact HO_526006.out))) (below_size bz)); have n10_ := Aside0.mk (blk_below (bo BK506) hb); have n11_ := Aside0.mk (blk_below (bo BK525) hb); have n12_ := Aside0.mk (below_step bz hb); clear HO_507004; clear HO_507005; clear HO_507006; clear HO_526004; clear HO_526005; clear HO_526006; clear HO541; clear BK506; clear BK525; clear HB; have HO_507004 := n0_; have HO_507005 := n1_; have HO_507006 := n2_; have HO_526004 := n3_; have HO_526005 := n4_; have HO_526006 := n5_; have HO541 := n6_; have HO548 := n7_; have HO551 := n8_; have HO554 := n9_; have BK506 := n10_; have BK525 := n11_; have HB := n12_; clear n0_ n1_ n2_ n3_ n4_ n5_ n6_ n7_ n8_ n9_ n10_ n11_ n12_; (try clear hb); (try clear hb2); (try clear hk); (try clear hi); (try clear ho0); (try clear ho1); (try clear ho2)) | ((with_reducible refine gate_dst (N := 11) rfl ?_); refine box_event ?hg (N := 11) ?hd (cs := #[.int .i64 0, .int .i64 0, .int .i64 0, .int .i64 0, .slice none 0 0, .slice none 0 0, .slice none 0 0, .string (⟨#[]⟩ : ByteArray)]) (t := 29) ?hr ?_; (case hd => rfl); (case hg => rfl); (case hr => first | (go_simp; done) | (go_simp; rfl)); intro gb557 hg w73 hbox hb; have n0_ := Aside0.mk (Kd.R_below (by refine rs ?_; exact HO_507004.out) hb); have n1_ := Aside0.mk (Kd.R_below (by refine rs ?_; exact HO_507005.out) hb); have n2_ := Aside0.mk (Kd.R_below (by refine rs ?_; exact HO_507006.out) hb); have n3_ := Aside0.mk (Kd.R_below (by refine rs ?_; exact HO_526004.out) hb); have n4_ := Aside0.mk (Kd.R_below (by refine rs ?_; exact HO_526005.out) hb); have n5_ := Aside0.mk (Kd.R_below (by refine rs ?_; exact HO_526006.out) hb); have n6_ := Aside0.mk (Kd.R_below (by refine rs ?_; exact HO541.out) hb); have n7_ := Aside0.mk (Kd.R_below (by refine rs ?_; exact HO548.out) hb); have n8_ := Aside0.mk (Kd.R_below (by refine rs ?_; exact HO551.out) hb); have n9_ := Aside0.mk (Kd.R_below (by refine rs ?_; exact HO554.out) hb); have n10_ := Aside0.mk (blk_below (bo BK506) hb); have n11_ := Aside0.mk (blk_below (bo BK525) hb); have n12_ := Aside0.mk (below_step bz hb); have n13_ := Aside0.mk (hbox); have n14_ := Aside0.mk (bg : w.heap.size ≤ gb557); have n15_ := Aside0.mk (bg : w.heap.size ≤ gb557); have n16_ := Aside0.mk ((by rw [hg]; exact Nat.ne_of_lt (blk_lt (bo BK506)) : gb506 ≠ gb557)); have n17_ := Aside0.mk ((by rw [hg]; exact Nat.ne_of_gt (blk_lt (bo BK506)) : gb557 ≠ gb506)); have n18_ := Aside0.mk ((by rw [hg]; exact Nat.ne_of_lt (blk_lt (bo BK525)) : gb525 ≠ gb557)); have n19_ := Aside0.mk ((by rw [hg]; exact Nat.ne_of_gt (blk_lt (bo BK525)) : gb557 ≠ gb525)); clear HO_507004; clear HO_507005; clear HO_507006; clear HO_526004; clear HO_526005; clear HO_526006; clear HO541; clear HO548; clear HO551; clear HO554; clear BK506; clear BK525; clear HB; have HO_507004 := n0_; have HO_507005 := n1_; have HO_507006 := n2_; have HO_526004 := n3_; have HO_526005 := n4_; have HO_526006 := n5_; have HO541 := n6_; have HO548 := n7_; have HO551 := n8_; have HO554 := n9_; have BK506 := n10_; have BK525 := n11_; have HB := n12_; have BK557 := n13_; have GW557 := n14_; have GE557 := n15_; have NB506_557 := n16_; have NB557_506 := n17_; have NB525_557 := n18_; have NB557_525 := n19_; clear n0_ n1_ n2_ n3_ n4_ n5_ n6_ n7_ n8_ n9_ n10_ n11_ n12_ n13_ n14_ n15_ n16_ n17_ n18_ n19_; clear hb hbox hg; have hnb74 := NB557_506.out; have hnc74 := NB506_557.out; have hnb75 := NB557_525.out; have hnc75 := NB525_557.out; obtain ⟨hcz76_0, hcz76_1, hcz76_2, hcz76_3, hcz76_4, hcz76_5, hcz76_6, hcz76_7, hfz76_0, hfz76_1, hfz76_2, hfz76_3, hfz76_4, hfz76_5, hfz76_6, hfz76_7⟩ := bc8 BK557.out; obtain ⟨Ao77, co77, eo77⟩ := Kd.R_slice HO548.out; subst eo77; obtain ⟨Ao78, co78, eo78⟩ := Kd.R_slice HO551.out; subst eo78; obtain ⟨Ao79, co79, eo79⟩ := Kd.R_slice HO554.out; subst eo79))
           (try simp only [Act.put, List.setIfInBounds_toArray, List.set_cons_zero, List.set_cons_succ])
           go_cut [84] (fun v84 wc => ∃ (kq : Nat) (x84_68 : Bool), v84 = .bool x84_68 ∧ Aside0 (laws_FnExactGetMsg.j2 kq t534 x84_68 t510 t511 t512 t513 t535 t536 t537 t523 = some r) ∧ Aside0 (kq ≤ kj42) ∧ Aside0 (Kd.R (Kd.int .u32) 60 wc w.heap.size (fun k_ => some k_ ≠ ((.slice Ao22 t514.length co22) : Value).ownBlock ∧ some k_ ≠ ((.slice Ao77 t546.length co77) : Value).ownBlock) (.slice Ao13 t495.length co13) t495) ∧ Aside0 (Kd.R Kd.string 9 wc w.heap.size (fun k_ => some k_ ≠ ((.slice Ao23 t517.length co23) : Value).ownBlock ∧ some k_ ≠ ((.slice Ao78 t549.length co78) : Value).ownBlock) (.slice Ao14 t498.length co14) t498) ∧ Aside0 (Kd.R k72 72 wc w.heap.size (fun k_ => some k_ ≠ ((.slice Ao24 t520.length co24) : Value).ownBlock ∧ some k_ ≠ ((.slice Ao79 t552.length co79) : Value).ownBlock) (.slice Ao15 t501.length co15) t501) ∧ Aside0 (Kd.R (Kd.int .u32) 60 wc w.heap.size (fun k_ => some k_ ≠ ((.slice Ao13 t495.length co13) : Value).ownBlock ∧ some k_ ≠ ((.slice Ao77 t546.length co77) : Value).ownBlock) (.slice Ao22 t514.length co22) t535) ∧ Aside0 (Kd.R Kd.string 9 wc w.heap.size (fun k_ => some k_ ≠ ((.slice Ao14 t498.length co14) : Value).ownBlock ∧ some k_ ≠ ((.slice Ao78 t549.length co78) : Value).ownBlock) (.slice Ao23 t517.length co23) t536) ∧ Aside0 (Kd.R k72 72 wc w.heap.size (fun k_ => some k_ ≠ ((.slice Ao15 t501.length co15) : Value).ownBlock ∧ some k_ ≠ ((.slice Ao79 t552.length co79) : Value).ownBlock) (.slice Ao24 t520.length co24) t537) ∧ Aside0 (Kd.R (Kd.int .u32) 60 wc w.heap.size (fun k_ => some k_ ≠ ((.slice Ao13 t495.length co13) : Value).ownBlock ∧ some k_ ≠ ((.slice Ao22 t514.length co22) : Value).ownBlock) (.slice Ao77 t546.length co77) t546) ∧ Aside0 (Kd.R Kd.string 9 wc w.heap.size (fun k_ => some k_ ≠ ((.slice Ao14 t498.length co14) : Value).ownBlock ∧ some k_ ≠ ((.slice Ao23 t517.length co23) : Value).ownBlock) (.slice Ao78 t549.length co78) t549) ∧ Aside0 (Kd.R k72 72 wc w.heap.size (fun k_ => some k_ ≠ ((.slice Ao15 t501.length co15) : Value).ownBlock ∧ some k_ ≠ ((.slice Ao24 t520.length co24) : Value).ownBlock) (.slice Ao79 t552.length co79) t552) ∧ Aside0 (wc.heap[gb506]? = some (.cells #[.int .i64 t491, .int .i64 t492, .int .i64 t493, .int .i64 t494, (.slice Ao13 t495.length co13), (.slice Ao14 t498.length co14), (.slice Ao15 t501.length co15), .string t504] 29 (0, 0))) ∧ Aside0 (wc.heap[gb525]? = some (.cells #[.int .i64 t510, .int .i64 t511, .int .i64 t512, .int .i64 t513, (.slice Ao22 t514.length co22), (.slice Ao23 t517.length co23), (.slice Ao24 t520.length co24), .string t523] 29 (0, 0))) ∧ Aside0 (wc.heap[gb557]? = some (.cells #[.int .i64 t542, .int .i64 t543, .int .i64 t544, .int .i64 t545, (.slice Ao77 t546.length co77), (.slice Ao78 t549.length co78), (.slice Ao79 t552.length co79), .string t555] 29 (0, 0))) ∧ Aside0 (Below w.heap.size w wc))
           case first =>
            have H := HC69.out
            clear HC69
            replace H := Option.bind_eq_some_iff.mp H
            obtain ⟨t558, A800, H⟩ := H
            try dsimp -simprocs only at H
            have A80 := Aside0.mk A800
            clear A800
            by_cases c81 : t558 = true
            ·subst c81
             have H1 : (laws_FnExactGetMsg.j2 kj42 t534 (t556 != t505) t510 t511 t512 t513 t535 t536 t537 t523) = some r := by rw [if_pos rfl] at H; exact H
             clear H
             have H := H1
             clear H1
             have H' := Aside0.mk H
             clear H
             have hnb82 := NB557_506.out
             have hnc82 := NB506_557.out
             have hnb83 := NB557_525.out
             have hnc83 := NB525_557.out
             obtain ⟨hcz84_0, hcz84_1, hcz84_2, hcz84_3, hcz84_4, hcz84_5, hcz84_6, hcz84_7, hfz84_0, hfz84_1, hfz84_2, hfz84_3, hfz84_4, hfz84_5, hfz84_6, hfz84_7⟩ := bc8 BK557.out
             have hnb85 := NB506_525.out
             have hnc85 := NB525_506.out
             obtain ⟨hcz86_0, hcz86_1, hcz86_2, hcz86_3, hcz86_4, hcz86_5, hcz86_6, hcz86_7, hfz86_0, hfz86_1, hfz86_2, hfz86_3, hfz86_4, hfz86_5, hfz86_6, hfz86_7⟩ := bc8 BK506.out
             go_wp2_with (first | ((with_reducible refine gate_callee (f := 8) rfl ?_); refine goesL_ (some 78) rfl rfl Try.func8 (by kernel_rfl) rfl #[.agg #[.int .i64 t542, .int .i64 t543, .int .i64 t544, .int .i64 t545, .slice Ao77 t546.length co77, .slice Ao78 t549.length co78, .slice Ao79 t552.length co79, .string t555], .agg #[.int .i64 t491, .int .i64 t492, .int .i64 t493, .int .i64 t494, .slice Ao13 t495.length co13, .slice Ao14 t498.length co14, .slice Ao15 t501.length co15, .string t504]] rfl mt ?_; (with_reducible refine (laws_eqMsg.calls kj42 t542 t543 t544 t545 _ _ t546 _ _ t549 _ _ t552 t555 t491 t492 t493 t494 _ _ t495 _ _ t498 _ _ t501 t504 true _ ?side1 ?side2 ?side3 ?side4 ?side5 ?side6 ?side7 ?side8 ?side9 ?side10 ?side11 ?side12 A80.out).mono ?_); (case side1 => refine (Kd.R_reads' (e := 60) (base := w.heap.size) (ok := fun k_ => ((True ∧ some k_ ≠ (.slice Ao13 t495.length co13 : Value).ownBlock) ∧ some k_ ≠ (.slice Ao22 t514.length co22 : Value).ownBlock)) (n := t546.length) (c := co77) ?_).2.2; exact (by refine rs ?_; exact (Kd.R_mono (Kd.rf (Kd.rf (Kd.rf (Kd.rf (Kd.rf (Kd.rf (Kd.rf (Kd.rf (Kd.R_types HO548.out BK557.out (by decide)))))))))) (fun _ h_ => h_.1)))); (case side2 => exact (Kd.R_reads' HO548.out).2.1); (case side3 => refine (Kd.R_reads' (e := 9) (base := w.heap.size) (ok := fun k_ => ((True ∧ some k_ ≠ (.slice Ao14 t498.length co14 : Value).ownBlock) ∧ some k_ ≠ (.slice Ao23 t517.length co23 : Value).ownBlock)) (n := t549.length) (c := co78) ?_).2.2; exact (by refine rs ?_; exact (Kd.R_mono (Kd.rf (Kd.rf (Kd.rf (Kd.rf (Kd.rf (Kd.rf (Kd.rf (Kd.rf (Kd.R_types HO551.out BK557.out (by decide)))))))))) (fun _ h_ => h_.1)))); (case side4 => exact (Kd.R_reads' HO551.out).2.1); (case side5 => refine (Kd.R_reads' (e := 72) (base := w.heap.size) (ok := fun k_ => ((True ∧ some k_ ≠ (.slice Ao15 t501.length co15 : Value).ownBlock) ∧ some k_ ≠ (.slice Ao24 t520.length co24 : Value).ownBlock)) (n := t552.length) (c := co79) ?_).2.2; exact (by refine rs ?_; exact (Kd.R_mono (Kd.rf (Kd.rf (Kd.rf (Kd.rf (Kd.rf (Kd.rf (Kd.rf (Kd.rf (Kd.R_types HO554.out BK557.out (by decide)))))))))) (fun _ h_ => h_.1)))); (case side6 => exact (Kd.R_reads' HO554.out).2.1); (case side7 => refine (Kd.R_reads' (e := 60) (base := w.heap.size) (ok := fun k_ => (some k_ ≠ (.slice Ao22 t514.length co22 : Value).ownBlock ∧ some k_ ≠ (.slice Ao77 t546.length co77 : Value).ownBlock)) (n := t495.length) (c := co13) ?_).2.2; exact (by refine rs ?_; exact (Kd.R_mono (Kd.rf (Kd.rf (Kd.rf (Kd.rf (Kd.rf (Kd.rf (Kd.rf (Kd.rf (Kd.R_types HO_507004.out BK557.out (by decide)))))))))) (fun _ h_ => h_.1)))); (case side8 => exact (Kd.R_reads' HO_507004.out).2.1); (case side9 => refine (Kd.R_reads' (e := 9) (base := w.heap.size) (ok := fun k_ => (some k_ ≠ (.slice Ao23 t517.length co23 : Value).ownBlock ∧ some k_ ≠ (.slice Ao78 t549.length co78 : Value).ownBlock)) (n := t498.length) (c := co14) ?_).2.2; exact (by refine rs ?_; exact (Kd.R_mono (Kd.rf (Kd.rf (Kd.rf (Kd.rf (Kd.rf (Kd.rf (Kd.rf (Kd.rf (Kd.R_types HO_507005.out BK557.out (by decide)))))))))) (fun _ h_ => h_.1)))); (case side10 => exact (Kd.R_reads' HO_507005.out).2.1); (case side11 => refine (Kd.R_reads' (e := 72) (base := w.heap.size) (ok := fun k_ => (some k_ ≠ (.slice Ao24 t520.length co24 : Value).ownBlock ∧ some k_ ≠ (.slice Ao79 t552.length co79 : Value).ownBlock)) (n := t501.length) (c := co15) ?_).2.2; exact (by refine rs ?_; exact (Kd.R_mono (Kd.rf (Kd.rf (Kd.rf (Kd.rf (Kd.rf (Kd.rf (Kd.rf (Kd.rf (Kd.R_types HO_507006.out BK557.out (by decide)))))))))) (fun _ h_ => h_.1)))); (case side12 => exact (Kd.R_reads' HO_507006.out).2.1); rintro e w87 ⟨rfl, hb⟩; refine ⟨_, rfl, ?_⟩; have n0_ := Aside0.mk (Kd.R_below (by refine rs ?_; exact (Kd.R_mono (Kd.rf (Kd.rf (Kd.rf (Kd.rf (Kd.rf (Kd.rf (Kd.rf (Kd.rf (Kd.R_types HO_507004.out BK557.out (by decide)))))))))) (fun _ h_ => h_.1))) hb); have n1_ := Aside0.mk (Kd.R_below (by refine rs ?_; exact (Kd.R_mono (Kd.rf (Kd.rf (Kd.rf (Kd.rf (Kd.rf (Kd.rf (Kd.rf (Kd.rf (Kd.R_types HO_507005.out BK557.out (by decide)))))))))) (fun _ h_ => h_.1))) hb); have n2_ := Aside0.mk (Kd.R_below (by refine rs ?_; exact (Kd.R_mono (Kd.rf (Kd.rf (Kd.rf (Kd.rf (Kd.rf (Kd.rf (Kd.rf (Kd.rf (Kd.R_types HO_507006.out BK557.out (by decide)))))))))) (fun _ h_ => h_.1))) hb); have n3_ := Aside0.mk (Kd.R_below (by refine rs ?_; exact (Kd.R_mono (Kd.rf (Kd.rf (Kd.rf (Kd.rf (Kd.rf (Kd.rf (Kd.rf (Kd.rf (Kd.R_types HO_526004.out BK557.out (by decide)))))))))) (fun _ h_ => h_.1))) hb); have n4_ := Aside0.mk (Kd.R_below (by refine rs ?_; exact (Kd.R_mono (Kd.rf (Kd.rf (Kd.rf (Kd.rf (Kd.rf (Kd.rf (Kd.rf (Kd.rf (Kd.R_types HO_526005.out BK557.out (by decide)))))))))) (fun _ h_ => h_.1))) hb); have n5_ := Aside0.mk (Kd.R_below (by refine rs ?_; exact (Kd.R_mono (Kd.rf (Kd.rf (Kd.rf (Kd.rf (Kd.rf (Kd.rf (Kd.rf (Kd.rf (Kd.R_types HO_526006.out BK557.out (by decide)))))))))) (fun _ h_ => h_.1))) hb); have n6_ := Aside0.mk (Kd.R_below (by refine rs ?_; exact (Kd.R_mono (Kd.rf (Kd.rf (Kd.rf (Kd.rf (Kd.rf (Kd.rf (Kd.rf (Kd.rf (Kd.R_types HO541.out BK557.out (by decide)))))))))) (fun _ h_ => h_.1))) hb); have n7_ := Aside0.mk (Kd.R_below (by refine rs ?_; exact (Kd.R_mono (Kd.rf (Kd.rf (Kd.rf (Kd.rf (Kd.rf (Kd.rf (Kd.rf (Kd.rf (Kd.R_types HO548.out BK557.out (by decide)))))))))) (fun _ h_ => h_.1))) hb); have n8_ := Aside0.mk (Kd.R_below (by refine rs ?_; exact (Kd.R_mono (Kd.rf (Kd.rf (Kd.rf (Kd.rf (Kd.rf (Kd.rf (Kd.rf (Kd.rf (Kd.R_types HO551.out BK557.out (by decide)))))))))) (fun _ h_ => h_.1))) hb); have n9_ := Aside0.mk (Kd.R_below (by refine rs ?_; exact (Kd.R_mono (Kd.rf (Kd.rf (Kd.rf (Kd.rf (Kd.rf (Kd.rf (Kd.rf (Kd.rf (Kd.R_types HO554.out BK557.out (by decide)))))))))) (fun _ h_ => h_.1))) hb); have n10_ := Aside0.mk (blk_below (bo BK506) hb); have n11_ := Aside0.mk (blk_below (bo BK525) hb); have n12_ := Aside0.mk (blk_below (g := gb557) (o := .cells #[.int .i64 t542, .int .i64 t543, .int .i64 t544, .int .i64 t545, .slice Ao77 t546.length co77, .slice Ao78 t549.length co78, .slice Ao79 t552.length co79, .string t555] 29 (0, 0)) bk hb); have n13_ := Aside0.mk (below_step bz hb); clear HO_507004; clear HO_507005; clear HO_507006; clear HO_526004; clear HO_526005; clear HO_526006; clear HO541; clear HO548; clear HO551; clear HO554; clear BK506; clear BK525; clear BK557; clear HB; have HO_507004 := n0_; have HO_507005 := n1_; have HO_507006 := n2_; have HO_526004 := n3_; have HO_526005 := n4_; have HO_526006 := n5_; have HO541 := n6_; have HO548 := n7_; have HO551 := n8_; have HO554 := n9_; have BK506 := n10_; have BK525 := n11_; have BK557 := n12_; have HB := n13_; clear n0_ n1_ n2_ n3_ n4_ n5_ n6_ n7_ n8_ n9_ n10_ n11_ n12_ n13_; (try clear hb); (try clear hb2); (try clear hk); (try clear hi)))
             go_meet
             case rel => exact ⟨_, ((t556 != t505)), sd, H', ⟨by have := HJ6.out; have := HJ42.out; first | omega | exact Nat.le_refl _⟩, ⟨by refine rs ?_; exact HO_507004.out⟩, ⟨by refine rs ?_; exact HO_507005.out⟩, ⟨by refine rs ?_; exact HO_507006.out⟩, ⟨by refine rs ?_; exact HO_526004.out⟩, ⟨by refine rs ?_; exact HO_526005.out⟩, ⟨by refine rs ?_; exact HO_526006.out⟩, ⟨by refine rs ?_; exact Kd.R_mono HO548.out (fun _ hk => ⟨hk.1.2, hk.2⟩)⟩, ⟨by refine rs ?_; exact Kd.R_mono HO551.out (fun _ hk => ⟨hk.1.2, hk.2⟩)⟩, ⟨by refine rs ?_; exact Kd.R_mono HO554.out (fun _ hk => ⟨hk.1.2, hk.2⟩)⟩, ⟨(bo BK506)⟩, ⟨(bo BK525)⟩, ⟨(bo BK557)⟩, ⟨bz⟩⟩
            ·replace c81 := Bool.eq_false_iff.mpr c81
             subst c81
             have H1 : (laws_FnExactGetMsg.j2 kj42 t534 true t510 t511 t512 t513 t535 t536 t537 t523) = some r := by rw [if_neg (show ¬ (false = true) by decide)] at H; exact H
             clear H
             have H := H1
             clear H1
             have H' := Aside0.mk H
             clear H
             have hnb88 := NB557_506.out
             have hnc88 := NB506_557.out
             have hnb89 := NB557_525.out
             have hnc89 := NB525_557.out
             obtain ⟨hcz90_0, hcz90_1, hcz90_2, hcz90_3, hcz90_4, hcz90_5, hcz90_6, hcz90_7, hfz90_0, hfz90_1, hfz90_2, hfz90_3, hfz90_4, hfz90_5, hfz90_6, hfz90_7⟩ := bc8 BK557.out
             have hnb91 := NB506_525.out
             have hnc91 := NB525_506.out
             obtain ⟨hcz92_0, hcz92_1, hcz92_2, hcz92_3, hcz92_4, hcz92_5, hcz92_6, hcz92_7, hfz92_0, hfz92_1, hfz92_2, hfz92_3, hfz92_4, hfz92_5, hfz92_6, hfz92_7⟩ := bc8 BK506.out
             go_wp2_with (first | ((with_reducible refine gate_callee (f := 8) rfl ?_); refine goesL_ (some 78) rfl rfl Try.func8 (by kernel_rfl) rfl #[.agg #[.int .i64 t542, .int .i64 t543, .int .i64 t544, .int .i64 t545, .slice Ao77 t546.length co77, .slice Ao78 t549.length co78, .slice Ao79 t552.length co79, .string t555], .agg #[.int .i64 t491, .int .i64 t492, .int .i64 t493, .int .i64 t494, .slice Ao13 t495.length co13, .slice Ao14 t498.length co14, .slice Ao15 t501.length co15, .string t504]] rfl mt ?_; (with_reducible refine (laws_eqMsg.calls kj42 t542 t543 t544 t545 _ _ t546 _ _ t549 _ _ t552 t555 t491 t492 t493 t494 _ _ t495 _ _ t498 _ _ t501 t504 false _ ?side1 ?side2 ?side3 ?side4 ?side5 ?side6 ?side7 ?side8 ?side9 ?side10 ?side11 ?side12 A80.out).mono ?_); (case side1 => refine (Kd.R_reads' (e := 60) (base := w.heap.size) (ok := fun k_ => ((True ∧ some k_ ≠ (.slice Ao13 t495.length co13 : Value).ownBlock) ∧ some k_ ≠ (.slice Ao22 t514.length co22 : Value).ownBlock)) (n := t546.length) (c := co77) ?_).2.2; exact (by refine rs ?_; exact (Kd.R_mono (Kd.rf (Kd.rf (Kd.rf (Kd.rf (Kd.rf (Kd.rf (Kd.rf (Kd.rf (Kd.R_types HO548.out BK557.out (by decide)))))))))) (fun _ h_ => h_.1)))); (case side2 => exact (Kd.R_reads' HO548.out).2.1); (case side3 => refine (Kd.R_reads' (e := 9) (base := w.heap.size) (ok := fun k_ => ((True ∧ some k_ ≠ (.slice Ao14 t498.length co14 : Value).ownBlock) ∧ some k_ ≠ (.slice Ao23 t517.length co23 : Value).ownBlock)) (n := t549.length) (c := co78) ?_).2.2; exact (by refine rs ?_; exact (Kd.R_mono (Kd.rf (Kd.rf (Kd.rf (Kd.rf (Kd.rf (Kd.rf (Kd.rf (Kd.rf (Kd.R_types HO551.out BK557.out (by decide)))))))))) (fun _ h_ => h_.1)))); (case side4 => exact (Kd.R_reads' HO551.out).2.1); (case side5 => refine (Kd.R_reads' (e := 72) (base := w.heap.size) (ok := fun k_ => ((True ∧ some k_ ≠ (.slice Ao15 t501.length co15 : Value).ownBlock) ∧ some k_ ≠ (.slice Ao24 t520.length co24 : Value).ownBlock)) (n := t552.length) (c := co79) ?_).2.2; exact (by refine rs ?_; exact (Kd.R_mono (Kd.rf (Kd.rf (Kd.rf (Kd.rf (Kd.rf (Kd.rf (Kd.rf (Kd.rf (Kd.R_types HO554.out BK557.out (by decide)))))))))) (fun _ h_ => h_.1)))); (case side6 => exact (Kd.R_reads' HO554.out).2.1); (case side7 => refine (Kd.R_reads' (e := 60) (base := w.heap.size) (ok := fun k_ => (some k_ ≠ (.slice Ao22 t514.length co22 : Value).ownBlock ∧ some k_ ≠ (.slice Ao77 t546.length co77 : Value).ownBlock)) (n := t495.length) (c := co13) ?_).2.2; exact (by refine rs ?_; exact (Kd.R_mono (Kd.rf (Kd.rf (Kd.rf (Kd.rf (Kd.rf (Kd.rf (Kd.rf (Kd.rf (Kd.R_types HO_507004.out BK557.out (by decide)))))))))) (fun _ h_ => h_.1)))); (case side8 => exact (Kd.R_reads' HO_507004.out).2.1); (case side9 => refine (Kd.R_reads' (e := 9) (base := w.heap.size) (ok := fun k_ => (some k_ ≠ (.slice Ao23 t517.length co23 : Value).ownBlock ∧ some k_ ≠ (.slice Ao78 t549.length co78 : Value).ownBlock)) (n := t498.length) (c := co14) ?_).2.2; exact (by refine rs ?_; exact (Kd.R_mono (Kd.rf (Kd.rf (Kd.rf (Kd.rf (Kd.rf (Kd.rf (Kd.rf (Kd.rf (Kd.R_types HO_507005.out BK557.out (by decide)))))))))) (fun _ h_ => h_.1)))); (case side10 => exact (Kd.R_reads' HO_507005.out).2.1); (case side11 => refine (Kd.R_reads' (e := 72) (base := w.heap.size) (ok := fun k_ => (some k_ ≠ (.slice Ao24 t520.length co24 : Value).ownBlock ∧ some k_ ≠ (.slice Ao79 t552.length co79 : Value).ownBlock)) (n := t501.length) (c := co15) ?_).2.2; exact (by refine rs ?_; exact (Kd.R_mono (Kd.rf (Kd.rf (Kd.rf (Kd.rf (Kd.rf (Kd.rf (Kd.rf (Kd.rf (Kd.R_types HO_507006.out BK557.out (by decide)))))))))) (fun _ h_ => h_.1)))); (case side12 => exact (Kd.R_reads' HO_507006.out).2.1); rintro e w93 ⟨rfl, hb⟩; refine ⟨_, rfl, ?_⟩; have n0_ := Aside0.mk (Kd.R_below (by refine rs ?_; exact (Kd.R_mono (Kd.rf (Kd.rf (Kd.rf (Kd.rf (Kd.rf (Kd.rf (Kd.rf (Kd.rf (Kd.R_types HO_507004.out BK557.out (by decide)))))))))) (fun _ h_ => h_.1))) hb); have n1_ := Aside0.mk (Kd.R_below (by refine rs ?_; exact (Kd.R_mono (Kd.rf (Kd.rf (Kd.rf (Kd.rf (Kd.rf (Kd.rf (Kd.rf (Kd.rf (Kd.R_types HO_507005.out BK557.out (by decide)))))))))) (fun _ h_ => h_.1))) hb); have n2_ := Aside0.mk (Kd.R_below (by refine rs ?_; exact (Kd.R_mono (Kd.rf (Kd.rf (Kd.rf (Kd.rf (Kd.rf (Kd.rf (Kd.rf (Kd.rf (Kd.R_types HO_507006.out BK557.out (by decide)))))))))) (fun _ h_ => h_.1))) hb); have n3_ := Aside0.mk (Kd.R_below (by refine rs ?_; exact (Kd.R_mono (Kd.rf (Kd.rf (Kd.rf (Kd.rf (Kd.rf (Kd.rf (Kd.rf (Kd.rf (Kd.R_types HO_526004.out BK557.out (by decide)))))))))) (fun _ h_ => h_.1))) hb); have n4_ := Aside0.mk (Kd.R_below (by refine rs ?_; exact (Kd.R_mono (Kd.rf (Kd.rf (Kd.rf (Kd.rf (Kd.rf (Kd.rf (Kd.rf (Kd.rf (Kd.R_types HO_526005.out BK557.out (by decide)))))))))) (fun _ h_ => h_.1))) hb); have n5_ := Aside0.mk (Kd.R_below (by refine rs ?_; exact (Kd.R_mono (Kd.rf (Kd.rf (Kd.rf (Kd.rf (Kd.rf (Kd.rf (Kd.rf (Kd.rf (Kd.R_types HO_526006.out BK557.out (by decide)))))))))) (fun _ h_ => h_.1))) hb); have n6_ := Aside0.mk (Kd.R_below (by refine rs ?_; exact (Kd.R_mono (Kd.rf (Kd.rf (Kd.rf (Kd.rf (Kd.rf (Kd.rf (Kd.rf (Kd.rf (Kd.R_types HO541.out BK557.out (by decide)))))))))) (fun _ h_ => h_.1))) hb); have n7_ := Aside0.mk (Kd.R_below (by refine rs ?_; exact (Kd.R_mono (Kd.rf (Kd.rf (Kd.rf (Kd.rf (Kd.rf (Kd.rf (Kd.rf (Kd.rf (Kd.R_types HO548.out BK557.out (by decide)))))))))) (fun _ h_ => h_.1))) hb); have n8_ := Aside0.mk (Kd.R_below (by refine rs ?_; exact (Kd.R_mono (Kd.rf (Kd.rf (Kd.rf (Kd.rf (Kd.rf (Kd.rf (Kd.rf (Kd.rf (Kd.R_types HO551.out BK557.out (by decide)))))))))) (fun _ h_ => h_.1))) hb); have n9_ := Aside0.mk (Kd.R_below (by refine rs ?_; exact (Kd.R_mono (Kd.rf (Kd.rf (Kd.rf (Kd.rf (Kd.rf (Kd.rf (Kd.rf (Kd.rf (Kd.R_types HO554.out BK557.out (by decide)))))))))) (fun _ h_ => h_.1))) hb); have n10_ := Aside0.mk (blk_below (bo BK506) hb); have n11_ := Aside0.mk (blk_below (bo BK525) hb); have n12_ := Aside0.mk (blk_below (g := gb557) (o := .cells #[.int .i64 t542, .int .i64 t543, .int .i64 t544, .int .i64 t545, .slice Ao77 t546.length co77, .slice Ao78 t549.length co78, .slice Ao79 t552.length co79, .string t555] 29 (0, 0)) bk hb); have n13_ := Aside0.mk (below_step bz hb); clear HO_507004; clear HO_507005; clear HO_507006; clear HO_526004; clear HO_526005; clear HO_526006; clear HO541; clear HO548; clear HO551; clear HO554; clear BK506; clear BK525; clear BK557; clear HB; have HO_507004 := n0_; have HO_507005 := n1_; have HO_507006 := n2_; have HO_526004 := n3_; have HO_526005 := n4_; have HO_526006 := n5_; have HO541 := n6_; have HO548 := n7_; have HO551 := n8_; have HO554 := n9_; have BK506 := n10_; have BK525 := n11_; have BK557 := n12_; have HB := n13_; clear n0_ n1_ n2_ n3_ n4_ n5_ n6_ n7_ n8_ n9_ n10_ n11_ n12_ n13_; (try clear hb); (try clear hb2); (try clear hk); (try clear hi)))
             go_meet
             case rel => exact ⟨_, (true), sd, H', ⟨by have := HJ6.out; have := HJ42.out; first | omega | exact Nat.le_refl _⟩, ⟨by refine rs ?_; exact HO_507004.out⟩, ⟨by refine rs ?_; exact HO_507005.out⟩, ⟨by refine rs ?_; exact HO_507006.out⟩, ⟨by refine rs ?_; exact HO_526004.out⟩, ⟨by refine rs ?_; exact HO_526005.out⟩, ⟨by refine rs ?_; exact HO_526006.out⟩, ⟨by refine rs ?_; exact Kd.R_mono HO548.out (fun _ hk => ⟨hk.1.2, hk.2⟩)⟩, ⟨by refine rs ?_; exact Kd.R_mono HO551.out (fun _ hk => ⟨hk.1.2, hk.2⟩)⟩, ⟨by refine rs ?_; exact Kd.R_mono HO554.out (fun _ hk => ⟨hk.1.2, hk.2⟩)⟩, ⟨(bo BK506)⟩, ⟨(bo BK525)⟩, ⟨(bo BK557)⟩, ⟨bz⟩⟩
           case rest =>
            clear HC69
            try clear c1
            try clear c2
            try clear c2b0
            try clear c2b1
            try clear p2
            try clear c3
            try clear c4
            try clear c5
            try clear c6
            try clear c7
            try clear c8
            try clear c9
            try clear c10
            try clear c11
            try clear c12
            try clear c20
            try clear c26
            try clear c27
            try clear c31
            try clear c35
            try clear c41
            try clear c45
            try clear c45b0
            try clear c47
            try clear c48
            try clear c52
            try clear c56
            try clear c60
            try clear c65
            try clear c65b0
            try clear c66
            try clear c66b0
            try clear c66b1
            try clear c74
            try clear c75
            try clear c81
            try clear c82
            try clear c83
            try clear c85
            try clear c88
            try clear c89
            try clear c91
            try clear hcz12_0 hcz12_1 hcz12_2 hcz12_3 hcz12_4 hcz12_5 hcz12_6 hcz12_7 hfz12_0 hfz12_1 hfz12_2 hfz12_3 hfz12_4 hfz12_5 hfz12_6 hfz12_7
            try clear hcz21_0 hcz21_1 hcz21_2 hcz21_3 hcz21_4 hcz21_5 hcz21_6 hcz21_7 hfz21_0 hfz21_1 hfz21_2 hfz21_3 hfz21_4 hfz21_5 hfz21_6 hfz21_7
            try clear hcz28_0 hcz28_1 hcz28_2 hcz28_3 hcz28_4 hcz28_5 hcz28_6 hcz28_7 hfz28_0 hfz28_1 hfz28_2 hfz28_3 hfz28_4 hfz28_5 hfz28_6 hfz28_7
            try clear hcz29_0 hcz29_1 hcz29_2 hcz29_3 hcz29_4 hcz29_5 hcz29_6 hcz29_7 hfz29_0 hfz29_1 hfz29_2 hfz29_3 hfz29_4 hfz29_5 hfz29_6 hfz29_7
            try clear hcz32_0 hcz32_1 hcz32_2 hcz32_3 hcz32_4 hcz32_5 hcz32_6 hcz32_7 hfz32_0 hfz32_1 hfz32_2 hfz32_3 hfz32_4 hfz32_5 hfz32_6 hfz32_7
            try clear hcz33_0 hcz33_1 hcz33_2 hcz33_3 hcz33_4 hcz33_5 hcz33_6 hcz33_7 hfz33_0 hfz33_1 hfz33_2 hfz33_3 hfz33_4 hfz33_5 hfz33_6 hfz33_7
            try clear hcz49_0 hcz49_1 hcz49_2 hcz49_3 hcz49_4 hcz49_5 hcz49_6 hcz49_7 hfz49_0 hfz49_1 hfz49_2 hfz49_3 hfz49_4 hfz49_5 hfz49_6 hfz49_7
            try clear hcz50_0 hcz50_1 hcz50_2 hcz50_3 hcz50_4 hcz50_5 hcz50_6 hcz50_7 hfz50_0 hfz50_1 hfz50_2 hfz50_3 hfz50_4 hfz50_5 hfz50_6 hfz50_7
            try clear hcz53_0 hcz53_1 hcz53_2 hcz53_3 hcz53_4 hcz53_5 hcz53_6 hcz53_7 hfz53_0 hfz53_1 hfz53_2 hfz53_3 hfz53_4 hfz53_5 hfz53_6 hfz53_7
            try clear hcz54_0 hcz54_1 hcz54_2 hcz54_3 hcz54_4 hcz54_5 hcz54_6 hcz54_7 hfz54_0 hfz54_1 hfz54_2 hfz54_3 hfz54_4 hfz54_5 hfz54_6 hfz54_7
            try clear hcz61_0 hcz61_1 hcz61_2 hcz61_3 hcz61_4 hcz61_5 hcz61_6 hcz61_7 hfz61_0 hfz61_1 hfz61_2 hfz61_3 hfz61_4 hfz61_5 hfz61_6 hfz61_7
            try clear hcz63_0 hcz63_1 hcz63_2 hcz63_3 hcz63_4 hcz63_5 hcz63_6 hcz63_7 hfz63_0 hfz63_1 hfz63_2 hfz63_3 hfz63_4 hfz63_5 hfz63_6 hfz63_7
            try clear hcz76_0 hcz76_1 hcz76_2 hcz76_3 hcz76_4 hcz76_5 hcz76_6 hcz76_7 hfz76_0 hfz76_1 hfz76_2 hfz76_3 hfz76_4 hfz76_5 hfz76_6 hfz76_7
            try clear hcz84_0 hcz84_1 hcz84_2 hcz84_3 hcz84_4 hcz84_5 hcz84_6 hcz84_7 hfz84_0 hfz84_1 hfz84_2 hfz84_3 hfz84_4 hfz84_5 hfz84_6 hfz84_7
            try clear hcz86_0 hcz86_1 hcz86_2 hcz86_3 hcz86_4 hcz86_5 hcz86_6 hcz86_7 hfz86_0 hfz86_1 hfz86_2 hfz86_3 hfz86_4 hfz86_5 hfz86_6 hfz86_7
            try clear hcz90_0 hcz90_1 hcz90_2 hcz90_3 hcz90_4 hcz90_5 hcz90_6 hcz90_7 hfz90_0 hfz90_1 hfz90_2 hfz90_3 hfz90_4 hfz90_5 hfz90_6 hfz90_7
            try clear hcz92_0 hcz92_1 hcz92_2 hcz92_3 hcz92_4 hcz92_5 hcz92_6 hcz92_7 hfz92_0 hfz92_1 hfz92_2 hfz92_3 hfz92_4 hfz92_5 hfz92_6 hfz92_7
            try clear p2
            obtain ⟨kq, x84_68, rfl, HA, HJ68, HO_507004, HO_507005, HO_507006, HO_526004, HO_526005, HO_526006, HO_558004, HO_558005, HO_558006, BK506, BK525, BK557, HB⟩ := hcut
            have hl526004_68 := (Kd.R_reads' HO_526004.out).1
            rw [hl526004_68] at HO_526004
            (try simp only [hl526004_68])
            (try simp only [hl526004_68] at BK506)
            (try simp only [hl526004_68] at BK525)
            (try simp only [hl526004_68] at BK557)
            (try simp only [hl526004_68] at HO_507004)
            (try simp only [hl526004_68] at HO_507005)
            (try simp only [hl526004_68] at HO_507006)
            (try simp only [hl526004_68] at HO_526005)
            (try simp only [hl526004_68] at HO_526006)
            (try simp only [hl526004_68] at HO_558004)
            (try simp only [hl526004_68] at HO_558005)
            (try simp only [hl526004_68] at HO_558006)
            have hl526005_68 := (Kd.R_reads' HO_526005.out).1
            rw [hl526005_68] at HO_526005
            (try simp only [hl526005_68])
            (try simp only [hl526005_68] at BK506)
            (try simp only [hl526005_68] at BK525)
            (try simp only [hl526005_68] at BK557)
            (try simp only [hl526005_68] at HO_507004)
            (try simp only [hl526005_68] at HO_507005)
            (try simp only [hl526005_68] at HO_507006)
            (try simp only [hl526005_68] at HO_526004)
            (try simp only [hl526005_68] at HO_526006)
            (try simp only [hl526005_68] at HO_558004)
            (try simp only [hl526005_68] at HO_558005)
            (try simp only [hl526005_68] at HO_558006)
            have hl526006_68 := (Kd.R_reads' HO_526006.out).1
            rw [hl526006_68] at HO_526006
            (try simp only [hl526006_68])
            (try simp only [hl526006_68] at BK506)
            (try simp only [hl526006_68] at BK525)
            (try simp only [hl526006_68] at BK557)
            (try simp only [hl526006_68] at HO_507004)
            (try simp only [hl526006_68] at HO_507005)
            (try simp only [hl526006_68] at HO_507006)
            (try simp only [hl526006_68] at HO_526004)
            (try simp only [hl526006_68] at HO_526005)
            (try simp only [hl526006_68] at HO_558004)
            (try simp only [hl526006_68] at HO_558005)
            (try simp only [hl526006_68] at HO_558006)
            cases kq with
            | zero => exact absurd HA.out (by simp [laws_FnExactGetMsg.j2])
            | succ kj68 =>
             have H := HA.out
             clear HA
             simp only [laws_FnExactGetMsg.j2] at H
             by_cases c94 : x84_68 = true
             ·subst c94
              have H1 : (some false) = some r := by rw [if_pos rfl] at H; exact H
              clear H
              have H := H1
              clear H1
              obtain rfl := Option.some.inj H
              go_wp2
              go_ret
              exact ⟨rq, bz⟩
             ·replace c94 := Bool.eq_false_iff.mpr c94
              subst c94
              have H1 : ((laws_heldMsg.f kj68 t510 t511 t512 t513 t535 t536 t537 t523 1).bind fun t559 => (if t559 < 0 then (some false) else (if t559 = t534 then (some true) else (some false)))) = some r := by rw [if_neg (show ¬ (false = true) by decide)] at H; exact H
              clear H
              have H := H1
              clear H1
              replace H := Option.bind_eq_some_iff.mp H
              obtain ⟨t559, A950, H⟩ := H
              try dsimp -simprocs only at H
              have A95 := Aside0.mk A950
              clear A950
              have HC96 := Aside0.mk H
              clear H
              have hnb97 := NB525_506.out
              have hnc97 := NB506_525.out
              have hnb98 := NB525_557.out
              have hnc98 := NB557_525.out
              obtain ⟨hcz99_0, hcz99_1, hcz99_2, hcz99_3, hcz99_4, hcz99_5, hcz99_6, hcz99_7, hfz99_0, hfz99_1, hfz99_2, hfz99_3, hfz99_4, hfz99_5, hfz99_6, hfz99_7⟩ := bc8 BK525.out
              go_upto_if 89 with (first | ((with_reducible refine gate_callee (f := 12) rfl ?_); refine goesL_ (some 87) rfl rfl Try.func12 (by kernel_rfl) rfl #[.agg #[.int .i64 t510, .int .i64 t511, .int .i64 t512, .int .i64 t513, .slice Ao22 t535.length co22, .slice Ao23 t536.length co23, .slice Ao24 t537.length co24, .string t523], .int .i64 1] rfl mt ?_; (with_reducible refine (laws_heldMsg.calls kj68 t510 t511 t512 t513 _ _ t535 _ _ t536 _ _ t537 t523 1 t559 _ ?side1 ?side2 ?side3 ?side4 ?side5 ?side6 A95.out).mono ?_); (case side1 => repeat (first | exact (Kd.R_reads' HO_526004.out).2.2 | (with_reducible refine Kd.C_alloc ?_ _) | (with_reducible refine Kd.C_drewN ?_ _) | (with_reducible refine Kd.C_drew ?_))); (case side2 => exact (Kd.R_reads' HO_526004.out).2.1); (case side3 => repeat (first | exact (Kd.R_reads' HO_526005.out).2.2 | (with_reducible refine Kd.C_alloc ?_ _) | (with_reducible refine Kd.C_drewN ?_ _) | (with_reducible refine Kd.C_drew ?_))); (case side4 => exact (Kd.R_reads' HO_526005.out).2.1); (case side5 => repeat (first | exact (Kd.R_reads' HO_526006.out).2.2 | (with_reducible refine Kd.C_alloc ?_ _) | (with_reducible refine Kd.C_drewN ?_ _) | (with_reducible refine Kd.C_drew ?_))); (case side6 => exact (Kd.R_reads' HO_526006.out).2.1); rintro e w100 ⟨rfl, hb⟩; refine ⟨_, rfl, ?_⟩; have n0_ := Aside0.mk (Kd.R_below (by refine rs ?_; exact HO_507004.out) hb); have n1_ := Aside0.mk (Kd.R_below (by refine rs ?_; exact HO_507005.out) hb); have n2_ := Aside0.mk (Kd.R_below (by refine rs ?_; exact HO_507006.out) hb); have n3_ := Aside0.mk (Kd.R_below (by refine rs ?_; exact HO_526004.out) hb); have n4_ := Aside0.mk (Kd.R_below (by refine rs ?_; exact HO_526005.out) hb); have n5_ := Aside0.mk (Kd.R_below (by refine rs ?_; exact HO_526006.out) hb); have n6_ := Aside0.mk (Kd.R_below (by refine rs ?_; exact HO_558004.out) hb); have n7_ := Aside0.mk (Kd.R_below (by refine rs ?_; exact HO_558005.out) hb); have n8_ := Aside0.mk (Kd.R_below (by refine rs ?_; exact HO_558006.out) hb); have n9_ := Aside0.mk (blk_below (bo BK506) hb); have n10_ := Aside0.mk (blk_below (bo BK525) hb); have n11_ := Aside0.mk (blk_below (bo BK557) hb); have n12_ := Aside0.mk (below_step bz hb); clear HO_507004; clear HO_507005; clear HO_507006; clear HO_526004; clear HO_526005; clear HO_526006; clear HO_558004; clear HO_558005; clear HO_558006; clear BK506; clear BK525; clear BK557; clear HB; have HO_507004 := n0_; have HO_507005 := n1_; have HO_507006 := n2_; have HO_526004 := n3_; have HO_526005 := n4_; have HO_526006 := n5_; have HO_558004 := n6_; have HO_558005 := n7_; have HO_558006 := n8_; have BK506 := n9_; have BK525 := n10_; have BK557 := n11_; have HB := n12_; clear n0_ n1_ n2_ n3_ n4_ n5_ n6_ n7_ n8_ n9_ n10_ n11_ n12_; (try clear hb); (try clear hb2); (try clear hk); (try clear hi)))
              (try simp only [Act.put, List.setIfInBounds_toArray, List.set_cons_zero, List.set_cons_succ])
              have H := HC96.out
              clear HC96
              by_cases c101 : t559 < 0
              ·rw [if_pos c101] at H
               have c101b0 : decide (t559 < 0) = true := decide_eq_true c101
               clear c101
               (first | rw [c101b0] | (simp only [i64_w, i32_w]; rw [c101b0]) | skip)
               obtain rfl := Option.some.inj H
               go_wp2
               go_ret
               exact ⟨rq, bz⟩
              ·rw [if_neg c101] at H
               have c101b0 : decide (t559 < 0) = false := decide_eq_false c101
               clear c101
               (first | rw [c101b0] | (simp only [i64_w, i32_w]; rw [c101b0]) | skip)
               by_cases c102 : t559 = t534
               ·rw [if_pos c102] at H
                have c102b0 : (t559 == t534) = true := beq_iff_eq.mpr c102
                have c102b1 : (t559 != t534) = false := bne_eq_false_iff_eq.mpr c102
                clear c102
                obtain rfl := Option.some.inj H
                go_wp2
                go_ret
                exact ⟨rq, bz⟩
               ·rw [if_neg c102] at H
                have c102b0 : (t559 == t534) = false := beq_eq_false_iff_ne.mpr c102
                have c102b1 : (t559 != t534) = true := bne_iff_ne.mpr c102
                obtain rfl := Option.some.inj H
                go_wp2
                go_ret
                exact ⟨rq, bz⟩
          ·rw [if_neg c66] at H
           have c66b0 : (t538 == t534) = false := beq_eq_false_iff_ne.mpr c66
           have c66b1 : (t538 != t534) = true := bne_iff_ne.mpr c66
           obtain rfl := Option.some.inj H
           go_wp2
           go_ret
           exact ⟨rq, bz⟩
     ·replace c41 := Bool.eq_false_iff.mpr c41
      subst c41
      have H1 : (some false) = some r := by rw [if_neg (show ¬ (false = true) by decide)] at H; exact H
      clear H
      have H := H1
      clear H1
      obtain rfl := Option.some.inj H
      go_wp2
      go_ret
      exact ⟨rq, bz⟩

/-- THE ONE PURE STATEMENT of laws_FnExactGetMsg: yours. -/
def laws_FnExactGetMsg.Pure : Prop := ∀ (l0 : List Int), l0.length ≤ maxLen → l0.length * 1 ≤ 140737488351232 → (∀ x ∈ l0, (Lit.int .u8 x).wf = true) → ∃ k, laws_FnExactGetMsg.f k l0 = some true
theorem laws_FnExactGetMsg.walk (P : laws_FnExactGetMsg.Pure) (a0 : Option Addr) (len0 cap0 : Nat) (z0 : List Int) (w : World) (w0 : (a0 = none ∧ len0 = 0 ∧ cap0 = 0 ∧ z0 = []) ∨ ∃ x, a0 = some x ∧ len0 ≤ cap0 ∧ cap0 ≤ maxLen ∧ z0.length = cap0 ∧ (∀ i, i < z0.length → w.cell? (x.add i) = some (.int .u8 (z0.getD i 0))) ∧ ∀ n ∈ z0, (Lit.int .u8 n).wf = true) (y0 : len0 * 1 ≤ 140737488351232) :
  Calls Try.prog 3 #[.slice a0 len0 cap0] w fun e w' => e = .returned (.bool true) ∧ Below w.heap.size w w' := by
 obtain ⟨l0, rfl, hr0, hm0, hw0, hc0⟩ := ReadsInt.ofRowC w0
 obtain ⟨k, h⟩ := P l0 hm0 y0 hw0
 refine (laws_FnExactGetMsg.calls k _ _ l0 true w (Kd.C_of_reads (d := (0 : Int)) (h1 := fun _ => rfl) hr0) hc0 h).mono ?_
 rintro e w' ⟨rfl, hd⟩
 exact ⟨rfl, hd⟩

end Go.Proofs.Ytjiaigjmihmdjaa.PFnExactGetMsg
