
/- The machine's side, written by a program of this session (a turned print): each function as a plain Lean function, and that the call comes to it. -/
import Derived.Test.YtjiaigjmihmdjaaDoorPFnExactTakeAnswerx0
namespace Go.Proofs.YtjiaigjmihmdjaaDoor.PFnExactTakeAnswer
open Go.RowKit Go.Proofs.YtjiaigjmihmdjaaDoorW.PrintWords Go.Proofs.YtjiaigjmihmdjaaDoorW.PrintLast Go.Proofs.YtjiaigjmihmdjaaDoorW.PrintMore
attribute [local go_sem] max2_int min2_int max_two min_two max_three min_three max_four min_four   -- for this text's walks alone
set_option linter.unusedVariables false
set_option linter.unusedSimpArgs false

/-! ### impl_within: function 69 -/
def impl_within.f (a0 : Int) (a1 : Int) (a2 : Int) : Option (Bool) := if a0 ≥ a1 then (some (decide (a0 ≤ a2))) else (some false)
set_option maxHeartbeats 8000000 in
set_option maxRecDepth 100000 in
theorem impl_within.calls (a0 : Int) (a1 : Int) (a2 : Int) (r : Bool) (w : World) (h : impl_within.f a0 a1 a2 = some r) :
  Calls Tryd.prog 69 #[.int .i64 a0, .int .i64 a1, .int .i64 a2] w fun e w' => e = .returned (.bool r) ∧ Drawn0 w w' := by
 have H : (if a0 ≥ a1 then (some (decide (a0 ≤ a2))) else (some false)) = some r := h
 clear h
 by_cases c4 : a0 ≥ a1
 ·rw [if_pos c4] at H
  have c4b0 : decide (a1 ≤ a0) = true := decide_eq_true c4
  clear c4
  obtain rfl := Option.some.inj H
  go_enter Tryd.func69, Tryd.ntmps69
  go_wp2
  go_ret
  exact ⟨sd, by repeat (first | exact Drawn0.refl _ | apply Drawn0.step)⟩
 ·rw [if_neg c4] at H
  have c4b0 : decide (a1 ≤ a0) = false := decide_eq_false c4
  clear c4
  obtain rfl := Option.some.inj H
  go_enter Tryd.func69, Tryd.ntmps69
  go_wp2
  go_ret
  exact ⟨sd, by repeat (first | exact Drawn0.refl _ | apply Drawn0.step)⟩

/-! ### impl_Sig_isCut: function 77 -/
def impl_Sig_isCut.f (a0_0 : Int) (a0_1 : Int) (l0_2 : List Int) (l0_3 : List ByteArray) : Option (Bool) := (impl_within.f a0_0 1 256).bind fun t275 => (if t275 = true then ((impl_within.f a0_1 0 (wrap64 (a0_0 - 1))).bind fun t276 => (if t276 = true then (some (decide ((l0_2.length : Int) ≤ 2500))) else (some false))) else (some false))
set_option maxHeartbeats 8000000 in
set_option maxRecDepth 100000 in
theorem impl_Sig_isCut.calls (a0_0 : Int) (a0_1 : Int) (A0_2 : Option Addr) (c0_2 : Nat) (l0_2 : List Int) (A0_3 : Option Addr) (c0_3 : Nat) (l0_3 : List ByteArray) (r : Bool) (w : World) (hr0_2 : Kd.C (Kd.int .u32) w A0_2 l0_2.length l0_2) (hc0_2 : l0_2.length ≤ c0_2) (hr0_3 : Kd.C Kd.string w A0_3 l0_3.length l0_3) (hc0_3 : l0_3.length ≤ c0_3) (h : impl_Sig_isCut.f a0_0 a0_1 l0_2 l0_3 = some r) :
  Calls Tryd.prog 77 #[.agg #[.int .i64 a0_0, .int .i64 a0_1, .slice A0_2 l0_2.length c0_2, .slice A0_3 l0_3.length c0_3]] w fun e w' => e = .returned (.bool r) ∧ Below w.heap.size w w' := by
 have hu30 := Tryd.underlying30
 have HR0_2 := Aside0.mk hr0_2
 have HC0_2 := Aside0.mk hc0_2
 clear hr0_2 hc0_2
 have HR0_3 := Aside0.mk hr0_3
 have HC0_3 := Aside0.mk hc0_3
 clear hr0_3 hc0_3
 have HB := Aside0.mk (Below.refl w.heap.size w)
 have H : ((impl_within.f a0_0 1 256).bind fun t275 => (if t275 = true then ((impl_within.f a0_1 0 (wrap64 (a0_0 - 1))).bind fun t276 => (if t276 = true then (some (decide ((l0_2.length : Int) ≤ 2500))) else (some false))) else (some false))) = some r := h
 clear h
 replace H := Option.bind_eq_some_iff.mp H
 obtain ⟨t275, A20, H⟩ := H
 try dsimp -simprocs only at H
 have A2 := Aside0.mk A20
 clear A20
 by_cases c3 : t275 = true
 ·subst c3
  have H1 : ((impl_within.f a0_1 0 (wrap64 (a0_0 - 1))).bind fun t276 => (if t276 = true then (some (decide ((l0_2.length : Int) ≤ 2500))) else (some false))) = some r := by rw [if_pos rfl] at H; exact H
  clear H
  have H := H1
  clear H1
  replace H := Option.bind_eq_some_iff.mp H
  obtain ⟨t276, A40, H⟩ := H
  try dsimp -simprocs only at H
  have A4 := Aside0.mk A40
  clear A40
  by_cases c5 : t276 = true
  ·subst c5
   have H1 : (some (decide ((l0_2.length : Int) ≤ 2500))) = some r := by rw [if_pos rfl] at H; exact H
   clear H
   have H := H1
   clear H1
   obtain rfl := Option.some.inj H
   go_enter Tryd.func77, Tryd.ntmps77
   go_wp2_with (first | ((with_reducible refine gate_dst (N := 1) rfl ?_); (try (refine gate_guard (by rfl) ?_; dsimp only)); refine box_event ?hg (N := 1) ?hd (cs := #[.int .i64 a0_0, .int .i64 a0_1, .slice A0_2 l0_2.length c0_2, .slice A0_3 l0_3.length c0_3]) (t := 30) ?hr ?_; (case hd => rfl); (case hg => rfl); (case hr => first | (go_simp; done) | (go_simp; rfl)); intro gb274 hg w6 hbox hb; have n0_ := Aside0.mk (below_step bz hb); have n1_ := Aside0.mk (hbox); have n2_ := Aside0.mk (bg : w.heap.size ≤ gb274); have n3_ := Aside0.mk (bg : w.heap.size ≤ gb274); clear HB; have HB := n0_; have BK274 := n1_; have GW274 := n2_; have GE274 := n3_; clear n0_ n1_ n2_ n3_; clear hb hbox hg; obtain ⟨hcz7_0, hcz7_1, hcz7_2, hcz7_3, hfz7_0, hfz7_1, hfz7_2, hfz7_3⟩ := bc4 BK274.out) | ((with_reducible refine gate_callee (f := 69) rfl ?_); refine goesL_ (some 5) rfl rfl Tryd.func69 (by kernel_rfl) rfl #[.int .i64 a0_0, .int .i64 1, .int .i64 256] rfl mt ?_; (with_reducible refine (impl_within.calls a0_0 1 256 true _ A2.out).mono ?_); rintro e w' ⟨rfl, ⟨nd, rfl⟩⟩; refine ⟨_, rfl, ?_⟩) | (go_at_call 69; (with_reducible refine (impl_within.calls a0_1 0 (wrap64 (a0_0 - 1)) true _ A4.out).mono ?_); rintro e w' ⟨rfl, ⟨nd, rfl⟩⟩))
   go_ret
   exact ⟨rq, bz⟩
  ·replace c5 := Bool.eq_false_iff.mpr c5
   subst c5
   have H1 : (some false) = some r := by rw [if_neg (show ¬ (false = true) by decide)] at H; exact H
   clear H
   have H := H1
   clear H1
   obtain rfl := Option.some.inj H
   go_enter Tryd.func77, Tryd.ntmps77
   go_wp2_with (first | ((with_reducible refine gate_dst (N := 1) rfl ?_); (try (refine gate_guard (by rfl) ?_; dsimp only)); refine box_event ?hg (N := 1) ?hd (cs := #[.int .i64 a0_0, .int .i64 a0_1, .slice A0_2 l0_2.length c0_2, .slice A0_3 l0_3.length c0_3]) (t := 30) ?hr ?_; (case hd => rfl); (case hg => rfl); (case hr => first | (go_simp; done) | (go_simp; rfl)); intro gb274 hg w8 hbox hb; have n0_ := Aside0.mk (below_step bz hb); have n1_ := Aside0.mk (hbox); have n2_ := Aside0.mk (bg : w.heap.size ≤ gb274); have n3_ := Aside0.mk (bg : w.heap.size ≤ gb274); clear HB; have HB := n0_; have BK274 := n1_; have GW274 := n2_; have GE274 := n3_; clear n0_ n1_ n2_ n3_; clear hb hbox hg; obtain ⟨hcz9_0, hcz9_1, hcz9_2, hcz9_3, hfz9_0, hfz9_1, hfz9_2, hfz9_3⟩ := bc4 BK274.out) | ((with_reducible refine gate_callee (f := 69) rfl ?_); refine goesL_ (some 5) rfl rfl Tryd.func69 (by kernel_rfl) rfl #[.int .i64 a0_0, .int .i64 1, .int .i64 256] rfl mt ?_; (with_reducible refine (impl_within.calls a0_0 1 256 true _ A2.out).mono ?_); rintro e w' ⟨rfl, ⟨nd, rfl⟩⟩; refine ⟨_, rfl, ?_⟩) | (go_at_call 69; (with_reducible refine (impl_within.calls a0_1 0 (wrap64 (a0_0 - 1)) false _ A4.out).mono ?_); rintro e w' ⟨rfl, ⟨nd, rfl⟩⟩))
   go_ret
   exact ⟨rq, bz⟩
 ·replace c3 := Bool.eq_false_iff.mpr c3
  subst c3
  have H1 : (some false) = some r := by rw [if_neg (show ¬ (false = true) by decide)] at H; exact H
  clear H
  have H := H1
  clear H1
  obtain rfl := Option.some.inj H
  go_enter Tryd.func77, Tryd.ntmps77
  go_wp2_with (first | ((with_reducible refine gate_dst (N := 1) rfl ?_); (try (refine gate_guard (by rfl) ?_; dsimp only)); refine box_event ?hg (N := 1) ?hd (cs := #[.int .i64 a0_0, .int .i64 a0_1, .slice A0_2 l0_2.length c0_2, .slice A0_3 l0_3.length c0_3]) (t := 30) ?hr ?_; (case hd => rfl); (case hg => rfl); (case hr => first | (go_simp; done) | (go_simp; rfl)); intro gb274 hg w10 hbox hb; have n0_ := Aside0.mk (below_step bz hb); have n1_ := Aside0.mk (hbox); have n2_ := Aside0.mk (bg : w.heap.size ≤ gb274); have n3_ := Aside0.mk (bg : w.heap.size ≤ gb274); clear HB; have HB := n0_; have BK274 := n1_; have GW274 := n2_; have GE274 := n3_; clear n0_ n1_ n2_ n3_; clear hb hbox hg; obtain ⟨hcz11_0, hcz11_1, hcz11_2, hcz11_3, hfz11_0, hfz11_1, hfz11_2, hfz11_3⟩ := bc4 BK274.out) | ((with_reducible refine gate_callee (f := 69) rfl ?_); refine goesL_ (some 5) rfl rfl Tryd.func69 (by kernel_rfl) rfl #[.int .i64 a0_0, .int .i64 1, .int .i64 256] rfl mt ?_; (with_reducible refine (impl_within.calls a0_0 1 256 false _ A2.out).mono ?_); rintro e w' ⟨rfl, ⟨nd, rfl⟩⟩; refine ⟨_, rfl, ?_⟩))
  go_ret
  exact ⟨rq, bz⟩

/-! ### impl_SigLen: function 16 -/
def impl_SigLen.j0 : Nat → Bool → Int → Int → List Int → List ByteArray → Option (Int)
 | 0, _, _, _, _, _ => none
 | k + 1, x12, x278000, x278001, x278002, x278003 => if x12 = true then (some 0) else (if x278001 > 0 then (some (wrap64 ((wrap64 (x278000 * (x278002.length : Int))) + (wrap64 (x278001 - x278000))))) else (some (wrap64 (x278000 * (x278002.length : Int)))))
def impl_SigLen.f (k : Nat) (a0_0 : Int) (a0_1 : Int) (l0_2 : List Int) (l0_3 : List ByteArray) : Option (Int) := (impl_Sig_isCut.f a0_0 a0_1 l0_2 l0_3).bind fun t278 => (if t278 = true then (impl_SigLen.j0 k ((l0_2.length : Int) == 0) a0_0 a0_1 l0_2 l0_3) else (impl_SigLen.j0 k true a0_0 a0_1 l0_2 l0_3))
theorem impl_SigLen.mono_l : ∀ k, (∀ y0 y1 y2 y3 y4, LeO (impl_SigLen.j0 k y0 y1 y2 y3 y4) (impl_SigLen.j0 (k + 1) y0 y1 y2 y3 y4))
 | 0 => fun _ _ _ _ _ r h => by simp [impl_SigLen.j0] at h
 | k + 1 => by
  have ih0 := impl_SigLen.mono_l k
  ·intro y0 y1 y2 y3 y4
   unfold impl_SigLen.j0
   repeat' first | (with_reducible first | exact ih0 _ _ _ _ _ | exact LeO.refl _ | exact LeO.none _ | refine LeO.ite ?_ ?_ | refine LeO.bind ?_ (fun _ => ?_)) | exact ih0 _ _ _ _ _ | exact LeO.none _ | refine LeO.ite ?_ ?_ | refine LeO.bind ?_ (fun _ => ?_)
theorem impl_SigLen.mono : ∀ a0 a1 a2 a3 k, LeO (impl_SigLen.f k a0 a1 a2 a3) (impl_SigLen.f (k + 1) a0 a1 a2 a3) := by
 intro a0 a1 a2 a3 k
 have ih0 := impl_SigLen.mono_l k
 unfold impl_SigLen.f
 repeat' first | (with_reducible first | exact ih0 _ _ _ _ _ | exact LeO.refl _ | exact LeO.none _ | refine LeO.ite ?_ ?_ | refine LeO.bind ?_ (fun _ => ?_)) | exact ih0 _ _ _ _ _ | exact LeO.none _ | refine LeO.ite ?_ ?_ | refine LeO.bind ?_ (fun _ => ?_)
set_option maxHeartbeats 8000000 in
set_option maxRecDepth 100000 in
theorem impl_SigLen.calls (k : Nat) (a0_0 : Int) (a0_1 : Int) (A0_2 : Option Addr) (c0_2 : Nat) (l0_2 : List Int) (A0_3 : Option Addr) (c0_3 : Nat) (l0_3 : List ByteArray) (r : Int) (w : World) (hr0_2 : Kd.C (Kd.int .u32) w A0_2 l0_2.length l0_2) (hc0_2 : l0_2.length ≤ c0_2) (hr0_3 : Kd.C Kd.string w A0_3 l0_3.length l0_3) (hc0_3 : l0_3.length ≤ c0_3) (h : impl_SigLen.f k a0_0 a0_1 l0_2 l0_3 = some r) :
  Calls Tryd.prog 16 #[.agg #[.int .i64 a0_0, .int .i64 a0_1, .slice A0_2 l0_2.length c0_2, .slice A0_3 l0_3.length c0_3]] w fun e w' => e = .returned (.int .i64 r) ∧ Below w.heap.size w w' := by
 have hu30 := Tryd.underlying30
 have HR0_2 := Aside0.mk hr0_2
 have HC0_2 := Aside0.mk hc0_2
 clear hr0_2 hc0_2
 have HR0_3 := Aside0.mk hr0_3
 have HC0_3 := Aside0.mk hc0_3
 clear hr0_3 hc0_3
 have HB := Aside0.mk (Below.refl w.heap.size w)
 have H : ((impl_Sig_isCut.f a0_0 a0_1 l0_2 l0_3).bind fun t278 => (if t278 = true then (impl_SigLen.j0 k ((l0_2.length : Int) == 0) a0_0 a0_1 l0_2 l0_3) else (impl_SigLen.j0 k true a0_0 a0_1 l0_2 l0_3))) = some r := h
 clear h
 have HC2 := Aside0.mk H
 clear H
 go_enter Tryd.func16, Tryd.ntmps16
 go_upto_region 1 with (first | ((with_reducible refine gate_dst (N := 1) rfl ?_); (try (refine gate_guard (by rfl) ?_; dsimp only)); refine box_event ?hg (N := 1) ?hd (cs := #[.int .i64 a0_0, .int .i64 a0_1, .slice A0_2 l0_2.length c0_2, .slice A0_3 l0_3.length c0_3]) (t := 30) ?hr ?_; (case hd => rfl); (case hg => rfl); (case hr => first | (go_simp; done) | (go_simp; rfl)); intro gb277 hg w3 hbox hb; have n0_ := Aside0.mk (below_step bz hb); have n1_ := Aside0.mk (hbox); have n2_ := Aside0.mk (bg : w.heap.size ≤ gb277); have n3_ := Aside0.mk (bg : w.heap.size ≤ gb277); clear HB; have HB := n0_; have BK277 := n1_; have GW277 := n2_; have GE277 := n3_; clear n0_ n1_ n2_ n3_; clear hb hbox hg))
 (try simp only [Act.put, List.setIfInBounds_toArray, List.set_cons_zero, List.set_cons_succ])
 go_cut [12] (fun v12 wc => ∃ (kq : Nat) (x12_1 : Bool), v12 = .bool x12_1 ∧ Aside0 (impl_SigLen.j0 kq x12_1 a0_0 a0_1 l0_2 l0_3 = some r) ∧ Aside0 (kq ≤ k) ∧ Aside0 (wc.heap[gb277]? = some (.cells #[.int .i64 a0_0, .int .i64 a0_1, (.slice A0_2 l0_2.length c0_2), (.slice A0_3 l0_3.length c0_3)] 30 (0, 0))) ∧ Aside0 (Below w.heap.size w wc))
 case first =>
  have H := HC2.out
  clear HC2
  replace H := Option.bind_eq_some_iff.mp H
  obtain ⟨t278, A40, H⟩ := H
  try dsimp -simprocs only at H
  have A4 := Aside0.mk A40
  clear A40
  by_cases c5 : t278 = true
  ·subst c5
   have H1 : (impl_SigLen.j0 k ((l0_2.length : Int) == 0) a0_0 a0_1 l0_2 l0_3) = some r := by rw [if_pos rfl] at H; exact H
   clear H
   have H := H1
   clear H1
   have H' := Aside0.mk H
   clear H
   obtain ⟨hcz6_0, hcz6_1, hcz6_2, hcz6_3, hfz6_0, hfz6_1, hfz6_2, hfz6_3⟩ := bc4 BK277.out
   go_wp2_with (first | ((with_reducible refine gate_callee (f := 77) rfl ?_); refine goesL_ (some 5) rfl rfl Tryd.func77 (by kernel_rfl) rfl #[.agg #[.int .i64 a0_0, .int .i64 a0_1, .slice A0_2 l0_2.length c0_2, .slice A0_3 l0_3.length c0_3]] rfl mt ?_; (with_reducible refine (impl_Sig_isCut.calls a0_0 a0_1 _ _ l0_2 _ _ l0_3 true _ ?side1 ?side2 ?side3 ?side4 A4.out).mono ?_); (case side1 => exact cz HR0_2); (case side2 => exact HC0_2.out); (case side3 => exact cz HR0_3); (case side4 => exact HC0_3.out); rintro e w7 ⟨rfl, hb⟩; refine ⟨_, rfl, ?_⟩; have n0_ := Aside0.mk (blk_below (bo BK277) hb); have n1_ := Aside0.mk (below_step bz hb); clear BK277; clear HB; have BK277 := n0_; have HB := n1_; clear n0_ n1_; (try clear hb); (try clear hb2); (try clear hk); (try clear hi); obtain ⟨hcz8_0, hcz8_1, hcz8_2, hcz8_3, hfz8_0, hfz8_1, hfz8_2, hfz8_3⟩ := bc4 BK277.out))
   go_meet
   case rel => exact ⟨_, (((l0_2.length : Int) == 0)), sd, H', ⟨ob⟩, ⟨(bo BK277)⟩, ⟨bz⟩⟩
  ·replace c5 := Bool.eq_false_iff.mpr c5
   subst c5
   have H1 : (impl_SigLen.j0 k true a0_0 a0_1 l0_2 l0_3) = some r := by rw [if_neg (show ¬ (false = true) by decide)] at H; exact H
   clear H
   have H := H1
   clear H1
   have H' := Aside0.mk H
   clear H
   obtain ⟨hcz9_0, hcz9_1, hcz9_2, hcz9_3, hfz9_0, hfz9_1, hfz9_2, hfz9_3⟩ := bc4 BK277.out
   go_wp2_with (first | ((with_reducible refine gate_callee (f := 77) rfl ?_); refine goesL_ (some 5) rfl rfl Tryd.func77 (by kernel_rfl) rfl #[.agg #[.int .i64 a0_0, .int .i64 a0_1, .slice A0_2 l0_2.length c0_2, .slice A0_3 l0_3.length c0_3]] rfl mt ?_; (with_reducible refine (impl_Sig_isCut.calls a0_0 a0_1 _ _ l0_2 _ _ l0_3 false _ ?side1 ?side2 ?side3 ?side4 A4.out).mono ?_); (case side1 => exact cz HR0_2); (case side2 => exact HC0_2.out); (case side3 => exact cz HR0_3); (case side4 => exact HC0_3.out); rintro e w10 ⟨rfl, hb⟩; refine ⟨_, rfl, ?_⟩; have n0_ := Aside0.mk (blk_below (bo BK277) hb); have n1_ := Aside0.mk (below_step bz hb); clear BK277; clear HB; have BK277 := n0_; have HB := n1_; clear n0_ n1_; (try clear hb); (try clear hb2); (try clear hk); (try clear hi)))
   go_meet
   case rel => exact ⟨_, (true), sd, H', ⟨ob⟩, ⟨(bo BK277)⟩, ⟨bz⟩⟩
 case rest =>
  clear HC2
  try clear c1
  try clear p2
  try clear c5
  try clear c7
  try clear hcz6_0 hcz6_1 hcz6_2 hcz6_3 hfz6_0 hfz6_1 hfz6_2 hfz6_3
  try clear hcz8_0 hcz8_1 hcz8_2 hcz8_3 hfz8_0 hfz8_1 hfz8_2 hfz8_3
  try clear hcz9_0 hcz9_1 hcz9_2 hcz9_3 hfz9_0 hfz9_1 hfz9_2 hfz9_3
  obtain ⟨kq, x12_1, rfl, HA, HJ1, BK277, HB⟩ := hcut
  cases kq with
  | zero => exact absurd HA.out (by simp [impl_SigLen.j0])
  | succ kj1 =>
   have H := HA.out
   clear HA
   simp only [impl_SigLen.j0] at H
   by_cases c11 : x12_1 = true
   ·subst c11
    have H1 : (some 0) = some r := by rw [if_pos rfl] at H; exact H
    clear H
    have H := H1
    clear H1
    obtain rfl := Option.some.inj H
    go_wp2
    go_ret
    exact ⟨rq, bz⟩
   ·replace c11 := Bool.eq_false_iff.mpr c11
    subst c11
    have H1 : (if a0_1 > 0 then (some (wrap64 ((wrap64 (a0_0 * (l0_2.length : Int))) + (wrap64 (a0_1 - a0_0))))) else (some (wrap64 (a0_0 * (l0_2.length : Int))))) = some r := by rw [if_neg (show ¬ (false = true) by decide)] at H; exact H
    clear H
    have H := H1
    clear H1
    by_cases c12 : a0_1 > 0
    ·rw [if_pos c12] at H
     have c12b0 : decide (0 < a0_1) = true := decide_eq_true c12
     clear c12
     obtain rfl := Option.some.inj H
     obtain ⟨hcz13_0, hcz13_1, hcz13_2, hcz13_3, hfz13_0, hfz13_1, hfz13_2, hfz13_3⟩ := bc4 BK277.out
     go_wp2
     go_ret
     exact ⟨rq, bz⟩
    ·rw [if_neg c12] at H
     have c12b0 : decide (0 < a0_1) = false := decide_eq_false c12
     clear c12
     obtain rfl := Option.some.inj H
     obtain ⟨hcz14_0, hcz14_1, hcz14_2, hcz14_3, hfz14_0, hfz14_1, hfz14_2, hfz14_3⟩ := bc4 BK277.out
     go_wp2
     go_ret
     exact ⟨rq, bz⟩

-- NOT PRINTED: function 138 (slices_IndexFunc_string_string)

-- NOT PRINTED: function 78 (slices_ContainsFunc_string_string)

/-! ### impl_SigOk_1: function 79 -/
def impl_SigOk_1.f (a0 : ByteArray) : Option (Bool) := some ((a0.size : Int) != 4)
set_option maxHeartbeats 8000000 in
set_option maxRecDepth 100000 in
theorem impl_SigOk_1.calls (a0 : ByteArray) (r : Bool) (w : World) (h : impl_SigOk_1.f a0 = some r) :
  Calls Tryd.prog 79 #[.string a0] w fun e w' => e = .returned (.bool r) ∧ Drawn0 w w' := by
 have H : (some ((a0.size : Int) != 4)) = some r := h
 clear h
 obtain rfl := Option.some.inj H
 go_enter Tryd.func79, Tryd.ntmps79
 go_wp2
 go_ret
 exact ⟨sd, by repeat (first | exact Drawn0.refl _ | apply Drawn0.step)⟩

/-! ### slices_ContainsFunc_SigOk: function 78 at (79,) (by hand) -/
def slices_ContainsFunc_SigOk.f (l0 : List ByteArray) : Option (Bool) := some (l0.any fun t => decide (t.size ≠ 4))
theorem any_take_snoc {α : Type} (p : α → Bool) (l : List α) (z : α) (i : Nat) (hi : i < l.length) : ((l.take (i + 1)).any p) = ((l.take i).any p || p (l.getD i z)) := by
  rw [List.take_succ_eq_append_getElem hi, List.any_append]
  simp [List.getD_eq_getElem?_getD, List.getElem?_eq_getElem hi]
set_option maxHeartbeats 4000000 in
set_option maxRecDepth 100000 in
theorem slices_IndexFunc_SigOk (A0 : Option Addr) (c0 : Nat) (l0 : List ByteArray) (w : World) (hr0 : Kd.C Kd.string w A0 l0.length l0) :
    Calls Tryd.prog 138 #[.slice A0 l0.length c0, .func (.func 79) #[] #[]] w fun e w' => SomeInt0 (fun i => decide (0 ≤ i) = (l0.any fun t => decide (t.size ≠ 4))) w e w' := by
  have hmax := hr0.2.1
  have HR := Aside0.mk hr0
  clear hr0
  go_enter Tryd.func138, Tryd.ntmps138
  go_wp2
  go_loopw [8] (fun v w' => ∃ i : Nat, v = .int .i64 i ∧ i ≤ l0.length ∧ Aside0 (((l0.take i).any fun t => decide (t.size ≠ 4)) = false) ∧ Aside0 (Drawn0 w w')) (fun v _ => l0.length - (intOf v).toNat)
  case atStart => exact ⟨0, rfl, Nat.zero_le _, ⟨rfl⟩, ⟨Drawn0.refl _⟩⟩
  case round =>
    obtain ⟨i, rfl, hi, HA, HD⟩ := hrel
    by_cases hlt : i < l0.length
    · obtain ⟨ad, rfl, hc⟩ := Kd.at_string HR.out i (by omega) (by omega)
      rw [Int.toNat_natCast] at hc
      obtain ⟨nd, rfl⟩ := HD.out.out
      have h0 : (0 : Int) ≤ (i : Int) := by omega
      have h1 : (i : Int) < (l0.length : Int) := by omega
      have HS := Aside0.mk (any_take_snoc (fun t : ByteArray => decide (t.size ≠ 4)) l0 ByteArray.empty i hlt)
      by_cases hp : (rdOf ByteArray.empty l0 i).size = 4
      · have hf : impl_SigOk_1.f (rdOf ByteArray.empty l0 i) = some false := by unfold impl_SigOk_1.f; simp [hp]
        have HF := Aside0.mk hf
        clear hf
        have HP := Aside0.mk hp
        clear hp
        go_wp2_with (go_at_call 79; refine (impl_SigOk_1.calls _ _ _ HF.out).mono ?_; rintro e w' ⟨rfl, ⟨nd2, rfl⟩⟩)
        go_roundw
        case rel => exact ⟨i + 1, by go_num, by omega, ⟨by rw [HS.out, HA.out]; have := HP.out; unfold rdOf at this; rw [Int.toNat_natCast] at this; simp only [this]; decide⟩, ⟨⟨_, rfl⟩⟩⟩
        case measure => simp [intOf]; omega
      · have hf : impl_SigOk_1.f (rdOf ByteArray.empty l0 i) = some true := by unfold impl_SigOk_1.f; simp; omega
        have HF := Aside0.mk hf
        clear hf
        have HP := Aside0.mk hp
        clear hp
        go_wp2_with (go_at_call 79; refine (impl_SigOk_1.calls _ _ _ HF.out).mono ?_; rintro e w' ⟨rfl, ⟨nd2, rfl⟩⟩)
        go_ret
        refine ⟨i, rfl, ?_, ⟨_, rfl⟩⟩
        have h2 : (l0.any fun t => decide (t.size ≠ 4)) = true := by
          rw [List.any_eq_true]
          refine ⟨rdOf ByteArray.empty l0 i, ?_, by have := HP.out; simpa using this⟩
          unfold rdOf
          rw [Int.toNat_natCast, List.getD_eq_getElem?_getD, List.getElem?_eq_getElem hlt]
          exact List.getElem_mem hlt
        rw [h2]
        simp
    · obtain ⟨nd, rfl⟩ := HD.out.out
      have HE := Aside0.mk (show i = l0.length by omega)
      go_wp2
      go_ret
      refine ⟨-1, rfl, ?_, ⟨_, rfl⟩⟩
      have h2 := HA.out
      rw [HE.out, List.take_length] at h2
      rw [h2]
      decide
theorem slices_ContainsFunc_SigOk.calls (A0 : Option Addr) (c0 : Nat) (l0 : List ByteArray) (r : Bool) (w : World) (hr0 : Kd.C Kd.string w A0 l0.length l0) (hc0 : l0.length ≤ c0) (h : slices_ContainsFunc_SigOk.f l0 = some r) :
    Calls Tryd.prog 78 #[.slice A0 l0.length c0, .func (.func 79) #[] #[]] w fun e w' => e = .returned (.bool r) ∧ Drawn0 w w' := by
  obtain rfl := Option.some.inj h
  go_enter Tryd.func78, Tryd.ntmps78
  go_wp2_with (go_at_call 138; refine (slices_IndexFunc_SigOk _ _ _ _ hr0).mono ?_; rintro e w' ⟨i, rfl, hi, ⟨nd, rfl⟩⟩)
  go_ret
  exact ⟨by simp, ⟨nd, rfl⟩⟩

/-! ### impl_SigOk: function 15 -/
def impl_SigOk.f (k : Nat) (a0_0 : Int) (a0_1 : Int) (l0_2 : List Int) (l0_3 : List ByteArray) : Option (Bool) := (impl_Sig_isCut.f a0_0 a0_1 l0_2 l0_3).bind fun t280 => (if t280 = true then (if (l0_2.length : Int) = (l0_3.length : Int) then (if a0_1 = 0 then ((slices_ContainsFunc_SigOk.f l0_3).bind fun t281 => (if t281 = true then (some false) else ((impl_SigLen.f k a0_0 a0_1 l0_2 l0_3).bind fun t282 => (some (decide (t282 ≤ 20000)))))) else (if (l0_2.length : Int) > 0 then ((slices_ContainsFunc_SigOk.f l0_3).bind fun t283 => (if t283 = true then (some false) else ((impl_SigLen.f k a0_0 a0_1 l0_2 l0_3).bind fun t284 => (some (decide (t284 ≤ 20000)))))) else (some false))) else (some false)) else (some false))
theorem impl_SigOk.mono : ∀ a0 a1 a2 a3 k, LeO (impl_SigOk.f k a0 a1 a2 a3) (impl_SigOk.f (k + 1) a0 a1 a2 a3) := by
 intro a0 a1 a2 a3 k
 unfold impl_SigOk.f
 repeat' first | (with_reducible first | exact impl_SigLen.mono _ _ _ _ _ | exact LeO.refl _ | exact LeO.none _ | refine LeO.ite ?_ ?_ | refine LeO.bind ?_ (fun _ => ?_)) | exact impl_SigLen.mono _ _ _ _ _ | exact LeO.none _ | refine LeO.ite ?_ ?_ | refine LeO.bind ?_ (fun _ => ?_)
set_option maxHeartbeats 8000000 in
set_option maxRecDepth 100000 in
theorem impl_SigOk.calls (k : Nat) (a0_0 : Int) (a0_1 : Int) (A0_2 : Option Addr) (c0_2 : Nat) (l0_2 : List Int) (A0_3 : Option Addr) (c0_3 : Nat) (l0_3 : List ByteArray) (r : Bool) (w : World) (hr0_2 : Kd.C (Kd.int .u32) w A0_2 l0_2.length l0_2) (hc0_2 : l0_2.length ≤ c0_2) (hr0_3 : Kd.C Kd.string w A0_3 l0_3.length l0_3) (hc0_3 : l0_3.length ≤ c0_3) (h : impl_SigOk.f k a0_0 a0_1 l0_2 l0_3 = some r) :
  Calls Tryd.prog 15 #[.agg #[.int .i64 a0_0, .int .i64 a0_1, .slice A0_2 l0_2.length c0_2, .slice A0_3 l0_3.length c0_3]] w fun e w' => e = .returned (.bool r) ∧ Below w.heap.size w w' := by
 have hu30 := Tryd.underlying30
 have HR0_2 := Aside0.mk hr0_2
 have HC0_2 := Aside0.mk hc0_2
 clear hr0_2 hc0_2
 have HR0_3 := Aside0.mk hr0_3
 have HC0_3 := Aside0.mk hc0_3
 clear hr0_3 hc0_3
 have HB := Aside0.mk (Below.refl w.heap.size w)
 have H : ((impl_Sig_isCut.f a0_0 a0_1 l0_2 l0_3).bind fun t280 => (if t280 = true then (if (l0_2.length : Int) = (l0_3.length : Int) then (if a0_1 = 0 then ((slices_ContainsFunc_SigOk.f l0_3).bind fun t281 => (if t281 = true then (some false) else ((impl_SigLen.f k a0_0 a0_1 l0_2 l0_3).bind fun t282 => (some (decide (t282 ≤ 20000)))))) else (if (l0_2.length : Int) > 0 then ((slices_ContainsFunc_SigOk.f l0_3).bind fun t283 => (if t283 = true then (some false) else ((impl_SigLen.f k a0_0 a0_1 l0_2 l0_3).bind fun t284 => (some (decide (t284 ≤ 20000)))))) else (some false))) else (some false)) else (some false))) = some r := h
 clear h
 replace H := Option.bind_eq_some_iff.mp H
 obtain ⟨t280, A20, H⟩ := H
 try dsimp -simprocs only at H
 have A2 := Aside0.mk A20
 clear A20
 by_cases c3 : t280 = true
 ·subst c3
  have H1 : (if (l0_2.length : Int) = (l0_3.length : Int) then (if a0_1 = 0 then ((slices_ContainsFunc_SigOk.f l0_3).bind fun t281 => (if t281 = true then (some false) else ((impl_SigLen.f k a0_0 a0_1 l0_2 l0_3).bind fun t282 => (some (decide (t282 ≤ 20000)))))) else (if (l0_2.length : Int) > 0 then ((slices_ContainsFunc_SigOk.f l0_3).bind fun t283 => (if t283 = true then (some false) else ((impl_SigLen.f k a0_0 a0_1 l0_2 l0_3).bind fun t284 => (some (decide (t284 ≤ 20000)))))) else (some false))) else (some false)) = some r := by rw [if_pos rfl] at H; exact H
  clear H
  have H := H1
  clear H1
  by_cases c4 : (l0_2.length : Int) = (l0_3.length : Int)
  ·rw [if_pos c4] at H
   have c4b0 : ((l0_2.length : Int) == (l0_3.length : Int)) = true := beq_iff_eq.mpr c4
   have c4b1 : ((l0_2.length : Int) != (l0_3.length : Int)) = false := bne_eq_false_iff_eq.mpr c4
   have c4b2 : (l0_2.length == l0_3.length) = true := by first | simpa using c4 | (simp at c4 ⊢; omega)
   clear c4
   by_cases c5 : a0_1 = 0
   ·rw [if_pos c5] at H
    have c5b0 : (a0_1 == 0) = true := beq_iff_eq.mpr c5
    have c5b1 : (a0_1 != 0) = false := bne_eq_false_iff_eq.mpr c5
    clear c5
    replace H := Option.bind_eq_some_iff.mp H
    obtain ⟨t281, A60, H⟩ := H
    try dsimp -simprocs only at H
    have A6 := Aside0.mk A60
    clear A60
    by_cases c7 : t281 = true
    ·subst c7
     have H1 : (some false) = some r := by rw [if_pos rfl] at H; exact H
     clear H
     have H := H1
     clear H1
     obtain rfl := Option.some.inj H
     go_enter Tryd.func15, Tryd.ntmps15
     go_wp2_with (first | ((with_reducible refine gate_dst (N := 1) rfl ?_); (try (refine gate_guard (by rfl) ?_; dsimp only)); refine box_event ?hg (N := 1) ?hd (cs := #[.int .i64 a0_0, .int .i64 a0_1, .slice A0_2 l0_2.length c0_2, .slice A0_3 l0_3.length c0_3]) (t := 30) ?hr ?_; (case hd => rfl); (case hg => rfl); (case hr => first | (go_simp; done) | (go_simp; rfl)); intro gb279 hg w8 hbox hb; have n0_ := Aside0.mk (below_step bz hb); have n1_ := Aside0.mk (hbox); have n2_ := Aside0.mk (bg : w.heap.size ≤ gb279); have n3_ := Aside0.mk (bg : w.heap.size ≤ gb279); clear HB; have HB := n0_; have BK279 := n1_; have GW279 := n2_; have GE279 := n3_; clear n0_ n1_ n2_ n3_; clear hb hbox hg; obtain ⟨hcz9_0, hcz9_1, hcz9_2, hcz9_3, hfz9_0, hfz9_1, hfz9_2, hfz9_3⟩ := bc4 BK279.out) | ((with_reducible refine gate_callee (f := 77) rfl ?_); refine goesL_ (some 4) rfl rfl Tryd.func77 (by kernel_rfl) rfl #[.agg #[.int .i64 a0_0, .int .i64 a0_1, .slice A0_2 l0_2.length c0_2, .slice A0_3 l0_3.length c0_3]] rfl mt ?_; (with_reducible refine (impl_Sig_isCut.calls a0_0 a0_1 _ _ l0_2 _ _ l0_3 true _ ?side1 ?side2 ?side3 ?side4 A2.out).mono ?_); (case side1 => exact cz HR0_2); (case side2 => exact HC0_2.out); (case side3 => exact cz HR0_3); (case side4 => exact HC0_3.out); rintro e w10 ⟨rfl, hb⟩; refine ⟨_, rfl, ?_⟩; have n0_ := Aside0.mk (blk_below (bo BK279) hb); have n1_ := Aside0.mk (below_step bz hb); clear BK279; clear HB; have BK279 := n0_; have HB := n1_; clear n0_ n1_; (try clear hb); (try clear hb2); (try clear hk); (try clear hi); obtain ⟨hcz11_0, hcz11_1, hcz11_2, hcz11_3, hfz11_0, hfz11_1, hfz11_2, hfz11_3⟩ := bc4 BK279.out) | (go_at_call 78; (with_reducible refine (slices_ContainsFunc_SigOk.calls _ _ l0_3  true _ ?side1 ?side2 A6.out).mono ?_); (case side1 => exact cz HR0_3); (case side2 => exact HC0_3.out); rintro e w' ⟨rfl, ⟨nd, rfl⟩⟩))
     go_ret
     exact ⟨rq, bz⟩
    ·replace c7 := Bool.eq_false_iff.mpr c7
     subst c7
     have H1 : ((impl_SigLen.f k a0_0 a0_1 l0_2 l0_3).bind fun t282 => (some (decide (t282 ≤ 20000)))) = some r := by rw [if_neg (show ¬ (false = true) by decide)] at H; exact H
     clear H
     have H := H1
     clear H1
     replace H := Option.bind_eq_some_iff.mp H
     obtain ⟨t282, A120, H⟩ := H
     try dsimp -simprocs only at H
     have A12 := Aside0.mk A120
     clear A120
     obtain rfl := Option.some.inj H
     go_enter Tryd.func15, Tryd.ntmps15
     go_wp2_with (first | ((with_reducible refine gate_dst (N := 1) rfl ?_); (try (refine gate_guard (by rfl) ?_; dsimp only)); refine box_event ?hg (N := 1) ?hd (cs := #[.int .i64 a0_0, .int .i64 a0_1, .slice A0_2 l0_2.length c0_2, .slice A0_3 l0_3.length c0_3]) (t := 30) ?hr ?_; (case hd => rfl); (case hg => rfl); (case hr => first | (go_simp; done) | (go_simp; rfl)); intro gb279 hg w13 hbox hb; have n0_ := Aside0.mk (below_step bz hb); have n1_ := Aside0.mk (hbox); have n2_ := Aside0.mk (bg : w.heap.size ≤ gb279); have n3_ := Aside0.mk (bg : w.heap.size ≤ gb279); clear HB; have HB := n0_; have BK279 := n1_; have GW279 := n2_; have GE279 := n3_; clear n0_ n1_ n2_ n3_; clear hb hbox hg; obtain ⟨hcz14_0, hcz14_1, hcz14_2, hcz14_3, hfz14_0, hfz14_1, hfz14_2, hfz14_3⟩ := bc4 BK279.out) | ((with_reducible refine gate_callee (f := 77) rfl ?_); refine goesL_ (some 4) rfl rfl Tryd.func77 (by kernel_rfl) rfl #[.agg #[.int .i64 a0_0, .int .i64 a0_1, .slice A0_2 l0_2.length c0_2, .slice A0_3 l0_3.length c0_3]] rfl mt ?_; (with_reducible refine (impl_Sig_isCut.calls a0_0 a0_1 _ _ l0_2 _ _ l0_3 true _ ?side1 ?side2 ?side3 ?side4 A2.out).mono ?_); (case side1 => exact cz HR0_2); (case side2 => exact HC0_2.out); (case side3 => exact cz HR0_3); (case side4 => exact HC0_3.out); rintro e w15 ⟨rfl, hb⟩; refine ⟨_, rfl, ?_⟩; have n0_ := Aside0.mk (blk_below (bo BK279) hb); have n1_ := Aside0.mk (below_step bz hb); clear BK279; clear HB; have BK279 := n0_; have HB := n1_; clear n0_ n1_; (try clear hb); (try clear hb2); (try clear hk); (try clear hi); obtain ⟨hcz16_0, hcz16_1, hcz16_2, hcz16_3, hfz16_0, hfz16_1, hfz16_2, hfz16_3⟩ := bc4 BK279.out) | (go_at_call 78; (with_reducible refine (slices_ContainsFunc_SigOk.calls _ _ l0_3  false _ ?side1 ?side2 A6.out).mono ?_); (case side1 => exact cz HR0_3); (case side2 => exact HC0_3.out); rintro e w' ⟨rfl, ⟨nd, rfl⟩⟩) | (go_at_call 16; (with_reducible refine (impl_SigLen.calls k a0_0 a0_1 _ _ l0_2 _ _ l0_3 t282 _ ?side1 ?side2 ?side3 ?side4 A12.out).mono ?_); (case side1 => repeat (first | exact (Kd.C_below HR0_2.out bz) | (with_reducible refine Kd.C_alloc ?_ _) | (with_reducible refine Kd.C_drewN ?_ _) | (with_reducible refine Kd.C_drew ?_))); (case side2 => exact HC0_2.out); (case side3 => repeat (first | exact (Kd.C_below HR0_3.out bz) | (with_reducible refine Kd.C_alloc ?_ _) | (with_reducible refine Kd.C_drewN ?_ _) | (with_reducible refine Kd.C_drew ?_))); (case side4 => exact HC0_3.out); rintro e w17 ⟨rfl, hb⟩; have n0_ := Aside0.mk (blk_below (bo BK279) hb); have n1_ := Aside0.mk (below_step bz hb); clear BK279; clear HB; have BK279 := n0_; have HB := n1_; clear n0_ n1_; (try clear hb); (try clear hb2); (try clear hk); (try clear hi)))
     go_ret
     exact ⟨rq, bz⟩
   ·rw [if_neg c5] at H
    have c5b0 : (a0_1 == 0) = false := beq_eq_false_iff_ne.mpr c5
    have c5b1 : (a0_1 != 0) = true := bne_iff_ne.mpr c5
    by_cases c18 : (l0_2.length : Int) > 0
    ·rw [if_pos c18] at H
     have c18b0 : decide (0 < (l0_2.length : Int)) = true := decide_eq_true c18
     have c18b1 : decide (0 < l0_2.length) = true := decide_eq_true (by omega)
     clear c18
     replace H := Option.bind_eq_some_iff.mp H
     obtain ⟨t283, A190, H⟩ := H
     try dsimp -simprocs only at H
     have A19 := Aside0.mk A190
     clear A190
     by_cases c20 : t283 = true
     ·subst c20
      have H1 : (some false) = some r := by rw [if_pos rfl] at H; exact H
      clear H
      have H := H1
      clear H1
      obtain rfl := Option.some.inj H
      go_enter Tryd.func15, Tryd.ntmps15
      go_wp2_with (first | ((with_reducible refine gate_dst (N := 1) rfl ?_); (try (refine gate_guard (by rfl) ?_; dsimp only)); refine box_event ?hg (N := 1) ?hd (cs := #[.int .i64 a0_0, .int .i64 a0_1, .slice A0_2 l0_2.length c0_2, .slice A0_3 l0_3.length c0_3]) (t := 30) ?hr ?_; (case hd => rfl); (case hg => rfl); (case hr => first | (go_simp; done) | (go_simp; rfl)); intro gb279 hg w21 hbox hb; have n0_ := Aside0.mk (below_step bz hb); have n1_ := Aside0.mk (hbox); have n2_ := Aside0.mk (bg : w.heap.size ≤ gb279); have n3_ := Aside0.mk (bg : w.heap.size ≤ gb279); clear HB; have HB := n0_; have BK279 := n1_; have GW279 := n2_; have GE279 := n3_; clear n0_ n1_ n2_ n3_; clear hb hbox hg; obtain ⟨hcz22_0, hcz22_1, hcz22_2, hcz22_3, hfz22_0, hfz22_1, hfz22_2, hfz22_3⟩ := bc4 BK279.out) | ((with_reducible refine gate_callee (f := 77) rfl ?_); refine goesL_ (some 4) rfl rfl Tryd.func77 (by kernel_rfl) rfl #[.agg #[.int .i64 a0_0, .int .i64 a0_1, .slice A0_2 l0_2.length c0_2, .slice A0_3 l0_3.length c0_3]] rfl mt ?_; (with_reducible refine (impl_Sig_isCut.calls a0_0 a0_1 _ _ l0_2 _ _ l0_3 true _ ?side1 ?side2 ?side3 ?side4 A2.out).mono ?_); (case side1 => exact cz HR0_2); (case side2 => exact HC0_2.out); (case side3 => exact cz HR0_3); (case side4 => exact HC0_3.out); rintro e w23 ⟨rfl, hb⟩; refine ⟨_, rfl, ?_⟩; have n0_ := Aside0.mk (blk_below (bo BK279) hb); have n1_ := Aside0.mk (below_step bz hb); clear BK279; clear HB; have BK279 := n0_; have HB := n1_; clear n0_ n1_; (try clear hb); (try clear hb2); (try clear hk); (try clear hi); obtain ⟨hcz24_0, hcz24_1, hcz24_2, hcz24_3, hfz24_0, hfz24_1, hfz24_2, hfz24_3⟩ := bc4 BK279.out) | (go_at_call 78; (with_reducible refine (slices_ContainsFunc_SigOk.calls _ _ l0_3  true _ ?side1 ?side2 A19.out).mono ?_); (case side1 => exact cz HR0_3); (case side2 => exact HC0_3.out); rintro e w' ⟨rfl, ⟨nd, rfl⟩⟩))
      go_ret
      exact ⟨rq, bz⟩
     ·replace c20 := Bool.eq_false_iff.mpr c20
      subst c20
      have H1 : ((impl_SigLen.f k a0_0 a0_1 l0_2 l0_3).bind fun t284 => (some (decide (t284 ≤ 20000)))) = some r := by rw [if_neg (show ¬ (false = true) by decide)] at H; exact H
      clear H
      have H := H1
      clear H1
      replace H := Option.bind_eq_some_iff.mp H
      obtain ⟨t284, A250, H⟩ := H
      try dsimp -simprocs only at H
      have A25 := Aside0.mk A250
      clear A250
      obtain rfl := Option.some.inj H
      go_enter Tryd.func15, Tryd.ntmps15
      go_wp2_with (first | ((with_reducible refine gate_dst (N := 1) rfl ?_); (try (refine gate_guard (by rfl) ?_; dsimp only)); refine box_event ?hg (N := 1) ?hd (cs := #[.int .i64 a0_0, .int .i64 a0_1, .slice A0_2 l0_2.length c0_2, .slice A0_3 l0_3.length c0_3]) (t := 30) ?hr ?_; (case hd => rfl); (case hg => rfl); (case hr => first | (go_simp; done) | (go_simp; rfl)); intro gb279 hg w26 hbox hb; have n0_ := Aside0.mk (below_step bz hb); have n1_ := Aside0.mk (hbox); have n2_ := Aside0.mk (bg : w.heap.size ≤ gb279); have n3_ := Aside0.mk (bg : w.heap.size ≤ gb279); clear HB; have HB := n0_; have BK279 := n1_; have GW279 := n2_; have GE279 := n3_; clear n0_ n1_ n2_ n3_; clear hb hbox hg; obtain ⟨hcz27_0, hcz27_1, hcz27_2, hcz27_3, hfz27_0, hfz27_1, hfz27_2, hfz27_3⟩ := bc4 BK279.out) | ((with_reducible refine gate_callee (f := 77) rfl ?_); refine goesL_ (some 4) rfl rfl Tryd.func77 (by kernel_rfl) rfl #[.agg #[.int .i64 a0_0, .int .i64 a0_1, .slice A0_2 l0_2.length c0_2, .slice A0_3 l0_3.length c0_3]] rfl mt ?_; (with_reducible refine (impl_Sig_isCut.calls a0_0 a0_1 _ _ l0_2 _ _ l0_3 true _ ?side1 ?side2 ?side3 ?side4 A2.out).mono ?_); (case side1 => exact cz HR0_2); (case side2 => exact HC0_2.out); (case side3 => exact cz HR0_3); (case side4 => exact HC0_3.out); rintro e w28 ⟨rfl, hb⟩; refine ⟨_, rfl, ?_⟩; have n0_ := Aside0.mk (blk_below (bo BK279) hb); have n1_ := Aside0.mk (below_step bz hb); clear BK279; clear HB; have BK279 := n0_; have HB := n1_; clear n0_ n1_; (try clear hb); (try clear hb2); (try clear hk); (try clear hi); obtain ⟨hcz29_0, hcz29_1, hcz29_2, hcz29_3, hfz29_0, hfz29_1, hfz29_2, hfz29_3⟩ := bc4 BK279.out) | (go_at_call 78; (with_reducible refine (slices_ContainsFunc_SigOk.calls _ _ l0_3  false _ ?side1 ?side2 A19.out).mono ?_); (case side1 => exact cz HR0_3); (case side2 => exact HC0_3.out); rintro e w' ⟨rfl, ⟨nd, rfl⟩⟩) | (go_at_call 16; (with_reducible refine (impl_SigLen.calls k a0_0 a0_1 _ _ l0_2 _ _ l0_3 t284 _ ?side1 ?side2 ?side3 ?side4 A25.out).mono ?_); (case side1 => repeat (first | exact (Kd.C_below HR0_2.out bz) | (with_reducible refine Kd.C_alloc ?_ _) | (with_reducible refine Kd.C_drewN ?_ _) | (with_reducible refine Kd.C_drew ?_))); (case side2 => exact HC0_2.out); (case side3 => repeat (first | exact (Kd.C_below HR0_3.out bz) | (with_reducible refine Kd.C_alloc ?_ _) | (with_reducible refine Kd.C_drewN ?_ _) | (with_reducible refine Kd.C_drew ?_))); (case side4 => exact HC0_3.out); rintro e w30 ⟨rfl, hb⟩; have n0_ := Aside0.mk (blk_below (bo BK279) hb); have n1_ := Aside0.mk (below_step bz hb); clear BK279; clear HB; have BK279 := n0_; have HB := n1_; clear n0_ n1_; (try clear hb); (try clear hb2); (try clear hk); (try clear hi)))
      go_ret
      exact ⟨rq, bz⟩
    ·rw [if_neg c18] at H
     have c18b0 : decide (0 < (l0_2.length : Int)) = false := decide_eq_false c18
     have c18b1 : decide (0 < l0_2.length) = false := decide_eq_false (by omega)
     clear c18
     obtain rfl := Option.some.inj H
     go_enter Tryd.func15, Tryd.ntmps15
     go_wp2_with (first | ((with_reducible refine gate_dst (N := 1) rfl ?_); (try (refine gate_guard (by rfl) ?_; dsimp only)); refine box_event ?hg (N := 1) ?hd (cs := #[.int .i64 a0_0, .int .i64 a0_1, .slice A0_2 l0_2.length c0_2, .slice A0_3 l0_3.length c0_3]) (t := 30) ?hr ?_; (case hd => rfl); (case hg => rfl); (case hr => first | (go_simp; done) | (go_simp; rfl)); intro gb279 hg w31 hbox hb; have n0_ := Aside0.mk (below_step bz hb); have n1_ := Aside0.mk (hbox); have n2_ := Aside0.mk (bg : w.heap.size ≤ gb279); have n3_ := Aside0.mk (bg : w.heap.size ≤ gb279); clear HB; have HB := n0_; have BK279 := n1_; have GW279 := n2_; have GE279 := n3_; clear n0_ n1_ n2_ n3_; clear hb hbox hg; obtain ⟨hcz32_0, hcz32_1, hcz32_2, hcz32_3, hfz32_0, hfz32_1, hfz32_2, hfz32_3⟩ := bc4 BK279.out) | ((with_reducible refine gate_callee (f := 77) rfl ?_); refine goesL_ (some 4) rfl rfl Tryd.func77 (by kernel_rfl) rfl #[.agg #[.int .i64 a0_0, .int .i64 a0_1, .slice A0_2 l0_2.length c0_2, .slice A0_3 l0_3.length c0_3]] rfl mt ?_; (with_reducible refine (impl_Sig_isCut.calls a0_0 a0_1 _ _ l0_2 _ _ l0_3 true _ ?side1 ?side2 ?side3 ?side4 A2.out).mono ?_); (case side1 => exact cz HR0_2); (case side2 => exact HC0_2.out); (case side3 => exact cz HR0_3); (case side4 => exact HC0_3.out); rintro e w33 ⟨rfl, hb⟩; refine ⟨_, rfl, ?_⟩; have n0_ := Aside0.mk (blk_below (bo BK279) hb); have n1_ := Aside0.mk (below_step bz hb); clear BK279; clear HB; have BK279 := n0_; have HB := n1_; clear n0_ n1_; (try clear hb); (try clear hb2); (try clear hk); (try clear hi); obtain ⟨hcz34_0, hcz34_1, hcz34_2, hcz34_3, hfz34_0, hfz34_1, hfz34_2, hfz34_3⟩ := bc4 BK279.out))
     go_ret
     exact ⟨rq, bz⟩
  ·rw [if_neg c4] at H
   have c4b0 : ((l0_2.length : Int) == (l0_3.length : Int)) = false := beq_eq_false_iff_ne.mpr c4
   have c4b1 : ((l0_2.length : Int) != (l0_3.length : Int)) = true := bne_iff_ne.mpr c4
   have c4b2 : (l0_2.length == l0_3.length) = false := by first | simpa using c4 | (simp at c4 ⊢; omega)
   obtain rfl := Option.some.inj H
   go_enter Tryd.func15, Tryd.ntmps15
   go_wp2_with (first | ((with_reducible refine gate_dst (N := 1) rfl ?_); (try (refine gate_guard (by rfl) ?_; dsimp only)); refine box_event ?hg (N := 1) ?hd (cs := #[.int .i64 a0_0, .int .i64 a0_1, .slice A0_2 l0_2.length c0_2, .slice A0_3 l0_3.length c0_3]) (t := 30) ?hr ?_; (case hd => rfl); (case hg => rfl); (case hr => first | (go_simp; done) | (go_simp; rfl)); intro gb279 hg w35 hbox hb; have n0_ := Aside0.mk (below_step bz hb); have n1_ := Aside0.mk (hbox); have n2_ := Aside0.mk (bg : w.heap.size ≤ gb279); have n3_ := Aside0.mk (bg : w.heap.size ≤ gb279); clear HB; have HB := n0_; have BK279 := n1_; have GW279 := n2_; have GE279 := n3_; clear n0_ n1_ n2_ n3_; clear hb hbox hg; obtain ⟨hcz36_0, hcz36_1, hcz36_2, hcz36_3, hfz36_0, hfz36_1, hfz36_2, hfz36_3⟩ := bc4 BK279.out) | ((with_reducible refine gate_callee (f := 77) rfl ?_); refine goesL_ (some 4) rfl rfl Tryd.func77 (by kernel_rfl) rfl #[.agg #[.int .i64 a0_0, .int .i64 a0_1, .slice A0_2 l0_2.length c0_2, .slice A0_3 l0_3.length c0_3]] rfl mt ?_; (with_reducible refine (impl_Sig_isCut.calls a0_0 a0_1 _ _ l0_2 _ _ l0_3 true _ ?side1 ?side2 ?side3 ?side4 A2.out).mono ?_); (case side1 => exact cz HR0_2); (case side2 => exact HC0_2.out); (case side3 => exact cz HR0_3); (case side4 => exact HC0_3.out); rintro e w37 ⟨rfl, hb⟩; refine ⟨_, rfl, ?_⟩; have n0_ := Aside0.mk (blk_below (bo BK279) hb); have n1_ := Aside0.mk (below_step bz hb); clear BK279; clear HB; have BK279 := n0_; have HB := n1_; clear n0_ n1_; (try clear hb); (try clear hb2); (try clear hk); (try clear hi); obtain ⟨hcz38_0, hcz38_1, hcz38_2, hcz38_3, hfz38_0, hfz38_1, hfz38_2, hfz38_3⟩ := bc4 BK279.out))
   go_ret
   exact ⟨rq, bz⟩
 ·replace c3 := Bool.eq_false_iff.mpr c3
  subst c3
  have H1 : (some false) = some r := by rw [if_neg (show ¬ (false = true) by decide)] at H; exact H
  clear H
  have H := H1
  clear H1
  obtain rfl := Option.some.inj H
  go_enter Tryd.func15, Tryd.ntmps15
  go_wp2_with (first | ((with_reducible refine gate_dst (N := 1) rfl ?_); (try (refine gate_guard (by rfl) ?_; dsimp only)); refine box_event ?hg (N := 1) ?hd (cs := #[.int .i64 a0_0, .int .i64 a0_1, .slice A0_2 l0_2.length c0_2, .slice A0_3 l0_3.length c0_3]) (t := 30) ?hr ?_; (case hd => rfl); (case hg => rfl); (case hr => first | (go_simp; done) | (go_simp; rfl)); intro gb279 hg w39 hbox hb; have n0_ := Aside0.mk (below_step bz hb); have n1_ := Aside0.mk (hbox); have n2_ := Aside0.mk (bg : w.heap.size ≤ gb279); have n3_ := Aside0.mk (bg : w.heap.size ≤ gb279); clear HB; have HB := n0_; have BK279 := n1_; have GW279 := n2_; have GE279 := n3_; clear n0_ n1_ n2_ n3_; clear hb hbox hg; obtain ⟨hcz40_0, hcz40_1, hcz40_2, hcz40_3, hfz40_0, hfz40_1, hfz40_2, hfz40_3⟩ := bc4 BK279.out) | ((with_reducible refine gate_callee (f := 77) rfl ?_); refine goesL_ (some 4) rfl rfl Tryd.func77 (by kernel_rfl) rfl #[.agg #[.int .i64 a0_0, .int .i64 a0_1, .slice A0_2 l0_2.length c0_2, .slice A0_3 l0_3.length c0_3]] rfl mt ?_; (with_reducible refine (impl_Sig_isCut.calls a0_0 a0_1 _ _ l0_2 _ _ l0_3 false _ ?side1 ?side2 ?side3 ?side4 A2.out).mono ?_); (case side1 => exact cz HR0_2); (case side2 => exact HC0_2.out); (case side3 => exact cz HR0_3); (case side4 => exact HC0_3.out); rintro e w41 ⟨rfl, hb⟩; refine ⟨_, rfl, ?_⟩; have n0_ := Aside0.mk (blk_below (bo BK279) hb); have n1_ := Aside0.mk (below_step bz hb); clear BK279; clear HB; have BK279 := n0_; have HB := n1_; clear n0_ n1_; (try clear hb); (try clear hb2); (try clear hk); (try clear hi)))
  go_ret
  exact ⟨rq, bz⟩

-- NOT PRINTED: function 179 (strings_Builder_String)

-- NOT PRINTED: function 216 (abi_NoEscape)

-- NOT PRINTED: function 207 (strings_Builder_copyCheck)

-- NOT PRINTED: function 187 (strings_Builder_WriteByte)

/-! ### impl_varText: function 139 (by hand) -/
/-- The bytes of a number that is not below 0: seven bits a byte, the least first. -/
def vtl (n : Nat) : List UInt8 := if n < 128 then [n.toUInt8] else (n % 128 + 128).toUInt8 :: vtl (n / 128)
termination_by n
decreasing_by omega
theorem vtl_small {n : Nat} (h : n < 128) : vtl n = [n.toUInt8] := by rw [vtl, if_pos h]
theorem vtl_big {n : Nat} (h : ¬ n < 128) : vtl n = (n % 128 + 128).toUInt8 :: vtl (n / 128) := by rw [vtl, if_neg h]
theorem vtl_len : ∀ (k n : Nat), n < 128 ^ (k + 1) → (vtl n).length ≤ k + 1 := by
  intro k
  induction k with
  | zero => intro n h; rw [vtl_small (by simpa using h)]; simp
  | succ k ih =>
    intro n h
    by_cases h1 : n < 128
    · rw [vtl_small h1]; simp
    · rw [vtl_big h1]
      have := ih (n / 128) (by rw [Nat.div_lt_iff_lt_mul (by omega)]; rwa [Nat.pow_succ] at h)
      simp only [List.length_cons]
      omega
/-- What varText tells of any number: below 0 one byte. -/
def vti (x : Int) : List UInt8 := if 0 ≤ x then vtl x.toNat else [(x % 256).toNat.toUInt8]
theorem vti_small {x : Int} (h : x ≤ 127) : vti x = [(x % 256).toNat.toUInt8] := by
  unfold vti
  split
  · rw [vtl_small (by omega)]; congr 2; omega
  · rfl
theorem vti_big {x : Int} (h : 127 < x) : vti x = ((x % 128 + 128).toNat).toUInt8 :: vti (x / 128) := by
  unfold vti
  rw [if_pos (by omega), if_pos (by omega), vtl_big (by omega)]
  congr 2
  · congr 1; omega
  · omega
theorem vti_len {x : Int} (h : x ≤ 9223372036854775807) : (vti x).length ≤ 9 := by
  unfold vti
  split
  · exact vtl_len 8 _ (by have : (128 : Nat) ^ (8 + 1) = 9223372036854775808 := by decide
                          omega)
  · simp
theorem vti_byte {n : Int} (h0 : 0 ≤ n) (h1 : n < 256) : (n.toNat.toUInt8.toNat : Int) = n := by
  show ((UInt8.ofNat n.toNat).toNat : Int) = n
  rw [UInt8.toNat_ofNat']
  omega
def impl_varText.f (a0 : Int) : Option (ByteArray) := if a0 ≤ 9223372036854775807 then some ⟨(vti a0).toArray⟩ else none
set_option maxHeartbeats 4000000 in
set_option maxRecDepth 100000 in
theorem impl_varText.calls (a0 : Int) (r : ByteArray) (w : World) (h : impl_varText.f a0 = some r) :
    Calls Tryd.prog 139 #[.int .i64 a0] w fun e w' => e = .returned (.string r) ∧ Below w.heap.size w w' := by
  unfold impl_varText.f at h
  by_cases hle : a0 ≤ 9223372036854775807
  case neg => rw [if_neg hle] at h; cases h
  rw [if_pos hle] at h
  obtain rfl := Option.some.inj h
  clear h
  have hu := Tryd.underlying191
  have HF := Aside0.mk (Lib.fresh_isBuilder 191 5 w)
  go_enter Tryd.func139, Tryd.ntmps139
  go_wp2
  go_loopw [0] (fun v w' => ∃ (x : Int) (bs : List UInt8), v = .int .i64 x ∧ x ≤ 9223372036854775807 ∧ Aside0 (bs ++ vti x = vti a0) ∧ Lib.IsBuilder 191 5 w.heap.size w.heap.size (Lib.byteCells bs) w' ∧ Aside0 (Below w.heap.size w w')) (fun v _ => (intOf v).toNat)
  case atStart => exact ⟨a0, [], rfl, hle, ⟨rfl⟩, HF.out, ⟨(Below.refl _ _).alloc (Nat.le_refl _) _⟩⟩
  case round =>
    obtain ⟨x, bs, rfl, hx, HE, hb, HB⟩ := hrel
    have HL : Aside0 (bs.length + (vti x).length ≤ 9) := ⟨by have h1 := congrArg List.length HE.out; have h2 := vti_len hle; simp only [List.length_append] at h1; omega⟩
    by_cases hc : 127 < x
    · have HE2 : Aside0 ((bs ++ [((x % 128 + 128).toNat).toUInt8]) ++ vti (x / 128) = vti a0) := ⟨by rw [← HE.out, vti_big hc]; simp⟩
      have HC : Aside0 (Lib.byteCells bs ++ [Value.int .u8 (bits .or .u8 (bits .and .i64 x 127 % 256) 128)] = Lib.byteCells (bs ++ [((x % 128 + 128).toNat).toUInt8])) := ⟨by
        rw [i64_and127, show x % 128 % 256 = x % 128 from by omega, u8_or128_right _ (by omega) (by omega)]
        simp only [Lib.byteCells, List.map_append, List.map_cons, List.map_nil]
        rw [vti_byte (by omega) (by omega)]⟩
      have hl : (Lib.byteCells bs).length + 1 ≤ 140737488355328 := by rw [Lib.byteCells_length]; have := HL.out; omega
      have hs := HB.out.size
      go_wp2_with (go_at_call 187; refine (bld_writeByte _ _ _ _ _ hb hl hs).mono ?_; rintro e w2 ⟨rfl, hb2, hB2, -⟩)
      rw [HC.out] at hb2
      go_roundw
      case rel => exact ⟨x / 128, bs ++ [((x % 128 + 128).toNat).toUInt8], by first | rfl | simp, by omega, HE2, .inr hb2, ⟨HB.out.trans hB2⟩⟩
      case measure => simp [intOf]; omega
    · have HC : Aside0 (Lib.byteCells bs ++ [Value.int .u8 (x % 256)] = Lib.byteCells (vti a0)) := ⟨by
        rw [← HE.out, vti_small (by omega)]
        simp only [Lib.byteCells, List.map_append, List.map_cons, List.map_nil]
        rw [vti_byte (by omega) (by omega)]⟩
      have hl : (Lib.byteCells bs).length + 1 ≤ 140737488355328 := by rw [Lib.byteCells_length]; have := HL.out; omega
      have hs := HB.out.size
      go_wp2_with (go_at_call 187; refine (bld_writeByte _ _ _ _ _ hb hl hs).mono ?_; rintro e w2 ⟨rfl, hb2, hB2, -⟩)
      rw [HC.out] at hb2
      have hs2 : w.heap.size ≤ w2.heap.size := Nat.le_trans hs hB2.size
      go_wp2_with (go_at_call 179; refine (Tryd.Builder_String_any _ _ _ _ (.inr hb2) hs2).mono ?_; rintro e w3 ⟨rfl, hB3⟩)
      go_ret
      exact ⟨rfl, (HB.out.trans hB2).trans hB3⟩

-- NOT PRINTED: function 176 (strings_Builder_WriteString)

-- NOT PRINTED: function 209 (impl_Token_209)

-- NOT PRINTED: function 185 (impl_Token_185)

/-! ### impl_TokenOk: function 151 -/
def impl_TokenOk.f (a0_0 : Int) (a0_1 : ByteArray) (a0_2 : Int) (a0_3 : Int) : Option (Bool) := if a0_0 = 0 then ((impl_within.f (a0_1.size : Int) 1 100).bind fun t286 => (if t286 = true then (if a0_2 = 0 then (some (a0_3 == 0)) else (some false)) else (some false))) else (if a0_0 = 1 then (if a0_1.toList = ([] : List UInt8) then (if a0_2 ≥ 0 then (some (decide (a0_3 ≥ 1))) else (some false)) else (some false)) else (some false))
set_option maxHeartbeats 8000000 in
set_option maxRecDepth 100000 in
theorem impl_TokenOk.calls (a0_0 : Int) (a0_1 : ByteArray) (a0_2 : Int) (a0_3 : Int) (r : Bool) (w : World) (h : impl_TokenOk.f a0_0 a0_1 a0_2 a0_3 = some r) :
  Calls Tryd.prog 151 #[.agg #[.int .i64 a0_0, .string a0_1, .int .i64 a0_2, .int .i64 a0_3]] w fun e w' => e = .returned (.bool r) ∧ Below w.heap.size w w' := by
 have hu148 := Tryd.underlying148
 have HB := Aside0.mk (Below.refl w.heap.size w)
 have H : (if a0_0 = 0 then ((impl_within.f (a0_1.size : Int) 1 100).bind fun t286 => (if t286 = true then (if a0_2 = 0 then (some (a0_3 == 0)) else (some false)) else (some false))) else (if a0_0 = 1 then (if a0_1.toList = ([] : List UInt8) then (if a0_2 ≥ 0 then (some (decide (a0_3 ≥ 1))) else (some false)) else (some false)) else (some false))) = some r := h
 clear h
 have HC2 := Aside0.mk H
 clear H
 go_enter Tryd.func151, Tryd.ntmps151
 go_upto_if 5 with (first | ((with_reducible refine gate_dst (N := 1) rfl ?_); refine box_event ?hg (N := 1) ?hd (cs := #[.int .i64 a0_0, .string a0_1, .int .i64 a0_2, .int .i64 a0_3]) (t := 148) ?hr ?_; (case hd => rfl); (case hg => rfl); (case hr => first | (go_simp; done) | (go_simp; rfl)); intro gb285 hg w3 hbox hb; have n0_ := Aside0.mk (below_step bz hb); have n1_ := Aside0.mk (hbox); have n2_ := Aside0.mk (bg : w.heap.size ≤ gb285); have n3_ := Aside0.mk (bg : w.heap.size ≤ gb285); clear HB; have HB := n0_; have BK285 := n1_; have GW285 := n2_; have GE285 := n3_; clear n0_ n1_ n2_ n3_; clear hb hbox hg; obtain ⟨hcz4_0, hcz4_1, hcz4_2, hcz4_3, hfz4_0, hfz4_1, hfz4_2, hfz4_3⟩ := bc4 BK285.out))
 (try simp only [Act.put, List.setIfInBounds_toArray, List.set_cons_zero, List.set_cons_succ])
 have H := HC2.out
 clear HC2
 by_cases c5 : a0_0 = 0
 ·rw [if_pos c5] at H
  have c5b0 : (a0_0 == 0) = true := beq_iff_eq.mpr c5
  have c5b1 : (a0_0 != 0) = false := bne_eq_false_iff_eq.mpr c5
  clear c5
  (first | rw [c5b0] | (simp only [i64_w, i32_w]; rw [c5b0]) | skip)
  replace H := Option.bind_eq_some_iff.mp H
  obtain ⟨t286, A60, H⟩ := H
  try dsimp -simprocs only at H
  have A6 := Aside0.mk A60
  clear A60
  by_cases c7 : t286 = true
  ·subst c7
   have H1 : (if a0_2 = 0 then (some (a0_3 == 0)) else (some false)) = some r := by rw [if_pos rfl] at H; exact H
   clear H
   have H := H1
   clear H1
   by_cases c8 : a0_2 = 0
   ·rw [if_pos c8] at H
    have c8b0 : (a0_2 == 0) = true := beq_iff_eq.mpr c8
    have c8b1 : (a0_2 != 0) = false := bne_eq_false_iff_eq.mpr c8
    clear c8
    obtain rfl := Option.some.inj H
    obtain ⟨hcz9_0, hcz9_1, hcz9_2, hcz9_3, hfz9_0, hfz9_1, hfz9_2, hfz9_3⟩ := bc4 BK285.out
    go_wp2_with (first | ((with_reducible refine gate_callee (f := 69) rfl ?_); refine goesL_ (some 10) rfl rfl Tryd.func69 (by kernel_rfl) rfl #[.int .i64 (a0_1.size : Int), .int .i64 1, .int .i64 100] rfl mt ?_; (with_reducible refine (impl_within.calls (a0_1.size : Int) 1 100 true _ A6.out).mono ?_); rintro e w' ⟨rfl, ⟨nd, rfl⟩⟩; refine ⟨_, rfl, ?_⟩))
    go_ret
    exact ⟨rq, bz⟩
   ·rw [if_neg c8] at H
    have c8b0 : (a0_2 == 0) = false := beq_eq_false_iff_ne.mpr c8
    have c8b1 : (a0_2 != 0) = true := bne_iff_ne.mpr c8
    obtain rfl := Option.some.inj H
    obtain ⟨hcz10_0, hcz10_1, hcz10_2, hcz10_3, hfz10_0, hfz10_1, hfz10_2, hfz10_3⟩ := bc4 BK285.out
    go_wp2_with (first | ((with_reducible refine gate_callee (f := 69) rfl ?_); refine goesL_ (some 10) rfl rfl Tryd.func69 (by kernel_rfl) rfl #[.int .i64 (a0_1.size : Int), .int .i64 1, .int .i64 100] rfl mt ?_; (with_reducible refine (impl_within.calls (a0_1.size : Int) 1 100 true _ A6.out).mono ?_); rintro e w' ⟨rfl, ⟨nd, rfl⟩⟩; refine ⟨_, rfl, ?_⟩))
    go_ret
    exact ⟨rq, bz⟩
  ·replace c7 := Bool.eq_false_iff.mpr c7
   subst c7
   have H1 : (some false) = some r := by rw [if_neg (show ¬ (false = true) by decide)] at H; exact H
   clear H
   have H := H1
   clear H1
   obtain rfl := Option.some.inj H
   obtain ⟨hcz11_0, hcz11_1, hcz11_2, hcz11_3, hfz11_0, hfz11_1, hfz11_2, hfz11_3⟩ := bc4 BK285.out
   go_wp2_with (first | ((with_reducible refine gate_callee (f := 69) rfl ?_); refine goesL_ (some 10) rfl rfl Tryd.func69 (by kernel_rfl) rfl #[.int .i64 (a0_1.size : Int), .int .i64 1, .int .i64 100] rfl mt ?_; (with_reducible refine (impl_within.calls (a0_1.size : Int) 1 100 false _ A6.out).mono ?_); rintro e w' ⟨rfl, ⟨nd, rfl⟩⟩; refine ⟨_, rfl, ?_⟩))
   go_ret
   exact ⟨rq, bz⟩
 ·rw [if_neg c5] at H
  have c5b0 : (a0_0 == 0) = false := beq_eq_false_iff_ne.mpr c5
  have c5b1 : (a0_0 != 0) = true := bne_iff_ne.mpr c5
  (first | rw [c5b0] | (simp only [i64_w, i32_w]; rw [c5b0]) | skip)
  by_cases c12 : a0_0 = 1
  ·rw [if_pos c12] at H
   have c12b0 : (a0_0 == 1) = true := beq_iff_eq.mpr c12
   have c12b1 : (a0_0 != 1) = false := bne_eq_false_iff_eq.mpr c12
   clear c12
   by_cases c13 : a0_1.toList = ([] : List UInt8)
   ·rw [if_pos c13] at H
    have c13b0 : (a0_1.toList == ([] : List UInt8)) = true := beq_iff_eq.mpr c13
    have c13b1 : (a0_1.toList != ([] : List UInt8)) = false := bne_eq_false_iff_eq.mpr c13
    clear c13
    by_cases c14 : a0_2 ≥ 0
    ·rw [if_pos c14] at H
     have c14b0 : decide (0 ≤ a0_2) = true := decide_eq_true c14
     clear c14
     obtain rfl := Option.some.inj H
     obtain ⟨hcz15_0, hcz15_1, hcz15_2, hcz15_3, hfz15_0, hfz15_1, hfz15_2, hfz15_3⟩ := bc4 BK285.out
     go_wp2
     go_ret
     exact ⟨rq, bz⟩
    ·rw [if_neg c14] at H
     have c14b0 : decide (0 ≤ a0_2) = false := decide_eq_false c14
     clear c14
     obtain rfl := Option.some.inj H
     obtain ⟨hcz16_0, hcz16_1, hcz16_2, hcz16_3, hfz16_0, hfz16_1, hfz16_2, hfz16_3⟩ := bc4 BK285.out
     go_wp2
     go_ret
     exact ⟨rq, bz⟩
   ·rw [if_neg c13] at H
    have c13b0 : (a0_1.toList == ([] : List UInt8)) = false := beq_eq_false_iff_ne.mpr c13
    have c13b1 : (a0_1.toList != ([] : List UInt8)) = true := bne_iff_ne.mpr c13
    obtain rfl := Option.some.inj H
    obtain ⟨hcz17_0, hcz17_1, hcz17_2, hcz17_3, hfz17_0, hfz17_1, hfz17_2, hfz17_3⟩ := bc4 BK285.out
    go_wp2
    go_ret
    exact ⟨rq, bz⟩
  ·rw [if_neg c12] at H
   have c12b0 : (a0_0 == 1) = false := beq_eq_false_iff_ne.mpr c12
   have c12b1 : (a0_0 != 1) = true := bne_iff_ne.mpr c12
   obtain rfl := Option.some.inj H
   go_wp2
   go_ret
   exact ⟨rq, bz⟩

/-! ### impl_tokensText_1: function 186 -/
def impl_tokensText_1.f (a0_0 : Int) (a0_1 : ByteArray) (a0_2 : Int) (a0_3 : Int) : Option (Bool) := (impl_TokenOk.f a0_0 a0_1 a0_2 a0_3).bind fun t288 => (if t288 = true then (if a0_3 > 1000000 then (some true) else (some (decide (a0_2 > 1000000)))) else (some true))
set_option maxHeartbeats 8000000 in
set_option maxRecDepth 100000 in
theorem impl_tokensText_1.calls (a0_0 : Int) (a0_1 : ByteArray) (a0_2 : Int) (a0_3 : Int) (r : Bool) (w : World) (h : impl_tokensText_1.f a0_0 a0_1 a0_2 a0_3 = some r) :
  Calls Tryd.prog 186 #[.agg #[.int .i64 a0_0, .string a0_1, .int .i64 a0_2, .int .i64 a0_3]] w fun e w' => e = .returned (.bool r) ∧ Below w.heap.size w w' := by
 have hu148 := Tryd.underlying148
 have HB := Aside0.mk (Below.refl w.heap.size w)
 have H : ((impl_TokenOk.f a0_0 a0_1 a0_2 a0_3).bind fun t288 => (if t288 = true then (if a0_3 > 1000000 then (some true) else (some (decide (a0_2 > 1000000)))) else (some true))) = some r := h
 clear h
 replace H := Option.bind_eq_some_iff.mp H
 obtain ⟨t288, A20, H⟩ := H
 try dsimp -simprocs only at H
 have A2 := Aside0.mk A20
 clear A20
 by_cases c3 : t288 = true
 ·subst c3
  have H1 : (if a0_3 > 1000000 then (some true) else (some (decide (a0_2 > 1000000)))) = some r := by rw [if_pos rfl] at H; exact H
  clear H
  have H := H1
  clear H1
  by_cases c4 : a0_3 > 1000000
  ·rw [if_pos c4] at H
   have c4b0 : decide (1000000 < a0_3) = true := decide_eq_true c4
   clear c4
   obtain rfl := Option.some.inj H
   go_enter Tryd.func186, Tryd.ntmps186
   go_wp2_with (first | ((with_reducible refine gate_dst (N := 1) rfl ?_); refine box_event ?hg (N := 1) ?hd (cs := #[.int .i64 a0_0, .string a0_1, .int .i64 a0_2, .int .i64 a0_3]) (t := 148) ?hr ?_; (case hd => rfl); (case hg => rfl); (case hr => first | (go_simp; done) | (go_simp; rfl)); intro gb287 hg w5 hbox hb; have n0_ := Aside0.mk (below_step bz hb); have n1_ := Aside0.mk (hbox); have n2_ := Aside0.mk (bg : w.heap.size ≤ gb287); have n3_ := Aside0.mk (bg : w.heap.size ≤ gb287); clear HB; have HB := n0_; have BK287 := n1_; have GW287 := n2_; have GE287 := n3_; clear n0_ n1_ n2_ n3_; clear hb hbox hg; obtain ⟨hcz6_0, hcz6_1, hcz6_2, hcz6_3, hfz6_0, hfz6_1, hfz6_2, hfz6_3⟩ := bc4 BK287.out) | ((with_reducible refine gate_callee (f := 151) rfl ?_); refine goesL_ (some 4) rfl rfl Tryd.func151 (by kernel_rfl) rfl #[.agg #[.int .i64 a0_0, .string a0_1, .int .i64 a0_2, .int .i64 a0_3]] rfl mt ?_; (with_reducible refine (impl_TokenOk.calls a0_0 a0_1 a0_2 a0_3 true _ A2.out).mono ?_); rintro e w7 ⟨rfl, hb⟩; refine ⟨_, rfl, ?_⟩; have n0_ := Aside0.mk (blk_below (bo BK287) hb); have n1_ := Aside0.mk (below_step bz hb); clear BK287; clear HB; have BK287 := n0_; have HB := n1_; clear n0_ n1_; (try clear hb); (try clear hb2); (try clear hk); (try clear hi); obtain ⟨hcz8_0, hcz8_1, hcz8_2, hcz8_3, hfz8_0, hfz8_1, hfz8_2, hfz8_3⟩ := bc4 BK287.out))
   go_ret
   exact ⟨rq, bz⟩
  ·rw [if_neg c4] at H
   have c4b0 : decide (1000000 < a0_3) = false := decide_eq_false c4
   clear c4
   obtain rfl := Option.some.inj H
   go_enter Tryd.func186, Tryd.ntmps186
   go_wp2_with (first | ((with_reducible refine gate_dst (N := 1) rfl ?_); refine box_event ?hg (N := 1) ?hd (cs := #[.int .i64 a0_0, .string a0_1, .int .i64 a0_2, .int .i64 a0_3]) (t := 148) ?hr ?_; (case hd => rfl); (case hg => rfl); (case hr => first | (go_simp; done) | (go_simp; rfl)); intro gb287 hg w9 hbox hb; have n0_ := Aside0.mk (below_step bz hb); have n1_ := Aside0.mk (hbox); have n2_ := Aside0.mk (bg : w.heap.size ≤ gb287); have n3_ := Aside0.mk (bg : w.heap.size ≤ gb287); clear HB; have HB := n0_; have BK287 := n1_; have GW287 := n2_; have GE287 := n3_; clear n0_ n1_ n2_ n3_; clear hb hbox hg; obtain ⟨hcz10_0, hcz10_1, hcz10_2, hcz10_3, hfz10_0, hfz10_1, hfz10_2, hfz10_3⟩ := bc4 BK287.out) | ((with_reducible refine gate_callee (f := 151) rfl ?_); refine goesL_ (some 4) rfl rfl Tryd.func151 (by kernel_rfl) rfl #[.agg #[.int .i64 a0_0, .string a0_1, .int .i64 a0_2, .int .i64 a0_3]] rfl mt ?_; (with_reducible refine (impl_TokenOk.calls a0_0 a0_1 a0_2 a0_3 true _ A2.out).mono ?_); rintro e w11 ⟨rfl, hb⟩; refine ⟨_, rfl, ?_⟩; have n0_ := Aside0.mk (blk_below (bo BK287) hb); have n1_ := Aside0.mk (below_step bz hb); clear BK287; clear HB; have BK287 := n0_; have HB := n1_; clear n0_ n1_; (try clear hb); (try clear hb2); (try clear hk); (try clear hi); obtain ⟨hcz12_0, hcz12_1, hcz12_2, hcz12_3, hfz12_0, hfz12_1, hfz12_2, hfz12_3⟩ := bc4 BK287.out))
   go_ret
   exact ⟨rq, bz⟩
 ·replace c3 := Bool.eq_false_iff.mpr c3
  subst c3
  have H1 : (some true) = some r := by rw [if_neg (show ¬ (false = true) by decide)] at H; exact H
  clear H
  have H := H1
  clear H1
  obtain rfl := Option.some.inj H
  go_enter Tryd.func186, Tryd.ntmps186
  go_wp2_with (first | ((with_reducible refine gate_dst (N := 1) rfl ?_); refine box_event ?hg (N := 1) ?hd (cs := #[.int .i64 a0_0, .string a0_1, .int .i64 a0_2, .int .i64 a0_3]) (t := 148) ?hr ?_; (case hd => rfl); (case hg => rfl); (case hr => first | (go_simp; done) | (go_simp; rfl)); intro gb287 hg w13 hbox hb; have n0_ := Aside0.mk (below_step bz hb); have n1_ := Aside0.mk (hbox); have n2_ := Aside0.mk (bg : w.heap.size ≤ gb287); have n3_ := Aside0.mk (bg : w.heap.size ≤ gb287); clear HB; have HB := n0_; have BK287 := n1_; have GW287 := n2_; have GE287 := n3_; clear n0_ n1_ n2_ n3_; clear hb hbox hg; obtain ⟨hcz14_0, hcz14_1, hcz14_2, hcz14_3, hfz14_0, hfz14_1, hfz14_2, hfz14_3⟩ := bc4 BK287.out) | ((with_reducible refine gate_callee (f := 151) rfl ?_); refine goesL_ (some 4) rfl rfl Tryd.func151 (by kernel_rfl) rfl #[.agg #[.int .i64 a0_0, .string a0_1, .int .i64 a0_2, .int .i64 a0_3]] rfl mt ?_; (with_reducible refine (impl_TokenOk.calls a0_0 a0_1 a0_2 a0_3 false _ A2.out).mono ?_); rintro e w15 ⟨rfl, hb⟩; refine ⟨_, rfl, ?_⟩; have n0_ := Aside0.mk (blk_below (bo BK287) hb); have n1_ := Aside0.mk (below_step bz hb); clear BK287; clear HB; have BK287 := n0_; have HB := n1_; clear n0_ n1_; (try clear hb); (try clear hb2); (try clear hk); (try clear hi)))
  go_ret
  exact ⟨rq, bz⟩

end Go.Proofs.YtjiaigjmihmdjaaDoor.PFnExactTakeAnswer
