
/- The machine's side, written by a program of this session (a turned print): each function as a plain Lean function, and that the call comes to it. -/
import Derived.Test.YtjiaigjmihmdjaaDoorPFnExactTakeAnswerx0
import Derived.Test.YtjiaigjmihmdjaaDoorPFnExactTakeAnswerx6
namespace Go.Proofs.YtjiaigjmihmdjaaDoor.PFnExactTakeAnswer
open Go.RowKit Go.Proofs.YtjiaigjmihmdjaaDoorW.PrintWords Go.Proofs.YtjiaigjmihmdjaaDoorW.PrintLast Go.Proofs.YtjiaigjmihmdjaaDoorW.PrintMore
attribute [local go_sem] max2_int min2_int max_two min_two max_three min_three max_four min_four   -- for this text's walks alone
set_option linter.unusedVariables false
set_option linter.unusedSimpArgs false

/-! ### impl_Patch: function 92 -/
mutual
def impl_Patch.j0 : Nat → ByteArray → Int → List (S148) → Bool → Option (ByteArray × Bool)
 | 0, _, _, _, _ => none
 | k + 1, x0, x1, x2, x24 => if x24 = true then (some ((⟨#[]⟩ : ByteArray), false)) else (if x1 = 0 then (none) else (impl_Patch.l0 k x0 x1 (wrap64 (Int.tdiv (wrap64 ((wrap64 ((x0.size : Int) + x1)) - 1)) x1)) ([] : List Int) x2 (x2.length : Int) 0))
def impl_Patch.l0 : Nat → ByteArray → Int → Int → List Int → List (S148) → Int → Int → Option (ByteArray × Bool)
 | 0, _, _, _, _, _, _, _ => none
 | k + 1, x0, x1, x8, x9, x32, x33, x34 => if x34 < x33 then (if 0 ≤ x34 then (if x34 < (x32.length : Int) then ((impl_TokenOk.f ((rd_T148 x32 x34).f0) ((rd_T148 x32 x34).f1) ((rd_T148 x32 x34).f2) ((rd_T148 x32 x34).f3)).bind fun t300 => (if t300 = true then (if ((rd_T148 x32 x34).f0) = 1 then (if ((rd_T148 x32 x34).f2) ≥ x8 then (impl_Patch.j2 k x0 x1 x8 x9 x32 x33 x34 true ((rd_T148 x32 x34).f0) ((rd_T148 x32 x34).f1) ((rd_T148 x32 x34).f2) ((rd_T148 x32 x34).f3)) else (impl_Patch.j2 k x0 x1 x8 x9 x32 x33 x34 (decide (((rd_T148 x32 x34).f3) > (wrap64 (x8 - ((rd_T148 x32 x34).f2))))) ((rd_T148 x32 x34).f0) ((rd_T148 x32 x34).f1) ((rd_T148 x32 x34).f2) ((rd_T148 x32 x34).f3))) else (impl_Patch.j2 k x0 x1 x8 x9 x32 x33 x34 false ((rd_T148 x32 x34).f0) ((rd_T148 x32 x34).f1) ((rd_T148 x32 x34).f2) ((rd_T148 x32 x34).f3))) else (impl_Patch.j2 k x0 x1 x8 x9 x32 x33 x34 true ((rd_T148 x32 x34).f0) ((rd_T148 x32 x34).f1) ((rd_T148 x32 x34).f2) ((rd_T148 x32 x34).f3)))) else (none)) else (none)) else (some (strOfNums x9, true))
def impl_Patch.j2 : Nat → ByteArray → Int → Int → List Int → List (S148) → Int → Int → Bool → Int → ByteArray → Int → Int → Option (ByteArray × Bool)
 | 0, _, _, _, _, _, _, _, _, _, _, _, _ => none
 | k + 1, x0, x1, x8, x9, x32, x33, x34, x60, x300000, x300001, x300002, x300003 => if x60 = true then (some ((⟨#[]⟩ : ByteArray), false)) else (if x9.length + x300001.size < 140737488355328 then ((some (x9 ++ bytesOf x300001 : List Int)).bind fun y301 => (if x300000 = 1 then (if 0 ≤ (wrap64 (x300002 * x1)) then (if (wrap64 (x300002 * x1)) ≤ (mn (wrap64 ((wrap64 (x300002 + x300003)) * x1)) (x0.size : Int)) then (if (mn (wrap64 ((wrap64 (x300002 + x300003)) * x1)) (x0.size : Int)) ≤ (x0.size : Int) then (if y301.length + (x0.extract ((wrap64 (x300002 * x1)) : Int).toNat ((mn (wrap64 ((wrap64 (x300002 + x300003)) * x1)) (x0.size : Int)) : Int).toNat).size < 140737488355328 then ((some (y301 ++ bytesOf (x0.extract ((wrap64 (x300002 * x1)) : Int).toNat ((mn (wrap64 ((wrap64 (x300002 + x300003)) * x1)) (x0.size : Int)) : Int).toNat) : List Int)).bind fun y304 => (if (y304.length : Int) > 20000 then (some ((⟨#[]⟩ : ByteArray), false)) else (impl_Patch.l0 k x0 x1 x8 y304 x32 x33 (wrap64 (x34 + 1))))) else (none)) else (none)) else (none)) else (none)) else (if (y301.length : Int) > 20000 then (some ((⟨#[]⟩ : ByteArray), false)) else (impl_Patch.l0 k x0 x1 x8 y301 x32 x33 (wrap64 (x34 + 1)))))) else (none))
end
def impl_Patch.f (k : Nat) (a0 : ByteArray) (a1 : Int) (l2 : List (S148)) : Option (ByteArray × Bool) := (impl_within.f a1 1 256).bind fun t297 => (if t297 = true then (if (a0.size : Int) > 20000 then (impl_Patch.j0 k a0 a1 l2 true) else (impl_Patch.j0 k a0 a1 l2 (decide ((l2.length : Int) > 20000)))) else (impl_Patch.j0 k a0 a1 l2 true))
theorem impl_Patch.mono_l : ∀ k, (∀ y0 y1 y2 y3, LeO (impl_Patch.j0 k y0 y1 y2 y3) (impl_Patch.j0 (k + 1) y0 y1 y2 y3)) ∧ (∀ y0 y1 y2 y3 y4 y5 y6, LeO (impl_Patch.l0 k y0 y1 y2 y3 y4 y5 y6) (impl_Patch.l0 (k + 1) y0 y1 y2 y3 y4 y5 y6)) ∧ (∀ y0 y1 y2 y3 y4 y5 y6 y7 y8 y9 y10 y11, LeO (impl_Patch.j2 k y0 y1 y2 y3 y4 y5 y6 y7 y8 y9 y10 y11) (impl_Patch.j2 (k + 1) y0 y1 y2 y3 y4 y5 y6 y7 y8 y9 y10 y11))
 | 0 => ⟨fun _ _ _ _ r h => by simp [impl_Patch.j0] at h, fun _ _ _ _ _ _ _ r h => by simp [impl_Patch.l0] at h, fun _ _ _ _ _ _ _ _ _ _ _ _ r h => by simp [impl_Patch.j2] at h⟩
 | k + 1 => by
  obtain ⟨ih0, ih1, ih2⟩ := impl_Patch.mono_l k
  refine ⟨?_, ?_, ?_⟩
  ·intro y0 y1 y2 y3
   unfold impl_Patch.j0
   repeat' first | (with_reducible first | exact ih0 _ _ _ _ | exact ih1 _ _ _ _ _ _ _ | exact ih2 _ _ _ _ _ _ _ _ _ _ _ _ | exact LeO.refl _ | exact LeO.none _ | refine LeO.ite ?_ ?_ | refine LeO.bind ?_ (fun _ => ?_)) | exact ih0 _ _ _ _ | exact ih1 _ _ _ _ _ _ _ | exact ih2 _ _ _ _ _ _ _ _ _ _ _ _ | exact LeO.none _ | refine LeO.ite ?_ ?_ | refine LeO.bind ?_ (fun _ => ?_)
  ·intro y0 y1 y2 y3 y4 y5 y6
   unfold impl_Patch.l0
   repeat' first | (with_reducible first | exact ih0 _ _ _ _ | exact ih1 _ _ _ _ _ _ _ | exact ih2 _ _ _ _ _ _ _ _ _ _ _ _ | exact LeO.refl _ | exact LeO.none _ | refine LeO.ite ?_ ?_ | refine LeO.bind ?_ (fun _ => ?_)) | exact ih0 _ _ _ _ | exact ih1 _ _ _ _ _ _ _ | exact ih2 _ _ _ _ _ _ _ _ _ _ _ _ | exact LeO.none _ | refine LeO.ite ?_ ?_ | refine LeO.bind ?_ (fun _ => ?_)
  ·intro y0 y1 y2 y3 y4 y5 y6 y7 y8 y9 y10 y11
   unfold impl_Patch.j2
   repeat' first | (with_reducible first | exact ih0 _ _ _ _ | exact ih1 _ _ _ _ _ _ _ | exact ih2 _ _ _ _ _ _ _ _ _ _ _ _ | exact LeO.refl _ | exact LeO.none _ | refine LeO.ite ?_ ?_ | refine LeO.bind ?_ (fun _ => ?_)) | exact ih0 _ _ _ _ | exact ih1 _ _ _ _ _ _ _ | exact ih2 _ _ _ _ _ _ _ _ _ _ _ _ | exact LeO.none _ | refine LeO.ite ?_ ?_ | refine LeO.bind ?_ (fun _ => ?_)
theorem impl_Patch.mono : ∀ a0 a1 a2 k, LeO (impl_Patch.f k a0 a1 a2) (impl_Patch.f (k + 1) a0 a1 a2) := by
 intro a0 a1 a2 k
 obtain ⟨ih0, ih1, ih2⟩ := impl_Patch.mono_l k
 unfold impl_Patch.f
 repeat' first | (with_reducible first | exact ih0 _ _ _ _ | exact ih1 _ _ _ _ _ _ _ | exact ih2 _ _ _ _ _ _ _ _ _ _ _ _ | exact LeO.refl _ | exact LeO.none _ | refine LeO.ite ?_ ?_ | refine LeO.bind ?_ (fun _ => ?_)) | exact ih0 _ _ _ _ | exact ih1 _ _ _ _ _ _ _ | exact ih2 _ _ _ _ _ _ _ _ _ _ _ _ | exact LeO.none _ | refine LeO.ite ?_ ?_ | refine LeO.bind ?_ (fun _ => ?_)
set_option maxHeartbeats 8000000 in
set_option maxRecDepth 100000 in
theorem impl_Patch.calls (k : Nat) (a0 : ByteArray) (a1 : Int) (A2 : Option Addr) (c2 : Nat) (l2 : List (S148)) (r1 : ByteArray) (r2 : Bool) (w : World) (hr2 : Kd.C k148 w A2 l2.length l2) (hc2 : l2.length ≤ c2) (h : impl_Patch.f k a0 a1 l2 = some (r1, r2)) :
  Calls Tryd.prog 92 #[.string a0, .int .i64 a1, .slice A2 l2.length c2] w fun e w' => e = .returned (.tuple #[.string r1, .bool r2]) ∧ Below w.heap.size w w' := by
 have hu148 := Tryd.underlying148
 have HR2 := Aside0.mk hr2
 have HC2 := Aside0.mk hc2
 clear hr2 hc2
 have HB := Aside0.mk (Below.refl w.heap.size w)
 have H : ((impl_within.f a1 1 256).bind fun t297 => (if t297 = true then (if (a0.size : Int) > 20000 then (impl_Patch.j0 k a0 a1 l2 true) else (impl_Patch.j0 k a0 a1 l2 (decide ((l2.length : Int) > 20000)))) else (impl_Patch.j0 k a0 a1 l2 true))) = some (r1, r2) := h
 clear h
 have HC4 := Aside0.mk H
 clear H
 go_enter Tryd.func92, Tryd.ntmps92
 go_upto_region 1 with (fail)
 go_cut [24] (fun v24 wc => ∃ (kq : Nat) (x24_3 : Bool), v24 = .bool x24_3 ∧ Aside0 (impl_Patch.j0 kq a0 a1 l2 x24_3 = some (r1, r2)) ∧ Aside0 (kq ≤ k) ∧ Aside0 (Below w.heap.size w wc))
 case first =>
  have H := HC4.out
  clear HC4
  replace H := Option.bind_eq_some_iff.mp H
  obtain ⟨t297, A50, H⟩ := H
  try dsimp -simprocs only at H
  have A5 := Aside0.mk A50
  clear A50
  by_cases c6 : t297 = true
  ·subst c6
   have H1 : (if (a0.size : Int) > 20000 then (impl_Patch.j0 k a0 a1 l2 true) else (impl_Patch.j0 k a0 a1 l2 (decide ((l2.length : Int) > 20000)))) = some (r1, r2) := by rw [if_pos rfl] at H; exact H
   clear H
   have H := H1
   clear H1
   by_cases c7 : (a0.size : Int) > 20000
   ·rw [if_pos c7] at H
    have c7b0 : decide (20000 < (a0.size : Int)) = true := decide_eq_true c7
    have c7b1 : decide (20000 < a0.size) = true := decide_eq_true (by omega)
    clear c7
    (first | rw [c7b0] | (simp only [i64_w, i32_w]; rw [c7b0]) | skip)
    have H' := Aside0.mk H
    clear H
    go_wp2_with (first | ((with_reducible refine gate_callee (f := 69) rfl ?_); refine goesL_ (some 13) rfl rfl Tryd.func69 (by kernel_rfl) rfl #[.int .i64 a1, .int .i64 1, .int .i64 256] rfl mt ?_; (with_reducible refine (impl_within.calls a1 1 256 true _ A5.out).mono ?_); rintro e w' ⟨rfl, ⟨nd, rfl⟩⟩; refine ⟨_, rfl, ?_⟩))
    go_meet
    case rel => exact ⟨_, (true), sd, H', ⟨ob⟩, ⟨bz⟩⟩
   ·rw [if_neg c7] at H
    have c7b0 : decide (20000 < (a0.size : Int)) = false := decide_eq_false c7
    have c7b1 : decide (20000 < a0.size) = false := decide_eq_false (by omega)
    clear c7
    (first | rw [c7b0] | (simp only [i64_w, i32_w]; rw [c7b0]) | skip)
    have H' := Aside0.mk H
    clear H
    go_wp2_with (first | ((with_reducible refine gate_callee (f := 69) rfl ?_); refine goesL_ (some 13) rfl rfl Tryd.func69 (by kernel_rfl) rfl #[.int .i64 a1, .int .i64 1, .int .i64 256] rfl mt ?_; (with_reducible refine (impl_within.calls a1 1 256 true _ A5.out).mono ?_); rintro e w' ⟨rfl, ⟨nd, rfl⟩⟩; refine ⟨_, rfl, ?_⟩))
    go_meet
    case rel => exact ⟨_, (decide ((l2.length : Int) > 20000)), sd, H', ⟨ob⟩, ⟨bz⟩⟩
  ·replace c6 := Bool.eq_false_iff.mpr c6
   subst c6
   have H1 : (impl_Patch.j0 k a0 a1 l2 true) = some (r1, r2) := by rw [if_neg (show ¬ (false = true) by decide)] at H; exact H
   clear H
   have H := H1
   clear H1
   have H' := Aside0.mk H
   clear H
   go_wp2_with (first | ((with_reducible refine gate_callee (f := 69) rfl ?_); refine goesL_ (some 13) rfl rfl Tryd.func69 (by kernel_rfl) rfl #[.int .i64 a1, .int .i64 1, .int .i64 256] rfl mt ?_; (with_reducible refine (impl_within.calls a1 1 256 false _ A5.out).mono ?_); rintro e w' ⟨rfl, ⟨nd, rfl⟩⟩; refine ⟨_, rfl, ?_⟩))
   go_meet
   case rel => exact ⟨_, (true), sd, H', ⟨ob⟩, ⟨bz⟩⟩
 case rest =>
  clear HC4
  try clear c2
  try clear p2
  try clear c6
  try clear c7
  try clear c7b0
  try clear c7b1
  obtain ⟨kq, x24_3, rfl, HA, HJ3, HB⟩ := hcut
  cases kq with
  | zero => exact absurd HA.out (by simp [impl_Patch.j0])
  | succ kj3 =>
   have H := HA.out
   clear HA
   simp only [impl_Patch.j0] at H
   by_cases c8 : x24_3 = true
   ·subst c8
    have H1 : (some ((⟨#[]⟩ : ByteArray), false)) = some (r1, r2) := by rw [if_pos rfl] at H; exact H
    clear H
    have H := H1
    clear H1
    simp only [Option.some.injEq, Prod.mk.injEq] at H
    obtain ⟨rfl, rfl⟩ := H
    go_wp2
    go_ret2
    exact ⟨rq, bz⟩
   ·replace c8 := Bool.eq_false_iff.mpr c8
    subst c8
    have H1 : (if a1 = 0 then (none) else (impl_Patch.l0 kj3 a0 a1 (wrap64 (Int.tdiv (wrap64 ((wrap64 ((a0.size : Int) + a1)) - 1)) a1)) ([] : List Int) l2 (l2.length : Int) 0)) = some (r1, r2) := by rw [if_neg (show ¬ (false = true) by decide)] at H; exact H
    clear H
    have H := H1
    clear H1
    by_cases c9 : a1 = 0
    ·rw [if_pos c9] at H
     exact absurd H (by simp)
    ·rw [if_neg c9] at H
     have c9b0 : (a1 == 0) = false := beq_eq_false_iff_ne.mpr c9
     have c9b1 : (a1 != 0) = true := bne_iff_ne.mpr c9
     have H' := Aside0.mk H
     clear H
     go_wp2
     go_loopg [9, 34] kj3 (fun kq v9 v34 w' => ∃ (x9_2 : List Int) (x34_2 : Int), v34 = .int .i64 x34_2 ∧ Aside0 (impl_Patch.l0 kq a0 a1 (wrap64 (Int.tdiv (wrap64 ((wrap64 ((a0.size : Int) + a1)) - 1)) a1)) x9_2 l2 (l2.length : Int) x34_2 = some (r1, r2)) ∧ Aside0 (kq ≤ kj3) ∧ Aside0 (Kd.R (Kd.int .u8) 5 w' w.heap.size (fun _ => True) v9 x9_2) ∧ Aside0 (Below w.heap.size w w'))
     case atStart => exact ⟨(([] : List Int)), (0), sd, H', ⟨Nat.le_refl _⟩, ⟨nz⟩, ⟨bz⟩⟩
     case round =>
      clear H'
      try clear c2
      try clear p2
      try clear c6
      try clear p6
      try clear c7
      try clear c7b0
      try clear c7b1
      try clear c8
      try clear c9
      try clear c9b0
      try clear c9b1
      try clear p2
      obtain ⟨x9_2, x34_2, rfl, HA, HK2, HO_9, HB⟩ := hrel
      cases gk with
      | zero => exact absurd HA.out (by simp [impl_Patch.l0])
      | succ k2 =>
       have H := HA.out
       clear HA
       simp only [impl_Patch.l0] at H
       by_cases c10 : x34_2 < (l2.length : Int)
       ·rw [if_pos c10] at H
        have c10b0 : decide (x34_2 < (l2.length : Int)) = true := decide_eq_true c10
        clear c10
        by_cases c11 : 0 ≤ x34_2
        ·rw [if_pos c11] at H
         have c11b0 : decide (0 ≤ x34_2) = true := decide_eq_true c11
         clear c11
         by_cases c12 : x34_2 < (l2.length : Int)
         ·rw [if_pos c12] at H
          have c12b0 : decide (x34_2 < (l2.length : Int)) = true := decide_eq_true c12
          clear c12
          have HC13 := Aside0.mk H
          clear H
          have p298 : 0 ≤ (x34_2 : Int) := of_decide_eq_true am
          have q298 : x34_2 < (l2.length : Int) := of_decide_eq_true am
          obtain ⟨ad298, e298, hx298_0, hx298_1, hx298_2, hx298_3⟩ := at_T148 HR2.out x34_2 p298 q298
          cases e298
          replace hx298_0 := (HB.out.cell (World.block_lt_of_cell? w _ hx298_0)).trans hx298_0
          replace hx298_1 := (HB.out.cell (World.block_lt_of_cell? w _ hx298_1)).trans hx298_1
          replace hx298_2 := (HB.out.cell (World.block_lt_of_cell? w _ hx298_2)).trans hx298_2
          replace hx298_3 := (HB.out.cell (World.block_lt_of_cell? w _ hx298_3)).trans hx298_3
          replace p298 := eq_true p298
          replace q298 := eq_true q298
          go_upto_region 8 with (first | ((with_reducible refine gate_dst (N := 11) rfl ?_); (try (refine gate_guard (by rfl) ?_; dsimp only)); refine box_event ?hg (N := 11) ?hd (cs := #[.int .i64 0, .string (⟨#[]⟩ : ByteArray), .int .i64 0, .int .i64 0]) (t := 148) ?hr ?_; (case hd => rfl); (case hg => rfl); (case hr => first | (go_simp; done) | (go_simp; rfl)); intro gb299 hg w14 hbox hb; have n0_ := Aside0.mk (Kd.R_below (by refine rs ?_; exact HO_9.out) hb); have n1_ := Aside0.mk (below_step bz hb); have n2_ := Aside0.mk (hbox); have n3_ := Aside0.mk (bg : w.heap.size ≤ gb299); have n4_ := Aside0.mk (bg : w.heap.size ≤ gb299); clear HO_9; clear HB; have HO_9 := n0_; have HB := n1_; have BK299 := n2_; have GW299 := n3_; have GE299 := n4_; clear n0_ n1_ n2_ n3_ n4_; clear hb hbox hg; obtain ⟨hcz15_0, hcz15_1, hcz15_2, hcz15_3, hfz15_0, hfz15_1, hfz15_2, hfz15_3⟩ := bc4 BK299.out))
          (try simp only [Act.put, List.setIfInBounds_toArray, List.set_cons_zero, List.set_cons_succ])
          go_cut [60] (fun v60 wc => ∃ (kq : Nat) (x60_12 : Bool), v60 = .bool x60_12 ∧ Aside0 (impl_Patch.j2 kq a0 a1 (wrap64 (Int.tdiv (wrap64 ((wrap64 ((a0.size : Int) + a1)) - 1)) a1)) x9_2 l2 (l2.length : Int) x34_2 x60_12 ((rd_T148 l2 x34_2).f0) ((rd_T148 l2 x34_2).f1) ((rd_T148 l2 x34_2).f2) ((rd_T148 l2 x34_2).f3) = some (r1, r2)) ∧ Aside0 (kq ≤ k2) ∧ Aside0 (Kd.R (Kd.int .u8) 5 wc w.heap.size (fun _ => True) u9 x9_2) ∧ Aside0 (wc.heap[gb299]? = some (.cells #[.int .i64 ((rd_T148 l2 x34_2).f0), .string ((rd_T148 l2 x34_2).f1), .int .i64 ((rd_T148 l2 x34_2).f2), .int .i64 ((rd_T148 l2 x34_2).f3)] 148 (0, 0))) ∧ Aside0 (Below w.heap.size w wc))
          case first =>
           have H := HC13.out
           clear HC13
           replace H := Option.bind_eq_some_iff.mp H
           obtain ⟨t300, A160, H⟩ := H
           try dsimp -simprocs only at H
           have A16 := Aside0.mk A160
           clear A160
           by_cases c17 : t300 = true
           ·subst c17
            have H1 : (if ((rd_T148 l2 x34_2).f0) = 1 then (if ((rd_T148 l2 x34_2).f2) ≥ (wrap64 (Int.tdiv (wrap64 ((wrap64 ((a0.size : Int) + a1)) - 1)) a1)) then (impl_Patch.j2 k2 a0 a1 (wrap64 (Int.tdiv (wrap64 ((wrap64 ((a0.size : Int) + a1)) - 1)) a1)) x9_2 l2 (l2.length : Int) x34_2 true ((rd_T148 l2 x34_2).f0) ((rd_T148 l2 x34_2).f1) ((rd_T148 l2 x34_2).f2) ((rd_T148 l2 x34_2).f3)) else (impl_Patch.j2 k2 a0 a1 (wrap64 (Int.tdiv (wrap64 ((wrap64 ((a0.size : Int) + a1)) - 1)) a1)) x9_2 l2 (l2.length : Int) x34_2 (decide (((rd_T148 l2 x34_2).f3) > (wrap64 ((wrap64 (Int.tdiv (wrap64 ((wrap64 ((a0.size : Int) + a1)) - 1)) a1)) - ((rd_T148 l2 x34_2).f2))))) ((rd_T148 l2 x34_2).f0) ((rd_T148 l2 x34_2).f1) ((rd_T148 l2 x34_2).f2) ((rd_T148 l2 x34_2).f3))) else (impl_Patch.j2 k2 a0 a1 (wrap64 (Int.tdiv (wrap64 ((wrap64 ((a0.size : Int) + a1)) - 1)) a1)) x9_2 l2 (l2.length : Int) x34_2 false ((rd_T148 l2 x34_2).f0) ((rd_T148 l2 x34_2).f1) ((rd_T148 l2 x34_2).f2) ((rd_T148 l2 x34_2).f3))) = some (r1, r2) := by rw [if_pos rfl] at H; exact H
            clear H
            have H := H1
            clear H1
            by_cases c18 : ((rd_T148 l2 x34_2).f0) = 1
            ·rw [if_pos c18] at H
             have c18b0 : (((rd_T148 l2 x34_2).f0) == 1) = true := beq_iff_eq.mpr c18
             have c18b1 : (((rd_T148 l2 x34_2).f0) != 1) = false := bne_eq_false_iff_eq.mpr c18
             clear c18
             (first | rw [c18b0] | (simp only [i64_w, i32_w]; rw [c18b0]) | skip)
             by_cases c19 : ((rd_T148 l2 x34_2).f2) ≥ (wrap64 (Int.tdiv (wrap64 ((wrap64 ((a0.size : Int) + a1)) - 1)) a1))
             ·rw [if_pos c19] at H
              have c19b0 : decide ((wrap64 (Int.tdiv (wrap64 ((wrap64 ((a0.size : Int) + a1)) - 1)) a1)) ≤ ((rd_T148 l2 x34_2).f2)) = true := decide_eq_true c19
              clear c19
              have H' := Aside0.mk H
              clear H
              obtain ⟨hcz20_0, hcz20_1, hcz20_2, hcz20_3, hfz20_0, hfz20_1, hfz20_2, hfz20_3⟩ := bc4 BK299.out
              go_wp2_with (first | ((with_reducible refine gate_callee (f := 151) rfl ?_); refine goesL_ (some 39) rfl rfl Tryd.func151 (by kernel_rfl) rfl #[.agg #[.int .i64 ((rd_T148 l2 x34_2).f0), .string ((rd_T148 l2 x34_2).f1), .int .i64 ((rd_T148 l2 x34_2).f2), .int .i64 ((rd_T148 l2 x34_2).f3)]] rfl mt ?_; (with_reducible refine (impl_TokenOk.calls ((rd_T148 l2 x34_2).f0) ((rd_T148 l2 x34_2).f1) ((rd_T148 l2 x34_2).f2) ((rd_T148 l2 x34_2).f3) true _ A16.out).mono ?_); rintro e w21 ⟨rfl, hb⟩; refine ⟨_, rfl, ?_⟩; have n0_ := Aside0.mk (Kd.R_below (by refine rs ?_; exact (Kd.R_mono (Kd.rf (Kd.rf (Kd.rf (Kd.rf (Kd.R_types HO_9.out BK299.out (by decide)))))) (fun _ h_ => h_.1))) hb); have n1_ := Aside0.mk (blk_below (g := gb299) (o := .cells #[.int .i64 ((rd_T148 l2 x34_2).f0), .string ((rd_T148 l2 x34_2).f1), .int .i64 ((rd_T148 l2 x34_2).f2), .int .i64 ((rd_T148 l2 x34_2).f3)] 148 (0, 0)) bk hb); have n2_ := Aside0.mk (below_step bz hb); clear HO_9; clear BK299; clear HB; have HO_9 := n0_; have BK299 := n1_; have HB := n2_; clear n0_ n1_ n2_; (try clear hb); (try clear hb2); (try clear hk); (try clear hi); obtain ⟨hcz22_0, hcz22_1, hcz22_2, hcz22_3, hfz22_0, hfz22_1, hfz22_2, hfz22_3⟩ := bc4 BK299.out))
              go_meet
              case rel => exact ⟨_, (true), sd, H', ⟨by have := HJ3.out; have := HK2.out; first | omega | exact Nat.le_refl _⟩, ⟨by refine rs ?_; exact HO_9.out⟩, ⟨(bo BK299)⟩, ⟨bz⟩⟩
             ·rw [if_neg c19] at H
              have c19b0 : decide ((wrap64 (Int.tdiv (wrap64 ((wrap64 ((a0.size : Int) + a1)) - 1)) a1)) ≤ ((rd_T148 l2 x34_2).f2)) = false := decide_eq_false c19
              clear c19
              have H' := Aside0.mk H
              clear H
              obtain ⟨hcz23_0, hcz23_1, hcz23_2, hcz23_3, hfz23_0, hfz23_1, hfz23_2, hfz23_3⟩ := bc4 BK299.out
              go_wp2_with (first | ((with_reducible refine gate_callee (f := 151) rfl ?_); refine goesL_ (some 39) rfl rfl Tryd.func151 (by kernel_rfl) rfl #[.agg #[.int .i64 ((rd_T148 l2 x34_2).f0), .string ((rd_T148 l2 x34_2).f1), .int .i64 ((rd_T148 l2 x34_2).f2), .int .i64 ((rd_T148 l2 x34_2).f3)]] rfl mt ?_; (with_reducible refine (impl_TokenOk.calls ((rd_T148 l2 x34_2).f0) ((rd_T148 l2 x34_2).f1) ((rd_T148 l2 x34_2).f2) ((rd_T148 l2 x34_2).f3) true _ A16.out).mono ?_); rintro e w24 ⟨rfl, hb⟩; refine ⟨_, rfl, ?_⟩; have n0_ := Aside0.mk (Kd.R_below (by refine rs ?_; exact (Kd.R_mono (Kd.rf (Kd.rf (Kd.rf (Kd.rf (Kd.R_types HO_9.out BK299.out (by decide)))))) (fun _ h_ => h_.1))) hb); have n1_ := Aside0.mk (blk_below (g := gb299) (o := .cells #[.int .i64 ((rd_T148 l2 x34_2).f0), .string ((rd_T148 l2 x34_2).f1), .int .i64 ((rd_T148 l2 x34_2).f2), .int .i64 ((rd_T148 l2 x34_2).f3)] 148 (0, 0)) bk hb); have n2_ := Aside0.mk (below_step bz hb); clear HO_9; clear BK299; clear HB; have HO_9 := n0_; have BK299 := n1_; have HB := n2_; clear n0_ n1_ n2_; (try clear hb); (try clear hb2); (try clear hk); (try clear hi); obtain ⟨hcz25_0, hcz25_1, hcz25_2, hcz25_3, hfz25_0, hfz25_1, hfz25_2, hfz25_3⟩ := bc4 BK299.out))
              go_meet
              case rel => exact ⟨_, (decide (((rd_T148 l2 x34_2).f3) > (wrap64 ((wrap64 (Int.tdiv (wrap64 ((wrap64 ((a0.size : Int) + a1)) - 1)) a1)) - ((rd_T148 l2 x34_2).f2))))), sd, H', ⟨by have := HJ3.out; have := HK2.out; first | omega | exact Nat.le_refl _⟩, ⟨by refine rs ?_; exact HO_9.out⟩, ⟨(bo BK299)⟩, ⟨bz⟩⟩
            ·rw [if_neg c18] at H
             have c18b0 : (((rd_T148 l2 x34_2).f0) == 1) = false := beq_eq_false_iff_ne.mpr c18
             have c18b1 : (((rd_T148 l2 x34_2).f0) != 1) = true := bne_iff_ne.mpr c18
             (first | rw [c18b0] | (simp only [i64_w, i32_w]; rw [c18b0]) | skip)
             have H' := Aside0.mk H
             clear H
             obtain ⟨hcz26_0, hcz26_1, hcz26_2, hcz26_3, hfz26_0, hfz26_1, hfz26_2, hfz26_3⟩ := bc4 BK299.out
             go_wp2_with (first | ((with_reducible refine gate_callee (f := 151) rfl ?_); refine goesL_ (some 39) rfl rfl Tryd.func151 (by kernel_rfl) rfl #[.agg #[.int .i64 ((rd_T148 l2 x34_2).f0), .string ((rd_T148 l2 x34_2).f1), .int .i64 ((rd_T148 l2 x34_2).f2), .int .i64 ((rd_T148 l2 x34_2).f3)]] rfl mt ?_; (with_reducible refine (impl_TokenOk.calls ((rd_T148 l2 x34_2).f0) ((rd_T148 l2 x34_2).f1) ((rd_T148 l2 x34_2).f2) ((rd_T148 l2 x34_2).f3) true _ A16.out).mono ?_); rintro e w27 ⟨rfl, hb⟩; refine ⟨_, rfl, ?_⟩; have n0_ := Aside0.mk (Kd.R_below (by refine rs ?_; exact (Kd.R_mono (Kd.rf (Kd.rf (Kd.rf (Kd.rf (Kd.R_types HO_9.out BK299.out (by decide)))))) (fun _ h_ => h_.1))) hb); have n1_ := Aside0.mk (blk_below (g := gb299) (o := .cells #[.int .i64 ((rd_T148 l2 x34_2).f0), .string ((rd_T148 l2 x34_2).f1), .int .i64 ((rd_T148 l2 x34_2).f2), .int .i64 ((rd_T148 l2 x34_2).f3)] 148 (0, 0)) bk hb); have n2_ := Aside0.mk (below_step bz hb); clear HO_9; clear BK299; clear HB; have HO_9 := n0_; have BK299 := n1_; have HB := n2_; clear n0_ n1_ n2_; (try clear hb); (try clear hb2); (try clear hk); (try clear hi); obtain ⟨hcz28_0, hcz28_1, hcz28_2, hcz28_3, hfz28_0, hfz28_1, hfz28_2, hfz28_3⟩ := bc4 BK299.out))
             go_meet
             case rel => exact ⟨_, (false), sd, H', ⟨by have := HJ3.out; have := HK2.out; first | omega | exact Nat.le_refl _⟩, ⟨by refine rs ?_; exact HO_9.out⟩, ⟨(bo BK299)⟩, ⟨bz⟩⟩
           ·replace c17 := Bool.eq_false_iff.mpr c17
            subst c17
            have H1 : (impl_Patch.j2 k2 a0 a1 (wrap64 (Int.tdiv (wrap64 ((wrap64 ((a0.size : Int) + a1)) - 1)) a1)) x9_2 l2 (l2.length : Int) x34_2 true ((rd_T148 l2 x34_2).f0) ((rd_T148 l2 x34_2).f1) ((rd_T148 l2 x34_2).f2) ((rd_T148 l2 x34_2).f3)) = some (r1, r2) := by rw [if_neg (show ¬ (false = true) by decide)] at H; exact H
            clear H
            have H := H1
            clear H1
            have H' := Aside0.mk H
            clear H
            obtain ⟨hcz29_0, hcz29_1, hcz29_2, hcz29_3, hfz29_0, hfz29_1, hfz29_2, hfz29_3⟩ := bc4 BK299.out
            go_wp2_with (first | ((with_reducible refine gate_callee (f := 151) rfl ?_); refine goesL_ (some 39) rfl rfl Tryd.func151 (by kernel_rfl) rfl #[.agg #[.int .i64 ((rd_T148 l2 x34_2).f0), .string ((rd_T148 l2 x34_2).f1), .int .i64 ((rd_T148 l2 x34_2).f2), .int .i64 ((rd_T148 l2 x34_2).f3)]] rfl mt ?_; (with_reducible refine (impl_TokenOk.calls ((rd_T148 l2 x34_2).f0) ((rd_T148 l2 x34_2).f1) ((rd_T148 l2 x34_2).f2) ((rd_T148 l2 x34_2).f3) false _ A16.out).mono ?_); rintro e w30 ⟨rfl, hb⟩; refine ⟨_, rfl, ?_⟩; have n0_ := Aside0.mk (Kd.R_below (by refine rs ?_; exact (Kd.R_mono (Kd.rf (Kd.rf (Kd.rf (Kd.rf (Kd.R_types HO_9.out BK299.out (by decide)))))) (fun _ h_ => h_.1))) hb); have n1_ := Aside0.mk (blk_below (g := gb299) (o := .cells #[.int .i64 ((rd_T148 l2 x34_2).f0), .string ((rd_T148 l2 x34_2).f1), .int .i64 ((rd_T148 l2 x34_2).f2), .int .i64 ((rd_T148 l2 x34_2).f3)] 148 (0, 0)) bk hb); have n2_ := Aside0.mk (below_step bz hb); clear HO_9; clear BK299; clear HB; have HO_9 := n0_; have BK299 := n1_; have HB := n2_; clear n0_ n1_ n2_; (try clear hb); (try clear hb2); (try clear hk); (try clear hi)))
            go_meet
            case rel => exact ⟨_, (true), sd, H', ⟨by have := HJ3.out; have := HK2.out; first | omega | exact Nat.le_refl _⟩, ⟨by refine rs ?_; exact HO_9.out⟩, ⟨(bo BK299)⟩, ⟨bz⟩⟩
          case rest =>
           clear HC13
           try clear c1
           try clear c2
           try clear p2
           try clear q2
           try clear hx2
           try clear c6
           try clear p6
           try clear c7
           try clear c7b0
           try clear c7b1
           try clear c8
           try clear c9
           try clear c9b0
           try clear c9b1
           try clear c10
           try clear c10b0
           try clear c11
           try clear c11b0
           try clear c12
           try clear c12b0
           try clear c15
           try clear c17
           try clear c18
           try clear c18b0
           try clear c18b1
           try clear c19
           try clear c19b0
           try clear p29
           try clear q29
           try clear hx29
           try clear hcz15_0 hcz15_1 hcz15_2 hcz15_3 hfz15_0 hfz15_1 hfz15_2 hfz15_3
           try clear hcz20_0 hcz20_1 hcz20_2 hcz20_3 hfz20_0 hfz20_1 hfz20_2 hfz20_3
           try clear hcz22_0 hcz22_1 hcz22_2 hcz22_3 hfz22_0 hfz22_1 hfz22_2 hfz22_3
           try clear hcz23_0 hcz23_1 hcz23_2 hcz23_3 hfz23_0 hfz23_1 hfz23_2 hfz23_3
           try clear hcz25_0 hcz25_1 hcz25_2 hcz25_3 hfz25_0 hfz25_1 hfz25_2 hfz25_3
           try clear hcz26_0 hcz26_1 hcz26_2 hcz26_3 hfz26_0 hfz26_1 hfz26_2 hfz26_3
           try clear hcz28_0 hcz28_1 hcz28_2 hcz28_3 hfz28_0 hfz28_1 hfz28_2 hfz28_3
           try clear hcz29_0 hcz29_1 hcz29_2 hcz29_3 hfz29_0 hfz29_1 hfz29_2 hfz29_3
           try clear hx298_0
           try clear hx298_1
           try clear hx298_2
           try clear hx298_3
           try clear p2
           try clear p298
           try clear p6
           try clear q298
           obtain ⟨kq, x60_12, rfl, HA, HJ12, HO_9, BK299, HB⟩ := hcut
           cases kq with
           | zero => exact absurd HA.out (by simp [impl_Patch.j2])
           | succ kj12 =>
            have H := HA.out
            clear HA
            simp only [impl_Patch.j2] at H
            by_cases c31 : x60_12 = true
            ·subst c31
             have H1 : (some ((⟨#[]⟩ : ByteArray), false)) = some (r1, r2) := by rw [if_pos rfl] at H; exact H
             clear H
             have H := H1
             clear H1
             simp only [Option.some.injEq, Prod.mk.injEq] at H
             obtain ⟨rfl, rfl⟩ := H
             go_wp2
             go_ret2
             exact ⟨rq, bz⟩
            ·replace c31 := Bool.eq_false_iff.mpr c31
             subst c31
             have H1 : (if x9_2.length + ((rd_T148 l2 x34_2).f1).size < 140737488355328 then ((some (x9_2 ++ bytesOf ((rd_T148 l2 x34_2).f1) : List Int)).bind fun y301 => (if ((rd_T148 l2 x34_2).f0) = 1 then (if 0 ≤ (wrap64 (((rd_T148 l2 x34_2).f2) * a1)) then (if (wrap64 (((rd_T148 l2 x34_2).f2) * a1)) ≤ (mn (wrap64 ((wrap64 (((rd_T148 l2 x34_2).f2) + ((rd_T148 l2 x34_2).f3))) * a1)) (a0.size : Int)) then (if (mn (wrap64 ((wrap64 (((rd_T148 l2 x34_2).f2) + ((rd_T148 l2 x34_2).f3))) * a1)) (a0.size : Int)) ≤ (a0.size : Int) then (if y301.length + (a0.extract ((wrap64 (((rd_T148 l2 x34_2).f2) * a1)) : Int).toNat ((mn (wrap64 ((wrap64 (((rd_T148 l2 x34_2).f2) + ((rd_T148 l2 x34_2).f3))) * a1)) (a0.size : Int)) : Int).toNat).size < 140737488355328 then ((some (y301 ++ bytesOf (a0.extract ((wrap64 (((rd_T148 l2 x34_2).f2) * a1)) : Int).toNat ((mn (wrap64 ((wrap64 (((rd_T148 l2 x34_2).f2) + ((rd_T148 l2 x34_2).f3))) * a1)) (a0.size : Int)) : Int).toNat) : List Int)).bind fun y304 => (if (y304.length : Int) > 20000 then (some ((⟨#[]⟩ : ByteArray), false)) else (impl_Patch.l0 kj12 a0 a1 (wrap64 (Int.tdiv (wrap64 ((wrap64 ((a0.size : Int) + a1)) - 1)) a1)) y304 l2 (l2.length : Int) (wrap64 (x34_2 + 1))))) else (none)) else (none)) else (none)) else (none)) else (if (y301.length : Int) > 20000 then (some ((⟨#[]⟩ : ByteArray), false)) else (impl_Patch.l0 kj12 a0 a1 (wrap64 (Int.tdiv (wrap64 ((wrap64 ((a0.size : Int) + a1)) - 1)) a1)) y301 l2 (l2.length : Int) (wrap64 (x34_2 + 1)))))) else (none)) = some (r1, r2) := by rw [if_neg (show ¬ (false = true) by decide)] at H; exact H
             clear H
             have H := H1
             clear H1
             by_cases c32 : x9_2.length + ((rd_T148 l2 x34_2).f1).size < 140737488355328
             ·rw [if_pos c32] at H
              have LMc32 := Aside0.mk c32
              clear c32
              obtain ⟨y301, hy301⟩ : ∃ y_ : List Int, y_ = (x9_2 ++ bytesOf ((rd_T148 l2 x34_2).f1)) := ⟨_, rfl⟩
              replace H : (if ((rd_T148 l2 x34_2).f0) = 1 then (if 0 ≤ (wrap64 (((rd_T148 l2 x34_2).f2) * a1)) then (if (wrap64 (((rd_T148 l2 x34_2).f2) * a1)) ≤ (mn (wrap64 ((wrap64 (((rd_T148 l2 x34_2).f2) + ((rd_T148 l2 x34_2).f3))) * a1)) (a0.size : Int)) then (if (mn (wrap64 ((wrap64 (((rd_T148 l2 x34_2).f2) + ((rd_T148 l2 x34_2).f3))) * a1)) (a0.size : Int)) ≤ (a0.size : Int) then (if y301.length + (a0.extract ((wrap64 (((rd_T148 l2 x34_2).f2) * a1)) : Int).toNat ((mn (wrap64 ((wrap64 (((rd_T148 l2 x34_2).f2) + ((rd_T148 l2 x34_2).f3))) * a1)) (a0.size : Int)) : Int).toNat).size < 140737488355328 then ((some (y301 ++ bytesOf (a0.extract ((wrap64 (((rd_T148 l2 x34_2).f2) * a1)) : Int).toNat ((mn (wrap64 ((wrap64 (((rd_T148 l2 x34_2).f2) + ((rd_T148 l2 x34_2).f3))) * a1)) (a0.size : Int)) : Int).toNat) : List Int)).bind fun y304 => (if (y304.length : Int) > 20000 then (some ((⟨#[]⟩ : ByteArray), false)) else (impl_Patch.l0 kj12 a0 a1 (wrap64 (Int.tdiv (wrap64 ((wrap64 ((a0.size : Int) + a1)) - 1)) a1)) y304 l2 (l2.length : Int) (wrap64 (x34_2 + 1))))) else (none)) else (none)) else (none)) else (none)) else (if (y301.length : Int) > 20000 then (some ((⟨#[]⟩ : ByteArray), false)) else (impl_Patch.l0 kj12 a0 a1 (wrap64 (Int.tdiv (wrap64 ((wrap64 ((a0.size : Int) + a1)) - 1)) a1)) y301 l2 (l2.length : Int) (wrap64 (x34_2 + 1))))) = some (r1, r2) := by first | (rw [hy301]; with_reducible exact H) | (have H2_ := (Option.bind_some _ _).symm.trans H; rw [hy301]; with_reducible exact H2_) | (have H2_ := (Option.bind_some _ _).symm.trans H; with_reducible exact H2_) | with_reducible exact H | (rw [hy301]; exact H) | exact H
              have Ny301 := Aside0.mk hy301
              clear hy301
              have HC33 := Aside0.mk H
              clear H
              obtain ⟨hcz34_0, hcz34_1, hcz34_2, hcz34_3, hfz34_0, hfz34_1, hfz34_2, hfz34_3⟩ := bc4 BK299.out
              go_upto_if 67 with (first | (at_builtin; refine print_append_str (w0 := w) w.heap.size rfl (.tmp 61) _ 22 9 5 rfl Tryd.underlying22 Tryd.underlying9 info5 u9 x9_2 ((rd_T148 l2 x34_2).f1) rfl rfl ?aO ?aB ?aS ?aL ?_; (case aB => exact bz); (case aO => exact (Kd.own_of_R (by refine rs ?_; exact HO_9.out))); (case aS => exact (below_size bz)); (case aL => have := LMc32.out; omega); intro v302 w35 ho0 hb hg; have ho := Kd.R_of_own (h1 := fun _ => rfl) (ok := fun _ => True) ho0 (fun _ _ => trivial); clear ho0; have hat := True.intro; rw [← Ny301.out] at ho; change Kd.R (Kd.int .u8) 5 w35 w.heap.size (fun _ => True) v302 y301 at ho; have n0_ := Aside0.mk (blk_grown (g := gb299) (o := .cells #[.int .i64 ((rd_T148 l2 x34_2).f0), .string ((rd_T148 l2 x34_2).f1), .int .i64 ((rd_T148 l2 x34_2).f2), .int .i64 ((rd_T148 l2 x34_2).f3)] 148 (0, 0)) (bo BK299) hg (Kd.R_ne HO_9.out BK299.out (by decide))); have n1_ := Aside0.mk (hb); have n2_ := Aside0.mk (ho); clear BK299; clear HB; clear HO_9; have BK299 := n0_; have HB := n1_; have HO303 := n2_; clear n0_ n1_ n2_; clear ho hb hg hat; obtain ⟨hcz36_0, hcz36_1, hcz36_2, hcz36_3, hfz36_0, hfz36_1, hfz36_2, hfz36_3⟩ := bc4 BK299.out))
              (try simp only [Act.put, List.setIfInBounds_toArray, List.set_cons_zero, List.set_cons_succ])
              have H := HC33.out
              clear HC33
              by_cases c37 : ((rd_T148 l2 x34_2).f0) = 1
              ·rw [if_pos c37] at H
               have c37b0 : (((rd_T148 l2 x34_2).f0) == 1) = true := beq_iff_eq.mpr c37
               have c37b1 : (((rd_T148 l2 x34_2).f0) != 1) = false := bne_eq_false_iff_eq.mpr c37
               clear c37
               (first | rw [c37b0] | (simp only [i64_w, i32_w]; rw [c37b0]) | skip)
               obtain ⟨ji38, hji38⟩ : ∃ j_ : Int, (mn (wrap64 ((wrap64 (((rd_T148 l2 x34_2).f2) + ((rd_T148 l2 x34_2).f3))) * a1)) (a0.size : Int)) = j_ := ⟨_, rfl⟩
               replace H : (if 0 ≤ (wrap64 (((rd_T148 l2 x34_2).f2) * a1)) then (if (wrap64 (((rd_T148 l2 x34_2).f2) * a1)) ≤ (ji38) then (if (ji38) ≤ (a0.size : Int) then (if y301.length + (a0.extract ((wrap64 (((rd_T148 l2 x34_2).f2) * a1)) : Int).toNat ((ji38) : Int).toNat).size < 140737488355328 then ((some (y301 ++ bytesOf (a0.extract ((wrap64 (((rd_T148 l2 x34_2).f2) * a1)) : Int).toNat ((ji38) : Int).toNat) : List Int)).bind fun y304 => (if (y304.length : Int) > 20000 then (some ((⟨#[]⟩ : ByteArray), false)) else (impl_Patch.l0 kj12 a0 a1 (wrap64 (Int.tdiv (wrap64 ((wrap64 ((a0.size : Int) + a1)) - 1)) a1)) y304 l2 (l2.length : Int) (wrap64 (x34_2 + 1))))) else (none)) else (none)) else (none)) else (none)) = some (r1, r2) := by first | (rw [hji38] at H; exact H) | (simp only [hji38] at H ⊢; exact H)
               have hji38_ : (if (a0.size : Int) < (wrap64 ((wrap64 (((rd_T148 l2 x34_2).f2) + ((rd_T148 l2 x34_2).f3))) * a1)) then (a0.size : Int) else (wrap64 ((wrap64 (((rd_T148 l2 x34_2).f2) + ((rd_T148 l2 x34_2).f3))) * a1))) = ji38 := hji38
               obtain ⟨ji39, hji39⟩ : ∃ j_ : Int, (wrap64 (((rd_T148 l2 x34_2).f2) * a1)) = j_ := ⟨_, rfl⟩
               replace H : (if 0 ≤ (ji39) then (if (ji39) ≤ (ji38) then (if (ji38) ≤ (a0.size : Int) then (if y301.length + (a0.extract ((ji39) : Int).toNat ((ji38) : Int).toNat).size < 140737488355328 then ((some (y301 ++ bytesOf (a0.extract ((ji39) : Int).toNat ((ji38) : Int).toNat) : List Int)).bind fun y304 => (if (y304.length : Int) > 20000 then (some ((⟨#[]⟩ : ByteArray), false)) else (impl_Patch.l0 kj12 a0 a1 (wrap64 (Int.tdiv (wrap64 ((wrap64 ((a0.size : Int) + a1)) - 1)) a1)) y304 l2 (l2.length : Int) (wrap64 (x34_2 + 1))))) else (none)) else (none)) else (none)) else (none)) = some (r1, r2) := by first | (rw [hji39] at H; exact H) | (simp only [hji39] at H ⊢; exact H)
               have hji39w : (IntKind.i64.wrap (((rd_T148 l2 x34_2).f2) * a1)) = ji39 := (i64_w _).trans hji39
               by_cases c40 : 0 ≤ (ji39)
               ·rw [if_pos c40] at H
                have c40b0 := eq_true c40
                have c40b1 : decide (0 ≤ (ji39)) = true := decide_eq_true c40
                clear c40
                by_cases c41 : (ji39) ≤ (ji38)
                ·rw [if_pos c41] at H
                 have c41b0 := eq_true c41
                 have c41b1 : decide ((ji39) ≤ (ji38)) = true := decide_eq_true c41
                 clear c41
                 by_cases c42 : (ji38) ≤ (a0.size : Int)
                 ·rw [if_pos c42] at H
                  have c42b0 := eq_true c42
                  have c42b1 : decide ((ji38) ≤ (a0.size : Int)) = true := decide_eq_true c42
                  clear c42
                  by_cases c43 : y301.length + (a0.extract ((ji39) : Int).toNat ((ji38) : Int).toNat).size < 140737488355328
                  ·rw [if_pos c43] at H
                   have LMc43 := Aside0.mk c43
                   clear c43
                   obtain ⟨y304, hy304⟩ : ∃ y_ : List Int, y_ = (y301 ++ bytesOf (a0.extract ((ji39) : Int).toNat ((ji38) : Int).toNat)) := ⟨_, rfl⟩
                   replace H : (if (y304.length : Int) > 20000 then (some ((⟨#[]⟩ : ByteArray), false)) else (impl_Patch.l0 kj12 a0 a1 (wrap64 (Int.tdiv (wrap64 ((wrap64 ((a0.size : Int) + a1)) - 1)) a1)) y304 l2 (l2.length : Int) (wrap64 (x34_2 + 1)))) = some (r1, r2) := by first | (rw [hy304]; with_reducible exact H) | (have H2_ := (Option.bind_some _ _).symm.trans H; rw [hy304]; with_reducible exact H2_) | (have H2_ := (Option.bind_some _ _).symm.trans H; with_reducible exact H2_) | with_reducible exact H | (rw [hy304]; exact H) | exact H
                   have Ny304 := Aside0.mk hy304
                   clear hy304
                   have HC44 := Aside0.mk H
                   clear H
                   obtain ⟨hcz45_0, hcz45_1, hcz45_2, hcz45_3, hfz45_0, hfz45_1, hfz45_2, hfz45_3⟩ := bc4 BK299.out
                   go_upto_if 88 with (first | (at_builtin; refine print_append_str (w0 := w) w.heap.size rfl (.tmp 68) _ 22 9 5 rfl Tryd.underlying22 Tryd.underlying9 info5 v302 y301 (a0.extract ((ji39) : Int).toNat ((ji38) : Int).toNat) rfl rfl ?aO ?aB ?aS ?aL ?_; (case aB => exact bz); (case aO => exact (Kd.own_of_R (by refine rs ?_; exact HO303.out))); (case aS => exact (below_size bz)); (case aL => have := LMc43.out; omega); intro v305 w46 ho0 hb hg; have ho := Kd.R_of_own (h1 := fun _ => rfl) (ok := fun _ => True) ho0 (fun _ _ => trivial); clear ho0; have hat := True.intro; rw [← Ny304.out] at ho; change Kd.R (Kd.int .u8) 5 w46 w.heap.size (fun _ => True) v305 y304 at ho; have n0_ := Aside0.mk (blk_grown (g := gb299) (o := .cells #[.int .i64 ((rd_T148 l2 x34_2).f0), .string ((rd_T148 l2 x34_2).f1), .int .i64 ((rd_T148 l2 x34_2).f2), .int .i64 ((rd_T148 l2 x34_2).f3)] 148 (0, 0)) (bo BK299) hg (Kd.R_ne HO303.out BK299.out (by decide))); have n1_ := Aside0.mk (hb); have n2_ := Aside0.mk (ho); clear BK299; clear HB; clear HO303; have BK299 := n0_; have HB := n1_; have HO306 := n2_; clear n0_ n1_ n2_; clear ho hb hg hat; obtain ⟨Ao47, co47, eo47⟩ := Kd.R_slice HO306.out; subst eo47))
                   (try simp only [Act.put, List.setIfInBounds_toArray, List.set_cons_zero, List.set_cons_succ])
                   have H := HC44.out
                   clear HC44
                   by_cases c48 : (y304.length : Int) > 20000
                   ·rw [if_pos c48] at H
                    have c48b0 : decide (20000 < (y304.length : Int)) = true := decide_eq_true c48
                    have c48b1 : decide (20000 < y304.length) = true := decide_eq_true (by omega)
                    clear c48
                    (first | rw [c48b0] | (simp only [i64_w, i32_w]; rw [c48b0]) | skip)
                    simp only [Option.some.injEq, Prod.mk.injEq] at H
                    obtain ⟨rfl, rfl⟩ := H
                    go_wp2
                    go_ret2
                    exact ⟨by first | rfl | (simp [errW_none, errW_some] <;> rfl) | (simp only [← hji38, ← hji39]; first | rfl | (simp [errW_none, errW_some] <;> rfl)) | (simp [*, errW_none, errW_some] <;> rfl), bz⟩
                   ·rw [if_neg c48] at H
                    have c48b0 : decide (20000 < (y304.length : Int)) = false := decide_eq_false c48
                    have c48b1 : decide (20000 < y304.length) = false := decide_eq_false (by omega)
                    clear c48
                    (first | rw [c48b0] | (simp only [i64_w, i32_w]; rw [c48b0]) | skip)
                    have H' := Aside0.mk H
                    clear H
                    go_wp2
                    go_roundg kj12
                    case measure => have := HJ3.out; have := HK2.out; have := HJ12.out; omega
                    case rel => exact ⟨(y304), (wrap64 (x34_2 + 1)), sd, H', ⟨by have := HJ3.out; have := HK2.out; have := HJ12.out; omega⟩, ⟨by refine rs ?_; exact HO306.out⟩, ⟨bz⟩⟩
                  ·rw [if_neg c43] at H
                   exact absurd H (by simp)
                 ·rw [if_neg c42] at H
                  exact absurd H (by simp)
                ·rw [if_neg c41] at H
                 exact absurd H (by simp)
               ·rw [if_neg c40] at H
                exact absurd H (by simp)
              ·rw [if_neg c37] at H
               have c37b0 : (((rd_T148 l2 x34_2).f0) == 1) = false := beq_eq_false_iff_ne.mpr c37
               have c37b1 : (((rd_T148 l2 x34_2).f0) != 1) = true := bne_iff_ne.mpr c37
               (first | rw [c37b0] | (simp only [i64_w, i32_w]; rw [c37b0]) | skip)
               by_cases c49 : (y301.length : Int) > 20000
               ·rw [if_pos c49] at H
                have c49b0 : decide (20000 < (y301.length : Int)) = true := decide_eq_true c49
                have c49b1 : decide (20000 < y301.length) = true := decide_eq_true (by omega)
                clear c49
                simp only [Option.some.injEq, Prod.mk.injEq] at H
                obtain ⟨rfl, rfl⟩ := H
                obtain ⟨Ao50, co50, eo50⟩ := Kd.R_slice HO303.out
                subst eo50
                go_wp2
                go_ret2
                exact ⟨rq, bz⟩
               ·rw [if_neg c49] at H
                have c49b0 : decide (20000 < (y301.length : Int)) = false := decide_eq_false c49
                have c49b1 : decide (20000 < y301.length) = false := decide_eq_false (by omega)
                clear c49
                have H' := Aside0.mk H
                clear H
                obtain ⟨Ao51, co51, eo51⟩ := Kd.R_slice HO303.out
                subst eo51
                go_wp2
                go_roundg kj12
                case measure => have := HJ3.out; have := HK2.out; have := HJ12.out; omega
                case rel => exact ⟨(y301), (wrap64 (x34_2 + 1)), sd, H', ⟨by have := HJ3.out; have := HK2.out; have := HJ12.out; omega⟩, ⟨by refine rs ?_; exact HO303.out⟩, ⟨bz⟩⟩
             ·rw [if_neg c32] at H
              exact absurd H (by simp)
         ·rw [if_neg c12] at H
          exact absurd H (by simp)
        ·rw [if_neg c11] at H
         exact absurd H (by simp)
       ·rw [if_neg c10] at H
        have c10b0 : decide (x34_2 < (l2.length : Int)) = false := decide_eq_false c10
        clear c10
        simp only [Option.some.injEq, Prod.mk.injEq] at H
        obtain ⟨rfl, rfl⟩ := H
        have hcv52 := own_string (P := Tryd.prog) Tryd.underlying22 Tryd.underlying5 Tryd.underlying9 (Kd.own_of_R HO_9.out)
        go_wp2
        go_ret2
        exact ⟨rq, bz⟩

/-! ### impl_BlockSize: function 93 -/
def impl_BlockSize.l0 : Nat → Int → Int → Option (Int)
 | 0, _, _ => none
 | k + 1, x0, x3 => if x3 < 256 then (if (wrap64 (x3 * x3)) < x0 then (impl_BlockSize.l0 k x0 (wrap64 (x3 + 8))) else (some x3)) else (some x3)
def impl_BlockSize.f (k : Nat) (a0 : Int) : Option (Int) := impl_BlockSize.l0 k a0 8
theorem impl_BlockSize.mono_l : ∀ k, (∀ y0 y1, LeO (impl_BlockSize.l0 k y0 y1) (impl_BlockSize.l0 (k + 1) y0 y1))
 | 0 => fun _ _ r h => by simp [impl_BlockSize.l0] at h
 | k + 1 => by
  have ih0 := impl_BlockSize.mono_l k
  ·intro y0 y1
   unfold impl_BlockSize.l0
   repeat' first | (with_reducible first | exact ih0 _ _ | exact LeO.refl _ | exact LeO.none _ | refine LeO.ite ?_ ?_ | refine LeO.bind ?_ (fun _ => ?_)) | exact ih0 _ _ | exact LeO.none _ | refine LeO.ite ?_ ?_ | refine LeO.bind ?_ (fun _ => ?_)
theorem impl_BlockSize.mono : ∀ a0 k, LeO (impl_BlockSize.f k a0) (impl_BlockSize.f (k + 1) a0) := by
 intro a0 k
 have ih0 := impl_BlockSize.mono_l k
 unfold impl_BlockSize.f
 repeat' first | (with_reducible first | exact ih0 _ _ | exact LeO.refl _ | exact LeO.none _ | refine LeO.ite ?_ ?_ | refine LeO.bind ?_ (fun _ => ?_)) | exact ih0 _ _ | exact LeO.none _ | refine LeO.ite ?_ ?_ | refine LeO.bind ?_ (fun _ => ?_)
set_option maxHeartbeats 8000000 in
set_option maxRecDepth 100000 in
theorem impl_BlockSize.calls (k : Nat) (a0 : Int) (r : Int) (w : World) (h : impl_BlockSize.f k a0 = some r) :
  Calls Tryd.prog 93 #[.int .i64 a0] w fun e w' => e = .returned (.int .i64 r) ∧ Drawn0 w w' := by
 have H : (impl_BlockSize.l0 k a0 8) = some r := h
 clear h
 have H' := Aside0.mk H
 clear H
 go_enter Tryd.func93, Tryd.ntmps93
 go_wp2
 go_loopg [3] k (fun kq v3 w' => ∃ (x3_1 : Int), v3 = .int .i64 x3_1 ∧ Aside0 (impl_BlockSize.l0 kq a0 x3_1 = some r) ∧ Aside0 (kq ≤ k) ∧ Drawn0 w w')
 case atStart => exact ⟨(8), sd, H', ⟨Nat.le_refl _⟩, by repeat (first | exact Drawn0.refl _ | apply Drawn0.step)⟩
 case round =>
  clear H'
  obtain ⟨x3_1, rfl, HA, HK1, ⟨m1, rfl⟩⟩ := hrel
  cases gk with
  | zero => exact absurd HA.out (by simp [impl_BlockSize.l0])
  | succ k1 =>
   have H := HA.out
   clear HA
   simp only [impl_BlockSize.l0] at H
   by_cases c2 : x3_1 < 256
   ·rw [if_pos c2] at H
    have c2b0 : decide (x3_1 < 256) = true := decide_eq_true c2
    clear c2
    by_cases c3 : (wrap64 (x3_1 * x3_1)) < a0
    ·rw [if_pos c3] at H
     have c3b0 : decide ((wrap64 (x3_1 * x3_1)) < a0) = true := decide_eq_true c3
     clear c3
     have H' := Aside0.mk H
     clear H
     go_wp2
     go_roundg k1
     case measure => have := HK1.out; omega
     case rel => exact ⟨(wrap64 (x3_1 + 8)), sd, H', ⟨by have := HK1.out; omega⟩, by repeat (first | exact Drawn0.refl _ | apply Drawn0.step)⟩
    ·rw [if_neg c3] at H
     have c3b0 : decide ((wrap64 (x3_1 * x3_1)) < a0) = false := decide_eq_false c3
     clear c3
     obtain rfl := Option.some.inj H
     go_wp2
     go_ret
     exact ⟨sd, by repeat (first | exact Drawn0.refl _ | apply Drawn0.step)⟩
   ·rw [if_neg c2] at H
    have c2b0 : decide (x3_1 < 256) = false := decide_eq_false c2
    clear c2
    obtain rfl := Option.some.inj H
    go_wp2
    go_ret
    exact ⟨sd, by repeat (first | exact Drawn0.refl _ | apply Drawn0.step)⟩

/-! ### impl_wordText: function 135 -/
def impl_wordText.f (a0 : Int) : Option (ByteArray) := some (strOfNums (([(a0) % 256, (a0 / 256) % 256, (a0 / 65536) % 256, (a0 / 16777216) % 256] : List Int)))
set_option maxHeartbeats 8000000 in
set_option maxRecDepth 100000 in
theorem impl_wordText.calls (a0 : Int) (r : ByteArray) (w : World) (h : impl_wordText.f a0 = some r) :
  Calls Tryd.prog 135 #[.int .u32 a0] w fun e w' => e = .returned (.string r) ∧ Below w.heap.size w w' := by
 have HB := Aside0.mk (Below.refl w.heap.size w)
 have H : (some (strOfNums (([(a0) % 256, (a0 / 256) % 256, (a0 / 65536) % 256, (a0 / 16777216) % 256] : List Int)))) = some r := h
 clear h
 obtain ⟨y307, hy307⟩ : ∃ y_ : List Int, y_ = (([(a0) % 256, (a0 / 256) % 256, (a0 / 65536) % 256, (a0 / 16777216) % 256] : List Int)) := ⟨_, rfl⟩
 replace H : (some (strOfNums y307)) = some r := by first | (rw [hy307]; with_reducible exact H) | (have H2_ := (Option.bind_some _ _).symm.trans H; rw [hy307]; with_reducible exact H2_) | (have H2_ := (Option.bind_some _ _).symm.trans H; with_reducible exact H2_) | with_reducible exact H | (rw [hy307]; exact H) | exact H
 have Ny307 := Aside0.mk hy307
 clear hy307
 obtain rfl := Option.some.inj H
 go_enter Tryd.func135, Tryd.ntmps135
 go_wp2_with (first | ((with_reducible refine gate_dst (N := 14) rfl ?_); refine Kd.R_lit (Kd.int .u8) _ 5 ?hg (N := 14) ?hd (xs := ([(a0) % 256, (a0 / 256) % 256, (a0 / 65536) % 256, (a0 / 16777216) % 256] : List Int)) (inner := [.int .u8 ((a0) % 256), .int .u8 ((a0 / 256) % 256), .int .u8 ((a0 / 65536) % 256), .int .u8 ((a0 / 16777216) % 256)]) (ok := fun _ => True) (okp := fun _ => True) ?hr ?hp (fun _ hk => hk) trivial (Below.refl _ _) (Nat.le_refl _) (by simp) ?_; (case hd => rfl); (case hg => rfl); (case hr => first | (go_simp; done) | (go_simp; rfl)); (case hp => exact (Reps.one (show Kd.M (Kd.int .u8) _ _ _ ((a0) % 256) [.int .u8 ((a0) % 256)] from rfl) (Reps.one (show Kd.M (Kd.int .u8) _ _ _ ((a0 / 256) % 256) [.int .u8 ((a0 / 256) % 256)] from rfl) (Reps.one (show Kd.M (Kd.int .u8) _ _ _ ((a0 / 65536) % 256) [.int .u8 ((a0 / 65536) % 256)] from rfl) (Reps.one (show Kd.M (Kd.int .u8) _ _ _ ((a0 / 16777216) % 256) [.int .u8 ((a0 / 16777216) % 256)] from rfl) (Reps.none _ _)))))); intro v308 w2 ho3 hb hg_ hnew_; clear hg_ hnew_; (first | rw [← Ny307.out] at ho3 | (simp only [Int.reduceToNat] at ho3; rw [← Ny307.out] at ho3)); have n0_ := Aside0.mk (Kd.R_lower ho3 (below_size bz)); have n1_ := Aside0.mk (below_step bz hb); clear HB; have HO309 := n0_; have HB := n1_; clear n0_ n1_; clear hb ho3; have hcv4 := own_string (P := Tryd.prog) Tryd.underlying22 Tryd.underlying5 Tryd.underlying9 (Kd.own_of_R HO309.out)))
 go_ret
 exact ⟨rq, bz⟩

-- NOT PRINTED: function 152 (impl_padded)

/-! ### impl_readWord: function 195 -/
def impl_readWord.f (a0 : ByteArray) : Option (Int) := if 0 < (a0.size : Int) then (if 1 < (a0.size : Int) then (if 2 < (a0.size : Int) then (if 3 < (a0.size : Int) then (some (Go.bits .or .u32 (Go.bits .or .u32 (Go.bits .or .u32 ((bt a0 0) % 4294967296) ((((bt a0 1) % 4294967296) * 256) % 4294967296)) ((((bt a0 2) % 4294967296) * 65536) % 4294967296)) ((((bt a0 3) % 4294967296) * 16777216) % 4294967296))) else (none)) else (none)) else (none)) else (none)
set_option maxHeartbeats 8000000 in
set_option maxRecDepth 100000 in
theorem impl_readWord.calls (a0 : ByteArray) (r : Int) (w : World) (h : impl_readWord.f a0 = some r) :
  Calls Tryd.prog 195 #[.string a0] w fun e w' => e = .returned (.int .u32 r) ∧ Drawn0 w w' := by
 have H : (if 0 < (a0.size : Int) then (if 1 < (a0.size : Int) then (if 2 < (a0.size : Int) then (if 3 < (a0.size : Int) then (some (Go.bits .or .u32 (Go.bits .or .u32 (Go.bits .or .u32 ((bt a0 0) % 4294967296) ((((bt a0 1) % 4294967296) * 256) % 4294967296)) ((((bt a0 2) % 4294967296) * 65536) % 4294967296)) ((((bt a0 3) % 4294967296) * 16777216) % 4294967296))) else (none)) else (none)) else (none)) else (none)) = some r := h
 clear h
 by_cases c2 : 0 < (a0.size : Int)
 ·rw [if_pos c2] at H
  have c2b0 : decide (0 < (a0.size : Int)) = true := decide_eq_true c2
  have c2b1 : decide (0 < a0.size) = true := decide_eq_true (by omega)
  clear c2
  by_cases c4 : 1 < (a0.size : Int)
  ·rw [if_pos c4] at H
   have c4b0 : decide (1 < (a0.size : Int)) = true := decide_eq_true c4
   have c4b1 : decide (1 < a0.size) = true := decide_eq_true (by omega)
   clear c4
   by_cases c6 : 2 < (a0.size : Int)
   ·rw [if_pos c6] at H
    have c6b0 : decide (2 < (a0.size : Int)) = true := decide_eq_true c6
    have c6b1 : decide (2 < a0.size) = true := decide_eq_true (by omega)
    clear c6
    by_cases c8 : 3 < (a0.size : Int)
    ·rw [if_pos c8] at H
     have c8b0 : decide (3 < (a0.size : Int)) = true := decide_eq_true c8
     have c8b1 : decide (3 < a0.size) = true := decide_eq_true (by omega)
     clear c8
     obtain rfl := Option.some.inj H
     have p3 : 0 ≤ (0 : Int) := (by omega)
     have q3 : 0 < a0.size := (by have : (0 : Int) < (a0.size : Int) := of_decide_eq_true am; omega)
     have hx3 : ∀ h : 0 < a0.size, ((a0[0]'h).toNat : Int) = bt a0 0 := bt_at a0 0
     clear p3
     have qi3 : (0 < (a0.size : Int)) = True := eq_true od
     replace q3 := eq_true q3
     have p5 : 0 ≤ (1 : Int) := (by omega)
     have q5 : 1 < a0.size := (by have : (1 : Int) < (a0.size : Int) := of_decide_eq_true am; omega)
     have hx5 : ∀ h : 1 < a0.size, ((a0[1]'h).toNat : Int) = bt a0 1 := bt_at a0 1
     clear p5
     have qi5 : (1 < (a0.size : Int)) = True := eq_true od
     replace q5 := eq_true q5
     have p7 : 0 ≤ (2 : Int) := (by omega)
     have q7 : 2 < a0.size := (by have : (2 : Int) < (a0.size : Int) := of_decide_eq_true am; omega)
     have hx7 : ∀ h : 2 < a0.size, ((a0[2]'h).toNat : Int) = bt a0 2 := bt_at a0 2
     clear p7
     have qi7 : (2 < (a0.size : Int)) = True := eq_true od
     replace q7 := eq_true q7
     have p9 : 0 ≤ (3 : Int) := (by omega)
     have q9 : 3 < a0.size := (by have : (3 : Int) < (a0.size : Int) := of_decide_eq_true am; omega)
     have hx9 : ∀ h : 3 < a0.size, ((a0[3]'h).toNat : Int) = bt a0 3 := bt_at a0 3
     clear p9
     have qi9 : (3 < (a0.size : Int)) = True := eq_true od
     replace q9 := eq_true q9
     go_enter Tryd.func195, Tryd.ntmps195
     go_wp2
     repeat (go_quiet (fail); try go_wp2)
     go_ret
     exact ⟨sd, by repeat (first | exact Drawn0.refl _ | apply Drawn0.step)⟩
    ·rw [if_neg c8] at H
     exact absurd H (by simp)
   ·rw [if_neg c6] at H
    exact absurd H (by simp)
  ·rw [if_neg c4] at H
   exact absurd H (by simp)
 ·rw [if_neg c2] at H
  exact absurd H (by simp)

/-! ### bits_RotateLeft32: function 197 -/
def bits_RotateLeft32.f (a0 : Int) (a1 : Int) : Option (Int) := if 0 ≤ (Go.bits .and .u64 (IntKind.u64.wrap (a1)) 31) then (if 0 ≤ (IntKind.u64.wrap (32 - (Go.bits .and .u64 (IntKind.u64.wrap (a1)) 31))) then (some (Go.bits .or .u32 (shl .u32 a0 (Go.bits .and .u64 (IntKind.u64.wrap (a1)) 31)) (shr .u32 a0 (IntKind.u64.wrap (32 - (Go.bits .and .u64 (IntKind.u64.wrap (a1)) 31)))))) else (none)) else (none)
set_option maxHeartbeats 8000000 in
set_option maxRecDepth 100000 in
theorem bits_RotateLeft32.calls (a0 : Int) (a1 : Int) (r : Int) (w : World) (h : bits_RotateLeft32.f a0 a1 = some r) :
  Calls Tryd.prog 197 #[.int .u32 a0, .int .i64 a1] w fun e w' => e = .returned (.int .u32 r) ∧ Drawn0 w w' := by
 have H : (if 0 ≤ (Go.bits .and .u64 (IntKind.u64.wrap (a1)) 31) then (if 0 ≤ (IntKind.u64.wrap (32 - (Go.bits .and .u64 (IntKind.u64.wrap (a1)) 31))) then (some (Go.bits .or .u32 (shl .u32 a0 (Go.bits .and .u64 (IntKind.u64.wrap (a1)) 31)) (shr .u32 a0 (IntKind.u64.wrap (32 - (Go.bits .and .u64 (IntKind.u64.wrap (a1)) 31)))))) else (none)) else (none)) = some r := h
 clear h
 obtain ⟨ji3, hji3⟩ : ∃ j_ : Int, (Go.bits .and .u64 (IntKind.u64.wrap (a1)) 31) = j_ := ⟨_, rfl⟩
 replace H : (if 0 ≤ (ji3) then (if 0 ≤ (IntKind.u64.wrap (32 - (ji3))) then (some (Go.bits .or .u32 (shl .u32 a0 (ji3)) (shr .u32 a0 (IntKind.u64.wrap (32 - (ji3)))))) else (none)) else (none)) = some r := by first | (rw [hji3] at H; exact H) | (simp only [hji3] at H ⊢; exact H)
 by_cases c4 : 0 ≤ (ji3)
 ·rw [if_pos c4] at H
  have c4b0 := eq_true c4
  have c4b1 : decide (0 ≤ (ji3)) = true := decide_eq_true c4
  clear c4
  obtain ⟨ji5, hji5⟩ : ∃ j_ : Int, (shl .u32 a0 (ji3)) = j_ := ⟨_, rfl⟩
  replace H : (if 0 ≤ (IntKind.u64.wrap (32 - (ji3))) then (some (Go.bits .or .u32 (ji5) (shr .u32 a0 (IntKind.u64.wrap (32 - (ji3)))))) else (none)) = some r := by first | (rw [hji5] at H; exact H) | (simp only [hji5] at H ⊢; exact H)
  have hji5_ : (IntKind.u32.wrap (a0 * 2 ^ min (ji3).toNat 32)) = ji5 := hji5
  have hji5z : (ji3) ≤ 32 → (IntKind.u32.wrap (a0 * 2 ^ (ji3).toNat)) = ji5 := shl_small hji5
  obtain ⟨ji6, hji6⟩ : ∃ j_ : Int, (IntKind.u64.wrap (32 - (ji3))) = j_ := ⟨_, rfl⟩
  replace H : (if 0 ≤ (ji6) then (some (Go.bits .or .u32 (ji5) (shr .u32 a0 (ji6)))) else (none)) = some r := by first | (rw [hji6] at H; exact H) | (simp only [hji6] at H ⊢; exact H)
  by_cases c7 : 0 ≤ (ji6)
  ·rw [if_pos c7] at H
   have c7b0 := eq_true c7
   have c7b1 : decide (0 ≤ (ji6)) = true := decide_eq_true c7
   clear c7
   obtain ⟨ji8, hji8⟩ : ∃ j_ : Int, (shr .u32 a0 (ji6)) = j_ := ⟨_, rfl⟩
   replace H : (some (Go.bits .or .u32 (ji5) (ji8))) = some r := by first | (rw [hji8] at H; exact H) | (simp only [hji8] at H ⊢; exact H)
   have hji8_ : (a0 / 2 ^ min (ji6).toNat 32) = ji8 := hji8
   have hji8z : (ji6) ≤ 32 → (a0 / 2 ^ (ji6).toNat) = ji8 := shr_small hji8
   obtain rfl := Option.some.inj H
   go_enter Tryd.func197, Tryd.ntmps197
   go_wp2
   go_ret
   exact ⟨by first | rfl | (simp; done) | (simp only [← hji3, ← hji5, ← hji6, ← hji8] <;> (first | rfl | simp)) | (simp [*]; done), by repeat (first | exact Drawn0.refl _ | apply Drawn0.step)⟩
  ·rw [if_neg c7] at H
   exact absurd H (by simp)
 ·rw [if_neg c4] at H
  exact absurd H (by simp)

-- NOT PRINTED: function 153 (impl_mix)

/-! ### impl_strong: function 94 (by hand) -/
def impl_strong.f (a0 : ByteArray) : Option (ByteArray) := if a0.size ≤ 1000000000 then some (Go.Proofs.YtjiaigjmihmdjaaDoor.Sum.strongF a0) else none
theorem impl_strong.calls (a0 : ByteArray) (r : ByteArray) (w : World) (h : impl_strong.f a0 = some r) (hT : Go.Proofs.YtjiaigjmihmdjaaDoor.Sum.Tabs w := by exact Go.Proofs.YtjiaigjmihmdjaaDoor.Sum.Tabs.at HT.out (by repeat (first | (with_reducible first | exact HB.out | apply below_alloc | apply pw_below_drewN | apply below_drew1 | refine below_set ?_ (Aside0.out (by assumption))) | exact HB.out))) :
    Calls Tryd.prog 94 #[.string a0] w fun e w' => e = .returned (.string r) ∧ Below w.heap.size w w' := by
  unfold impl_strong.f at h
  by_cases hs : a0.size ≤ 1000000000
  · rw [if_pos hs] at h
    obtain rfl := Option.some.inj h
    exact Go.Proofs.YtjiaigjmihmdjaaDoor.Sum.strong_calls a0 w hs hT
  · rw [if_neg hs] at h
    cases h

end Go.Proofs.YtjiaigjmihmdjaaDoor.PFnExactTakeAnswer
