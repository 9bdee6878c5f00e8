
/- The machine's side, written by a program of this session (a turned print): each function as a plain Lean function, and that the call comes to it. -/
import Derived.Test.YtjiaigjmihmdjaaDoorPFnExactShowNodex0
import Derived.Test.YtjiaigjmihmdjaaDoorPFnExactShowNodex1
namespace Go.Proofs.YtjiaigjmihmdjaaDoor.PFnExactShowNode
open Go.RowKit Go.Proofs.YtjiaigjmihmdjaaDoorW.PrintWords Go.Proofs.YtjiaigjmihmdjaaDoorW.PrintLast Go.Proofs.YtjiaigjmihmdjaaDoorW.PrintMore
attribute [local go_sem] max2_int min2_int max_two min_two max_three min_three max_four min_four   -- for this text's walks alone
set_option linter.unusedVariables false
set_option linter.unusedSimpArgs false

/-! ### spec_NodeOk: function 103 -/
mutual
def spec_NodeOk.j0 : Nat → Bool → ByteArray → Int → Int → Int → ByteArray → ByteArray → Int → Option (Bool)
 | 0, _, _, _, _, _, _, _, _ => none
 | k + 1, x19, x121000, x121001, x121002, x121003, x121004, x121005, x121006 => if x19 = true then (some false) else (if x121001 = 0 then (if x121004.toList = ([] : List UInt8) then (if x121005.toList = ([] : List UInt8) then (some (x121006 == 0)) else (some false)) else (some false)) else (if x121001 = 1 then (if (x121004.size : Int) ≤ 20000 then (if x121005.toList = ([] : List UInt8) then ((spec_l01In.f x121006 0 200).bind fun t124 => (some t124)) else (some false)) else (some false)) else (if x121001 = 2 then (if x121004.toList = ([] : List UInt8) then (if x121002 = 0 then (if x121006 = 0 then ((spec_l01In.f (x121005.size : Int) 1 60).bind fun t125 => (spec_NodeOk.j1 k (!t125) x121000 x121001 x121002 x121003 x121004 x121005 x121006)) else (spec_NodeOk.j1 k true x121000 x121001 x121002 x121003 x121004 x121005 x121006)) else (spec_NodeOk.j1 k true x121000 x121001 x121002 x121003 x121004 x121005 x121006)) else (spec_NodeOk.j1 k true x121000 x121001 x121002 x121003 x121004 x121005 x121006)) else (some false))))
def spec_NodeOk.j1 : Nat → Bool → ByteArray → Int → Int → Int → ByteArray → ByteArray → Int → Option (Bool)
 | 0, _, _, _, _, _, _, _, _ => none
 | k + 1, x74, x121000, x121001, x121002, x121003, x121004, x121005, x121006 => if x74 = true then (some false) else (spec_NodeOk.l0 k 0 x121000 x121001 x121002 x121003 x121004 x121005 x121006)
def spec_NodeOk.l0 : Nat → Int → ByteArray → Int → Int → Int → ByteArray → ByteArray → Int → Option (Bool)
 | 0, _, _, _, _, _, _, _, _ => none
 | k + 1, x3, x121000, x121001, x121002, x121003, x121004, x121005, x121006 => if x3 < (x121005.size : Int) then (if 0 ≤ x3 then (if (bt x121005 x3) = 10 then (some false) else (spec_NodeOk.l0 k (wrap64 (x3 + 1)) x121000 x121001 x121002 x121003 x121004 x121005 x121006)) else (none)) else (some true)
end
def spec_NodeOk.f (k : Nat) (a0_0 : ByteArray) (a0_1 : Int) (a0_2 : Int) (a0_3 : Int) (a0_4 : ByteArray) (a0_5 : ByteArray) (a0_6 : Int) : Option (Bool) := (spec_PathOk.f k a0_0).bind fun t121 => (if t121 = true then ((spec_l01In.f a0_2 0 511).bind fun t122 => (if t122 = true then ((spec_l01In.f a0_3 0 1000000000).bind fun t123 => (spec_NodeOk.j0 k (!t123) a0_0 a0_1 a0_2 a0_3 a0_4 a0_5 a0_6)) else (spec_NodeOk.j0 k true a0_0 a0_1 a0_2 a0_3 a0_4 a0_5 a0_6))) else (spec_NodeOk.j0 k true a0_0 a0_1 a0_2 a0_3 a0_4 a0_5 a0_6))
theorem spec_NodeOk.mono_l : ∀ k, (∀ y0 y1 y2 y3 y4 y5 y6 y7, LeO (spec_NodeOk.j0 k y0 y1 y2 y3 y4 y5 y6 y7) (spec_NodeOk.j0 (k + 1) y0 y1 y2 y3 y4 y5 y6 y7)) ∧ (∀ y0 y1 y2 y3 y4 y5 y6 y7, LeO (spec_NodeOk.j1 k y0 y1 y2 y3 y4 y5 y6 y7) (spec_NodeOk.j1 (k + 1) y0 y1 y2 y3 y4 y5 y6 y7)) ∧ (∀ y0 y1 y2 y3 y4 y5 y6 y7, LeO (spec_NodeOk.l0 k y0 y1 y2 y3 y4 y5 y6 y7) (spec_NodeOk.l0 (k + 1) y0 y1 y2 y3 y4 y5 y6 y7))
 | 0 => ⟨fun _ _ _ _ _ _ _ _ r h => by simp [spec_NodeOk.j0] at h, fun _ _ _ _ _ _ _ _ r h => by simp [spec_NodeOk.j1] at h, fun _ _ _ _ _ _ _ _ r h => by simp [spec_NodeOk.l0] at h⟩
 | k + 1 => by
  obtain ⟨ih0, ih1, ih2⟩ := spec_NodeOk.mono_l k
  refine ⟨?_, ?_, ?_⟩
  ·intro y0 y1 y2 y3 y4 y5 y6 y7
   unfold spec_NodeOk.j0
   repeat' first | (with_reducible first | exact ih0 _ _ _ _ _ _ _ _ | exact ih1 _ _ _ _ _ _ _ _ | exact ih2 _ _ _ _ _ _ _ _ | exact spec_PathOk.mono _ _ | exact LeO.refl _ | exact LeO.none _ | refine LeO.ite ?_ ?_ | refine LeO.bind ?_ (fun _ => ?_)) | exact ih0 _ _ _ _ _ _ _ _ | exact ih1 _ _ _ _ _ _ _ _ | exact ih2 _ _ _ _ _ _ _ _ | exact spec_PathOk.mono _ _ | exact LeO.none _ | refine LeO.ite ?_ ?_ | refine LeO.bind ?_ (fun _ => ?_)
  ·intro y0 y1 y2 y3 y4 y5 y6 y7
   unfold spec_NodeOk.j1
   repeat' first | (with_reducible first | exact ih0 _ _ _ _ _ _ _ _ | exact ih1 _ _ _ _ _ _ _ _ | exact ih2 _ _ _ _ _ _ _ _ | exact spec_PathOk.mono _ _ | exact LeO.refl _ | exact LeO.none _ | refine LeO.ite ?_ ?_ | refine LeO.bind ?_ (fun _ => ?_)) | exact ih0 _ _ _ _ _ _ _ _ | exact ih1 _ _ _ _ _ _ _ _ | exact ih2 _ _ _ _ _ _ _ _ | exact spec_PathOk.mono _ _ | exact LeO.none _ | refine LeO.ite ?_ ?_ | refine LeO.bind ?_ (fun _ => ?_)
  ·intro y0 y1 y2 y3 y4 y5 y6 y7
   unfold spec_NodeOk.l0
   repeat' first | (with_reducible first | exact ih0 _ _ _ _ _ _ _ _ | exact ih1 _ _ _ _ _ _ _ _ | exact ih2 _ _ _ _ _ _ _ _ | exact spec_PathOk.mono _ _ | exact LeO.refl _ | exact LeO.none _ | refine LeO.ite ?_ ?_ | refine LeO.bind ?_ (fun _ => ?_)) | exact ih0 _ _ _ _ _ _ _ _ | exact ih1 _ _ _ _ _ _ _ _ | exact ih2 _ _ _ _ _ _ _ _ | exact spec_PathOk.mono _ _ | exact LeO.none _ | refine LeO.ite ?_ ?_ | refine LeO.bind ?_ (fun _ => ?_)
theorem spec_NodeOk.mono : ∀ a0 a1 a2 a3 a4 a5 a6 k, LeO (spec_NodeOk.f k a0 a1 a2 a3 a4 a5 a6) (spec_NodeOk.f (k + 1) a0 a1 a2 a3 a4 a5 a6) := by
 intro a0 a1 a2 a3 a4 a5 a6 k
 obtain ⟨ih0, ih1, ih2⟩ := spec_NodeOk.mono_l k
 unfold spec_NodeOk.f
 repeat' first | (with_reducible first | exact ih0 _ _ _ _ _ _ _ _ | exact ih1 _ _ _ _ _ _ _ _ | exact ih2 _ _ _ _ _ _ _ _ | exact spec_PathOk.mono _ _ | exact LeO.refl _ | exact LeO.none _ | refine LeO.ite ?_ ?_ | refine LeO.bind ?_ (fun _ => ?_)) | exact ih0 _ _ _ _ _ _ _ _ | exact ih1 _ _ _ _ _ _ _ _ | exact ih2 _ _ _ _ _ _ _ _ | exact spec_PathOk.mono _ _ | exact LeO.none _ | refine LeO.ite ?_ ?_ | refine LeO.bind ?_ (fun _ => ?_)
set_option maxHeartbeats 8000000 in
set_option maxRecDepth 100000 in
theorem spec_NodeOk.calls (k : Nat) (a0_0 : ByteArray) (a0_1 : Int) (a0_2 : Int) (a0_3 : Int) (a0_4 : ByteArray) (a0_5 : ByteArray) (a0_6 : Int) (r : Bool) (w : World) (h : spec_NodeOk.f k a0_0 a0_1 a0_2 a0_3 a0_4 a0_5 a0_6 = some r) :
  Calls Tryd.prog 103 #[.agg #[.string a0_0, .int .i64 a0_1, .int .i64 a0_2, .int .i64 a0_3, .string a0_4, .string a0_5, .int .i64 a0_6]] w fun e w' => e = .returned (.bool r) ∧ Below w.heap.size w w' := by
 have hu65 := Tryd.underlying65
 have HB := Aside0.mk (Below.refl w.heap.size w)
 have H : ((spec_PathOk.f k a0_0).bind fun t121 => (if t121 = true then ((spec_l01In.f a0_2 0 511).bind fun t122 => (if t122 = true then ((spec_l01In.f a0_3 0 1000000000).bind fun t123 => (spec_NodeOk.j0 k (!t123) a0_0 a0_1 a0_2 a0_3 a0_4 a0_5 a0_6)) else (spec_NodeOk.j0 k true a0_0 a0_1 a0_2 a0_3 a0_4 a0_5 a0_6))) else (spec_NodeOk.j0 k true a0_0 a0_1 a0_2 a0_3 a0_4 a0_5 a0_6))) = some r := h
 clear h
 have HC2 := Aside0.mk H
 clear H
 go_enter Tryd.func103, Tryd.ntmps103
 go_upto_region 1 with (first | ((with_reducible refine gate_dst (N := 1) rfl ?_); (try (refine gate_guard (by rfl) ?_; dsimp only)); refine box_event ?hg (N := 1) ?hd (cs := #[.string a0_0, .int .i64 a0_1, .int .i64 a0_2, .int .i64 a0_3, .string a0_4, .string a0_5, .int .i64 a0_6]) (t := 65) ?hr ?_; (case hd => rfl); (case hg => rfl); (case hr => first | (go_simp; done) | (go_simp; rfl)); intro gb120 hg w3 hbox hb; have n0_ := Aside0.mk (below_step bz hb); have n1_ := Aside0.mk (hbox); have n2_ := Aside0.mk (bg : w.heap.size ≤ gb120); have n3_ := Aside0.mk (bg : w.heap.size ≤ gb120); clear HB; have HB := n0_; have BK120 := n1_; have GW120 := n2_; have GE120 := n3_; clear n0_ n1_ n2_ n3_; clear hb hbox hg))
 (try simp only [Act.put, List.setIfInBounds_toArray, List.set_cons_zero, List.set_cons_succ])
 go_cut [19] (fun v19 wc => ∃ (kq : Nat) (x19_1 : Bool), v19 = .bool x19_1 ∧ Aside0 (spec_NodeOk.j0 kq x19_1 a0_0 a0_1 a0_2 a0_3 a0_4 a0_5 a0_6 = some r) ∧ Aside0 (kq ≤ k) ∧ Aside0 (wc.heap[gb120]? = some (.cells #[.string a0_0, .int .i64 a0_1, .int .i64 a0_2, .int .i64 a0_3, .string a0_4, .string a0_5, .int .i64 a0_6] 65 (0, 0))) ∧ Aside0 (Below w.heap.size w wc))
 case first =>
  have H := HC2.out
  clear HC2
  replace H := Option.bind_eq_some_iff.mp H
  obtain ⟨t121, A40, H⟩ := H
  try dsimp -simprocs only at H
  have A4 := Aside0.mk A40
  clear A40
  by_cases c5 : t121 = true
  ·subst c5
   have H1 : ((spec_l01In.f a0_2 0 511).bind fun t122 => (if t122 = true then ((spec_l01In.f a0_3 0 1000000000).bind fun t123 => (spec_NodeOk.j0 k (!t123) a0_0 a0_1 a0_2 a0_3 a0_4 a0_5 a0_6)) else (spec_NodeOk.j0 k true a0_0 a0_1 a0_2 a0_3 a0_4 a0_5 a0_6))) = some r := by rw [if_pos rfl] at H; exact H
   clear H
   have H := H1
   clear H1
   replace H := Option.bind_eq_some_iff.mp H
   obtain ⟨t122, A60, H⟩ := H
   try dsimp -simprocs only at H
   have A6 := Aside0.mk A60
   clear A60
   by_cases c7 : t122 = true
   ·subst c7
    have H1 : ((spec_l01In.f a0_3 0 1000000000).bind fun t123 => (spec_NodeOk.j0 k (!t123) a0_0 a0_1 a0_2 a0_3 a0_4 a0_5 a0_6)) = some r := by rw [if_pos rfl] at H; exact H
    clear H
    have H := H1
    clear H1
    replace H := Option.bind_eq_some_iff.mp H
    obtain ⟨t123, A80, H⟩ := H
    try dsimp -simprocs only at H
    have A8 := Aside0.mk A80
    clear A80
    have H' := Aside0.mk H
    clear H
    obtain ⟨hcz9_0, hcz9_1, hcz9_2, hcz9_3, hcz9_4, hcz9_5, hcz9_6, hfz9_0, hfz9_1, hfz9_2, hfz9_3, hfz9_4, hfz9_5, hfz9_6⟩ := bc7 BK120.out
    go_wp2_with (first | ((with_reducible refine gate_callee (f := 163) rfl ?_); refine goesL_ (some 6) rfl rfl Tryd.func163 (by kernel_rfl) rfl #[.string a0_0] rfl mt ?_; (with_reducible refine (spec_PathOk.calls k a0_0 true _ A4.out).mono ?_); rintro e w10 ⟨rfl, hb⟩; refine ⟨_, rfl, ?_⟩; have n0_ := Aside0.mk (blk_below (bo BK120) hb); have n1_ := Aside0.mk (below_step bz hb); clear BK120; clear HB; have BK120 := n0_; have HB := n1_; clear n0_ n1_; (try clear hb); (try clear hb2); (try clear hk); (try clear hi); obtain ⟨hcz11_0, hcz11_1, hcz11_2, hcz11_3, hcz11_4, hcz11_5, hcz11_6, hfz11_0, hfz11_1, hfz11_2, hfz11_3, hfz11_4, hfz11_5, hfz11_6⟩ := bc7 BK120.out) | (go_at_call 73; (with_reducible refine (spec_l01In.calls a0_2 0 511 true _ A6.out).mono ?_); rintro e w' ⟨rfl, ⟨nd, rfl⟩⟩) | (go_at_call 73; (with_reducible refine (spec_l01In.calls a0_3 0 1000000000 t123 _ A8.out).mono ?_); rintro e w' ⟨rfl, ⟨nd, rfl⟩⟩))
    go_meet
    case rel => exact ⟨_, (!t123), sd, H', ⟨ob⟩, ⟨(bo BK120)⟩, ⟨bz⟩⟩
   ·replace c7 := Bool.eq_false_iff.mpr c7
    subst c7
    have H1 : (spec_NodeOk.j0 k true a0_0 a0_1 a0_2 a0_3 a0_4 a0_5 a0_6) = some r := by rw [if_neg (show ¬ (false = true) by decide)] at H; exact H
    clear H
    have H := H1
    clear H1
    have H' := Aside0.mk H
    clear H
    obtain ⟨hcz12_0, hcz12_1, hcz12_2, hcz12_3, hcz12_4, hcz12_5, hcz12_6, hfz12_0, hfz12_1, hfz12_2, hfz12_3, hfz12_4, hfz12_5, hfz12_6⟩ := bc7 BK120.out
    go_wp2_with (first | ((with_reducible refine gate_callee (f := 163) rfl ?_); refine goesL_ (some 6) rfl rfl Tryd.func163 (by kernel_rfl) rfl #[.string a0_0] rfl mt ?_; (with_reducible refine (spec_PathOk.calls k a0_0 true _ A4.out).mono ?_); rintro e w13 ⟨rfl, hb⟩; refine ⟨_, rfl, ?_⟩; have n0_ := Aside0.mk (blk_below (bo BK120) hb); have n1_ := Aside0.mk (below_step bz hb); clear BK120; clear HB; have BK120 := n0_; have HB := n1_; clear n0_ n1_; (try clear hb); (try clear hb2); (try clear hk); (try clear hi); obtain ⟨hcz14_0, hcz14_1, hcz14_2, hcz14_3, hcz14_4, hcz14_5, hcz14_6, hfz14_0, hfz14_1, hfz14_2, hfz14_3, hfz14_4, hfz14_5, hfz14_6⟩ := bc7 BK120.out) | (go_at_call 73; (with_reducible refine (spec_l01In.calls a0_2 0 511 false _ A6.out).mono ?_); rintro e w' ⟨rfl, ⟨nd, rfl⟩⟩))
    go_meet
    case rel => exact ⟨_, (true), sd, H', ⟨ob⟩, ⟨(bo BK120)⟩, ⟨bz⟩⟩
  ·replace c5 := Bool.eq_false_iff.mpr c5
   subst c5
   have H1 : (spec_NodeOk.j0 k true a0_0 a0_1 a0_2 a0_3 a0_4 a0_5 a0_6) = some r := by rw [if_neg (show ¬ (false = true) by decide)] at H; exact H
   clear H
   have H := H1
   clear H1
   have H' := Aside0.mk H
   clear H
   obtain ⟨hcz15_0, hcz15_1, hcz15_2, hcz15_3, hcz15_4, hcz15_5, hcz15_6, hfz15_0, hfz15_1, hfz15_2, hfz15_3, hfz15_4, hfz15_5, hfz15_6⟩ := bc7 BK120.out
   go_wp2_with (first | ((with_reducible refine gate_callee (f := 163) rfl ?_); refine goesL_ (some 6) rfl rfl Tryd.func163 (by kernel_rfl) rfl #[.string a0_0] rfl mt ?_; (with_reducible refine (spec_PathOk.calls k a0_0 false _ A4.out).mono ?_); rintro e w16 ⟨rfl, hb⟩; refine ⟨_, rfl, ?_⟩; have n0_ := Aside0.mk (blk_below (bo BK120) hb); have n1_ := Aside0.mk (below_step bz hb); clear BK120; clear HB; have BK120 := n0_; have HB := n1_; clear n0_ n1_; (try clear hb); (try clear hb2); (try clear hk); (try clear hi)))
   go_meet
   case rel => exact ⟨_, (true), sd, H', ⟨ob⟩, ⟨(bo BK120)⟩, ⟨bz⟩⟩
 case rest =>
  clear HC2
  try clear c1
  try clear p2
  try clear c5
  try clear c7
  try clear c10
  try clear c16
  try clear hcz11_0 hcz11_1 hcz11_2 hcz11_3 hcz11_4 hcz11_5 hcz11_6 hfz11_0 hfz11_1 hfz11_2 hfz11_3 hfz11_4 hfz11_5 hfz11_6
  try clear hcz12_0 hcz12_1 hcz12_2 hcz12_3 hcz12_4 hcz12_5 hcz12_6 hfz12_0 hfz12_1 hfz12_2 hfz12_3 hfz12_4 hfz12_5 hfz12_6
  try clear hcz14_0 hcz14_1 hcz14_2 hcz14_3 hcz14_4 hcz14_5 hcz14_6 hfz14_0 hfz14_1 hfz14_2 hfz14_3 hfz14_4 hfz14_5 hfz14_6
  try clear hcz15_0 hcz15_1 hcz15_2 hcz15_3 hcz15_4 hcz15_5 hcz15_6 hfz15_0 hfz15_1 hfz15_2 hfz15_3 hfz15_4 hfz15_5 hfz15_6
  try clear hcz9_0 hcz9_1 hcz9_2 hcz9_3 hcz9_4 hcz9_5 hcz9_6 hfz9_0 hfz9_1 hfz9_2 hfz9_3 hfz9_4 hfz9_5 hfz9_6
  obtain ⟨kq, x19_1, rfl, HA, HJ1, BK120, HB⟩ := hcut
  cases kq with
  | zero => exact absurd HA.out (by simp [spec_NodeOk.j0])
  | succ kj1 =>
   have H := HA.out
   clear HA
   simp only [spec_NodeOk.j0] at H
   by_cases c17 : x19_1 = true
   ·subst c17
    have H1 : (some false) = some r := by rw [if_pos rfl] at H; exact H
    clear H
    have H := H1
    clear H1
    obtain rfl := Option.some.inj H
    go_wp2
    go_ret
    exact ⟨rq, bz⟩
   ·replace c17 := Bool.eq_false_iff.mpr c17
    subst c17
    have H1 : (if a0_1 = 0 then (if a0_4.toList = ([] : List UInt8) then (if a0_5.toList = ([] : List UInt8) then (some (a0_6 == 0)) else (some false)) else (some false)) else (if a0_1 = 1 then (if (a0_4.size : Int) ≤ 20000 then (if a0_5.toList = ([] : List UInt8) then ((spec_l01In.f a0_6 0 200).bind fun t124 => (some t124)) else (some false)) else (some false)) else (if a0_1 = 2 then (if a0_4.toList = ([] : List UInt8) then (if a0_2 = 0 then (if a0_6 = 0 then ((spec_l01In.f (a0_5.size : Int) 1 60).bind fun t125 => (spec_NodeOk.j1 kj1 (!t125) a0_0 a0_1 a0_2 a0_3 a0_4 a0_5 a0_6)) else (spec_NodeOk.j1 kj1 true a0_0 a0_1 a0_2 a0_3 a0_4 a0_5 a0_6)) else (spec_NodeOk.j1 kj1 true a0_0 a0_1 a0_2 a0_3 a0_4 a0_5 a0_6)) else (spec_NodeOk.j1 kj1 true a0_0 a0_1 a0_2 a0_3 a0_4 a0_5 a0_6)) else (some false)))) = some r := by rw [if_neg (show ¬ (false = true) by decide)] at H; exact H
    clear H
    have H := H1
    clear H1
    by_cases c18 : a0_1 = 0
    ·rw [if_pos c18] at H
     have c18b0 : (a0_1 == 0) = true := beq_iff_eq.mpr c18
     have c18b1 : (a0_1 != 0) = false := bne_eq_false_iff_eq.mpr c18
     clear c18
     by_cases c19 : a0_4.toList = ([] : List UInt8)
     ·rw [if_pos c19] at H
      have c19b0 : (a0_4.toList == ([] : List UInt8)) = true := beq_iff_eq.mpr c19
      have c19b1 : (a0_4.toList != ([] : List UInt8)) = false := bne_eq_false_iff_eq.mpr c19
      clear c19
      by_cases c20 : a0_5.toList = ([] : List UInt8)
      ·rw [if_pos c20] at H
       have c20b0 : (a0_5.toList == ([] : List UInt8)) = true := beq_iff_eq.mpr c20
       have c20b1 : (a0_5.toList != ([] : List UInt8)) = false := bne_eq_false_iff_eq.mpr c20
       clear c20
       obtain rfl := Option.some.inj H
       obtain ⟨hcz21_0, hcz21_1, hcz21_2, hcz21_3, hcz21_4, hcz21_5, hcz21_6, hfz21_0, hfz21_1, hfz21_2, hfz21_3, hfz21_4, hfz21_5, hfz21_6⟩ := bc7 BK120.out
       go_wp2
       go_ret
       exact ⟨rq, bz⟩
      ·rw [if_neg c20] at H
       have c20b0 : (a0_5.toList == ([] : List UInt8)) = false := beq_eq_false_iff_ne.mpr c20
       have c20b1 : (a0_5.toList != ([] : List UInt8)) = true := bne_iff_ne.mpr c20
       obtain rfl := Option.some.inj H
       obtain ⟨hcz22_0, hcz22_1, hcz22_2, hcz22_3, hcz22_4, hcz22_5, hcz22_6, hfz22_0, hfz22_1, hfz22_2, hfz22_3, hfz22_4, hfz22_5, hfz22_6⟩ := bc7 BK120.out
       go_wp2
       go_ret
       exact ⟨rq, bz⟩
     ·rw [if_neg c19] at H
      have c19b0 : (a0_4.toList == ([] : List UInt8)) = false := beq_eq_false_iff_ne.mpr c19
      have c19b1 : (a0_4.toList != ([] : List UInt8)) = true := bne_iff_ne.mpr c19
      obtain rfl := Option.some.inj H
      obtain ⟨hcz23_0, hcz23_1, hcz23_2, hcz23_3, hcz23_4, hcz23_5, hcz23_6, hfz23_0, hfz23_1, hfz23_2, hfz23_3, hfz23_4, hfz23_5, hfz23_6⟩ := bc7 BK120.out
      go_wp2
      go_ret
      exact ⟨rq, bz⟩
    ·rw [if_neg c18] at H
     have c18b0 : (a0_1 == 0) = false := beq_eq_false_iff_ne.mpr c18
     have c18b1 : (a0_1 != 0) = true := bne_iff_ne.mpr c18
     by_cases c24 : a0_1 = 1
     ·rw [if_pos c24] at H
      have c24b0 : (a0_1 == 1) = true := beq_iff_eq.mpr c24
      have c24b1 : (a0_1 != 1) = false := bne_eq_false_iff_eq.mpr c24
      clear c24
      by_cases c25 : (a0_4.size : Int) ≤ 20000
      ·rw [if_pos c25] at H
       have c25b0 : decide ((a0_4.size : Int) ≤ 20000) = true := decide_eq_true c25
       have c25b1 : decide (a0_4.size ≤ 20000) = true := decide_eq_true (by omega)
       clear c25
       by_cases c26 : a0_5.toList = ([] : List UInt8)
       ·rw [if_pos c26] at H
        have c26b0 : (a0_5.toList == ([] : List UInt8)) = true := beq_iff_eq.mpr c26
        have c26b1 : (a0_5.toList != ([] : List UInt8)) = false := bne_eq_false_iff_eq.mpr c26
        clear c26
        replace H := Option.bind_eq_some_iff.mp H
        obtain ⟨t124, A270, H⟩ := H
        try dsimp -simprocs only at H
        have A27 := Aside0.mk A270
        clear A270
        obtain rfl := Option.some.inj H
        obtain ⟨hcz28_0, hcz28_1, hcz28_2, hcz28_3, hcz28_4, hcz28_5, hcz28_6, hfz28_0, hfz28_1, hfz28_2, hfz28_3, hfz28_4, hfz28_5, hfz28_6⟩ := bc7 BK120.out
        go_wp2_with (first | (go_at_call 73; (with_reducible refine (spec_l01In.calls a0_6 0 200 t124 _ A27.out).mono ?_); rintro e w' ⟨rfl, ⟨nd, rfl⟩⟩))
        go_ret
        exact ⟨rq, bz⟩
       ·rw [if_neg c26] at H
        have c26b0 : (a0_5.toList == ([] : List UInt8)) = false := beq_eq_false_iff_ne.mpr c26
        have c26b1 : (a0_5.toList != ([] : List UInt8)) = true := bne_iff_ne.mpr c26
        obtain rfl := Option.some.inj H
        obtain ⟨hcz29_0, hcz29_1, hcz29_2, hcz29_3, hcz29_4, hcz29_5, hcz29_6, hfz29_0, hfz29_1, hfz29_2, hfz29_3, hfz29_4, hfz29_5, hfz29_6⟩ := bc7 BK120.out
        go_wp2
        go_ret
        exact ⟨rq, bz⟩
      ·rw [if_neg c25] at H
       have c25b0 : decide ((a0_4.size : Int) ≤ 20000) = false := decide_eq_false c25
       have c25b1 : decide (a0_4.size ≤ 20000) = false := decide_eq_false (by omega)
       clear c25
       obtain rfl := Option.some.inj H
       obtain ⟨hcz30_0, hcz30_1, hcz30_2, hcz30_3, hcz30_4, hcz30_5, hcz30_6, hfz30_0, hfz30_1, hfz30_2, hfz30_3, hfz30_4, hfz30_5, hfz30_6⟩ := bc7 BK120.out
       go_wp2
       go_ret
       exact ⟨rq, bz⟩
     ·rw [if_neg c24] at H
      have c24b0 : (a0_1 == 1) = false := beq_eq_false_iff_ne.mpr c24
      have c24b1 : (a0_1 != 1) = true := bne_iff_ne.mpr c24
      by_cases c31 : a0_1 = 2
      ·rw [if_pos c31] at H
       have c31b0 : (a0_1 == 2) = true := beq_iff_eq.mpr c31
       have c31b1 : (a0_1 != 2) = false := bne_eq_false_iff_eq.mpr c31
       clear c31
       have HC32 := Aside0.mk H
       clear H
       obtain ⟨hcz33_0, hcz33_1, hcz33_2, hcz33_3, hcz33_4, hcz33_5, hcz33_6, hfz33_0, hfz33_1, hfz33_2, hfz33_3, hfz33_4, hfz33_5, hfz33_6⟩ := bc7 BK120.out
       go_upto_region 9 with (fail)
       go_cut [74] (fun v74 wc => ∃ (kq : Nat) (x74_31 : Bool), v74 = .bool x74_31 ∧ Aside0 (spec_NodeOk.j1 kq x74_31 a0_0 a0_1 a0_2 a0_3 a0_4 a0_5 a0_6 = some r) ∧ Aside0 (kq ≤ kj1) ∧ Aside0 (wc.heap[gb120]? = some (.cells #[.string a0_0, .int .i64 a0_1, .int .i64 a0_2, .int .i64 a0_3, .string a0_4, .string a0_5, .int .i64 a0_6] 65 (0, 0))) ∧ Aside0 (Below w.heap.size w wc))
       case first =>
        have H := HC32.out
        clear HC32
        by_cases c34 : a0_4.toList = ([] : List UInt8)
        ·rw [if_pos c34] at H
         have c34b0 : (a0_4.toList == ([] : List UInt8)) = true := beq_iff_eq.mpr c34
         have c34b1 : (a0_4.toList != ([] : List UInt8)) = false := bne_eq_false_iff_eq.mpr c34
         clear c34
         (first | rw [c34b0] | (simp only [i64_w, i32_w]; rw [c34b0]) | skip)
         by_cases c35 : a0_2 = 0
         ·rw [if_pos c35] at H
          have c35b0 : (a0_2 == 0) = true := beq_iff_eq.mpr c35
          have c35b1 : (a0_2 != 0) = false := bne_eq_false_iff_eq.mpr c35
          clear c35
          by_cases c36 : a0_6 = 0
          ·rw [if_pos c36] at H
           have c36b0 : (a0_6 == 0) = true := beq_iff_eq.mpr c36
           have c36b1 : (a0_6 != 0) = false := bne_eq_false_iff_eq.mpr c36
           clear c36
           replace H := Option.bind_eq_some_iff.mp H
           obtain ⟨t125, A370, H⟩ := H
           try dsimp -simprocs only at H
           have A37 := Aside0.mk A370
           clear A370
           have H' := Aside0.mk H
           clear H
           obtain ⟨hcz38_0, hcz38_1, hcz38_2, hcz38_3, hcz38_4, hcz38_5, hcz38_6, hfz38_0, hfz38_1, hfz38_2, hfz38_3, hfz38_4, hfz38_5, hfz38_6⟩ := bc7 BK120.out
           go_wp2_with (first | (go_at_call 73; (with_reducible refine (spec_l01In.calls (a0_5.size : Int) 1 60 t125 _ A37.out).mono ?_); rintro e w' ⟨rfl, ⟨nd, rfl⟩⟩))
           go_meet
           case rel => exact ⟨_, (!t125), sd, H', ⟨by have := HJ1.out; first | omega | exact Nat.le_refl _⟩, ⟨(bo BK120)⟩, ⟨bz⟩⟩
          ·rw [if_neg c36] at H
           have c36b0 : (a0_6 == 0) = false := beq_eq_false_iff_ne.mpr c36
           have c36b1 : (a0_6 != 0) = true := bne_iff_ne.mpr c36
           have H' := Aside0.mk H
           clear H
           obtain ⟨hcz39_0, hcz39_1, hcz39_2, hcz39_3, hcz39_4, hcz39_5, hcz39_6, hfz39_0, hfz39_1, hfz39_2, hfz39_3, hfz39_4, hfz39_5, hfz39_6⟩ := bc7 BK120.out
           go_wp2
           go_meet
           case rel => exact ⟨_, (true), sd, H', ⟨by have := HJ1.out; first | omega | exact Nat.le_refl _⟩, ⟨(bo BK120)⟩, ⟨bz⟩⟩
         ·rw [if_neg c35] at H
          have c35b0 : (a0_2 == 0) = false := beq_eq_false_iff_ne.mpr c35
          have c35b1 : (a0_2 != 0) = true := bne_iff_ne.mpr c35
          have H' := Aside0.mk H
          clear H
          obtain ⟨hcz40_0, hcz40_1, hcz40_2, hcz40_3, hcz40_4, hcz40_5, hcz40_6, hfz40_0, hfz40_1, hfz40_2, hfz40_3, hfz40_4, hfz40_5, hfz40_6⟩ := bc7 BK120.out
          go_wp2
          go_meet
          case rel => exact ⟨_, (true), sd, H', ⟨by have := HJ1.out; first | omega | exact Nat.le_refl _⟩, ⟨(bo BK120)⟩, ⟨bz⟩⟩
        ·rw [if_neg c34] at H
         have c34b0 : (a0_4.toList == ([] : List UInt8)) = false := beq_eq_false_iff_ne.mpr c34
         have c34b1 : (a0_4.toList != ([] : List UInt8)) = true := bne_iff_ne.mpr c34
         (first | rw [c34b0] | (simp only [i64_w, i32_w]; rw [c34b0]) | skip)
         have H' := Aside0.mk H
         clear H
         obtain ⟨hcz41_0, hcz41_1, hcz41_2, hcz41_3, hcz41_4, hcz41_5, hcz41_6, hfz41_0, hfz41_1, hfz41_2, hfz41_3, hfz41_4, hfz41_5, hfz41_6⟩ := bc7 BK120.out
         go_wp2
         go_meet
         case rel => exact ⟨_, (true), sd, H', ⟨by have := HJ1.out; first | omega | exact Nat.le_refl _⟩, ⟨(bo BK120)⟩, ⟨bz⟩⟩
       case rest =>
        clear HC32
        try clear c1
        try clear c2
        try clear p2
        try clear c3
        try clear c5
        try clear c7
        try clear c10
        try clear c16
        try clear c17
        try clear c18
        try clear c18b0
        try clear c18b1
        try clear c19
        try clear c19b0
        try clear c19b1
        try clear c20
        try clear c20b0
        try clear c20b1
        try clear c24
        try clear c24b0
        try clear c24b1
        try clear c25
        try clear c25b0
        try clear c25b1
        try clear c26
        try clear c26b0
        try clear c26b1
        try clear c31
        try clear c31b0
        try clear c31b1
        try clear c34
        try clear c34b0
        try clear c34b1
        try clear c35
        try clear c35b0
        try clear c35b1
        try clear c36
        try clear c36b0
        try clear c36b1
        try clear hcz11_0 hcz11_1 hcz11_2 hcz11_3 hcz11_4 hcz11_5 hcz11_6 hfz11_0 hfz11_1 hfz11_2 hfz11_3 hfz11_4 hfz11_5 hfz11_6
        try clear hcz12_0 hcz12_1 hcz12_2 hcz12_3 hcz12_4 hcz12_5 hcz12_6 hfz12_0 hfz12_1 hfz12_2 hfz12_3 hfz12_4 hfz12_5 hfz12_6
        try clear hcz14_0 hcz14_1 hcz14_2 hcz14_3 hcz14_4 hcz14_5 hcz14_6 hfz14_0 hfz14_1 hfz14_2 hfz14_3 hfz14_4 hfz14_5 hfz14_6
        try clear hcz15_0 hcz15_1 hcz15_2 hcz15_3 hcz15_4 hcz15_5 hcz15_6 hfz15_0 hfz15_1 hfz15_2 hfz15_3 hfz15_4 hfz15_5 hfz15_6
        try clear hcz21_0 hcz21_1 hcz21_2 hcz21_3 hcz21_4 hcz21_5 hcz21_6 hfz21_0 hfz21_1 hfz21_2 hfz21_3 hfz21_4 hfz21_5 hfz21_6
        try clear hcz22_0 hcz22_1 hcz22_2 hcz22_3 hcz22_4 hcz22_5 hcz22_6 hfz22_0 hfz22_1 hfz22_2 hfz22_3 hfz22_4 hfz22_5 hfz22_6
        try clear hcz23_0 hcz23_1 hcz23_2 hcz23_3 hcz23_4 hcz23_5 hcz23_6 hfz23_0 hfz23_1 hfz23_2 hfz23_3 hfz23_4 hfz23_5 hfz23_6
        try clear hcz28_0 hcz28_1 hcz28_2 hcz28_3 hcz28_4 hcz28_5 hcz28_6 hfz28_0 hfz28_1 hfz28_2 hfz28_3 hfz28_4 hfz28_5 hfz28_6
        try clear hcz29_0 hcz29_1 hcz29_2 hcz29_3 hcz29_4 hcz29_5 hcz29_6 hfz29_0 hfz29_1 hfz29_2 hfz29_3 hfz29_4 hfz29_5 hfz29_6
        try clear hcz30_0 hcz30_1 hcz30_2 hcz30_3 hcz30_4 hcz30_5 hcz30_6 hfz30_0 hfz30_1 hfz30_2 hfz30_3 hfz30_4 hfz30_5 hfz30_6
        try clear hcz33_0 hcz33_1 hcz33_2 hcz33_3 hcz33_4 hcz33_5 hcz33_6 hfz33_0 hfz33_1 hfz33_2 hfz33_3 hfz33_4 hfz33_5 hfz33_6
        try clear hcz38_0 hcz38_1 hcz38_2 hcz38_3 hcz38_4 hcz38_5 hcz38_6 hfz38_0 hfz38_1 hfz38_2 hfz38_3 hfz38_4 hfz38_5 hfz38_6
        try clear hcz39_0 hcz39_1 hcz39_2 hcz39_3 hcz39_4 hcz39_5 hcz39_6 hfz39_0 hfz39_1 hfz39_2 hfz39_3 hfz39_4 hfz39_5 hfz39_6
        try clear hcz40_0 hcz40_1 hcz40_2 hcz40_3 hcz40_4 hcz40_5 hcz40_6 hfz40_0 hfz40_1 hfz40_2 hfz40_3 hfz40_4 hfz40_5 hfz40_6
        try clear hcz41_0 hcz41_1 hcz41_2 hcz41_3 hcz41_4 hcz41_5 hcz41_6 hfz41_0 hfz41_1 hfz41_2 hfz41_3 hfz41_4 hfz41_5 hfz41_6
        try clear hcz9_0 hcz9_1 hcz9_2 hcz9_3 hcz9_4 hcz9_5 hcz9_6 hfz9_0 hfz9_1 hfz9_2 hfz9_3 hfz9_4 hfz9_5 hfz9_6
        try clear p2
        obtain ⟨kq, x74_31, rfl, HA, HJ31, BK120, HB⟩ := hcut
        cases kq with
        | zero => exact absurd HA.out (by simp [spec_NodeOk.j1])
        | succ kj31 =>
         have H := HA.out
         clear HA
         simp only [spec_NodeOk.j1] at H
         by_cases c42 : x74_31 = true
         ·subst c42
          have H1 : (some false) = some r := by rw [if_pos rfl] at H; exact H
          clear H
          have H := H1
          clear H1
          obtain rfl := Option.some.inj H
          go_wp2
          go_ret
          exact ⟨rq, bz⟩
         ·replace c42 := Bool.eq_false_iff.mpr c42
          subst c42
          have H1 : (spec_NodeOk.l0 kj31 0 a0_0 a0_1 a0_2 a0_3 a0_4 a0_5 a0_6) = some r := by rw [if_neg (show ¬ (false = true) by decide)] at H; exact H
          clear H
          have H := H1
          clear H1
          have H' := Aside0.mk H
          clear H
          go_wp2
          go_loopg [3] kj31 (fun kq v3 w' => ∃ (x3_3 : Int), v3 = .int .i64 x3_3 ∧ Aside0 (spec_NodeOk.l0 kq x3_3 a0_0 a0_1 a0_2 a0_3 a0_4 a0_5 a0_6 = some r) ∧ Aside0 (kq ≤ kj31) ∧ Aside0 (w'.heap[gb120]? = some (.cells #[.string a0_0, .int .i64 a0_1, .int .i64 a0_2, .int .i64 a0_3, .string a0_4, .string a0_5, .int .i64 a0_6] 65 (0, 0))) ∧ Aside0 (Below w.heap.size w w'))
          case atStart => exact ⟨(0), sd, H', ⟨Nat.le_refl _⟩, ⟨(bo BK120)⟩, ⟨bz⟩⟩
          case round =>
           clear H'
           try clear c1
           try clear c2
           try clear p2
           try clear c3
           try clear c4
           try clear c5
           try clear c7
           try clear c10
           try clear c16
           try clear c17
           try clear c18
           try clear c18b0
           try clear c18b1
           try clear c19
           try clear c19b0
           try clear c19b1
           try clear c20
           try clear c20b0
           try clear c20b1
           try clear c24
           try clear c24b0
           try clear c24b1
           try clear c25
           try clear c25b0
           try clear c25b1
           try clear c26
           try clear c26b0
           try clear c26b1
           try clear c31
           try clear c31b0
           try clear c31b1
           try clear c34
           try clear c34b0
           try clear c34b1
           try clear c35
           try clear c35b0
           try clear c35b1
           try clear c36
           try clear c36b0
           try clear c36b1
           try clear c42
           try clear hcz11_0 hcz11_1 hcz11_2 hcz11_3 hcz11_4 hcz11_5 hcz11_6 hfz11_0 hfz11_1 hfz11_2 hfz11_3 hfz11_4 hfz11_5 hfz11_6
           try clear hcz12_0 hcz12_1 hcz12_2 hcz12_3 hcz12_4 hcz12_5 hcz12_6 hfz12_0 hfz12_1 hfz12_2 hfz12_3 hfz12_4 hfz12_5 hfz12_6
           try clear hcz14_0 hcz14_1 hcz14_2 hcz14_3 hcz14_4 hcz14_5 hcz14_6 hfz14_0 hfz14_1 hfz14_2 hfz14_3 hfz14_4 hfz14_5 hfz14_6
           try clear hcz15_0 hcz15_1 hcz15_2 hcz15_3 hcz15_4 hcz15_5 hcz15_6 hfz15_0 hfz15_1 hfz15_2 hfz15_3 hfz15_4 hfz15_5 hfz15_6
           try clear hcz21_0 hcz21_1 hcz21_2 hcz21_3 hcz21_4 hcz21_5 hcz21_6 hfz21_0 hfz21_1 hfz21_2 hfz21_3 hfz21_4 hfz21_5 hfz21_6
           try clear hcz22_0 hcz22_1 hcz22_2 hcz22_3 hcz22_4 hcz22_5 hcz22_6 hfz22_0 hfz22_1 hfz22_2 hfz22_3 hfz22_4 hfz22_5 hfz22_6
           try clear hcz23_0 hcz23_1 hcz23_2 hcz23_3 hcz23_4 hcz23_5 hcz23_6 hfz23_0 hfz23_1 hfz23_2 hfz23_3 hfz23_4 hfz23_5 hfz23_6
           try clear hcz28_0 hcz28_1 hcz28_2 hcz28_3 hcz28_4 hcz28_5 hcz28_6 hfz28_0 hfz28_1 hfz28_2 hfz28_3 hfz28_4 hfz28_5 hfz28_6
           try clear hcz29_0 hcz29_1 hcz29_2 hcz29_3 hcz29_4 hcz29_5 hcz29_6 hfz29_0 hfz29_1 hfz29_2 hfz29_3 hfz29_4 hfz29_5 hfz29_6
           try clear hcz30_0 hcz30_1 hcz30_2 hcz30_3 hcz30_4 hcz30_5 hcz30_6 hfz30_0 hfz30_1 hfz30_2 hfz30_3 hfz30_4 hfz30_5 hfz30_6
           try clear hcz33_0 hcz33_1 hcz33_2 hcz33_3 hcz33_4 hcz33_5 hcz33_6 hfz33_0 hfz33_1 hfz33_2 hfz33_3 hfz33_4 hfz33_5 hfz33_6
           try clear hcz38_0 hcz38_1 hcz38_2 hcz38_3 hcz38_4 hcz38_5 hcz38_6 hfz38_0 hfz38_1 hfz38_2 hfz38_3 hfz38_4 hfz38_5 hfz38_6
           try clear hcz39_0 hcz39_1 hcz39_2 hcz39_3 hcz39_4 hcz39_5 hcz39_6 hfz39_0 hfz39_1 hfz39_2 hfz39_3 hfz39_4 hfz39_5 hfz39_6
           try clear hcz40_0 hcz40_1 hcz40_2 hcz40_3 hcz40_4 hcz40_5 hcz40_6 hfz40_0 hfz40_1 hfz40_2 hfz40_3 hfz40_4 hfz40_5 hfz40_6
           try clear hcz41_0 hcz41_1 hcz41_2 hcz41_3 hcz41_4 hcz41_5 hcz41_6 hfz41_0 hfz41_1 hfz41_2 hfz41_3 hfz41_4 hfz41_5 hfz41_6
           try clear hcz9_0 hcz9_1 hcz9_2 hcz9_3 hcz9_4 hcz9_5 hcz9_6 hfz9_0 hfz9_1 hfz9_2 hfz9_3 hfz9_4 hfz9_5 hfz9_6
           try clear p2
           obtain ⟨x3_3, rfl, HA, HK3, BK120, HB⟩ := hrel
           cases gk with
           | zero => exact absurd HA.out (by simp [spec_NodeOk.l0])
           | succ k3 =>
            have H := HA.out
            clear HA
            simp only [spec_NodeOk.l0] at H
            by_cases c43 : x3_3 < (a0_5.size : Int)
            ·rw [if_pos c43] at H
             have c43b0 : decide (x3_3 < (a0_5.size : Int)) = true := decide_eq_true c43
             clear c43
             by_cases c44 : 0 ≤ x3_3
             ·rw [if_pos c44] at H
              have c44b0 : decide (0 ≤ x3_3) = true := decide_eq_true c44
              clear c44
              by_cases c46 : (bt a0_5 x3_3) = 10
              ·rw [if_pos c46] at H
               have c46b0 : ((bt a0_5 x3_3) == 10) = true := beq_iff_eq.mpr c46
               have c46b1 : ((bt a0_5 x3_3) != 10) = false := bne_eq_false_iff_eq.mpr c46
               clear c46
               obtain rfl := Option.some.inj H
               obtain ⟨hcz47_0, hcz47_1, hcz47_2, hcz47_3, hcz47_4, hcz47_5, hcz47_6, hfz47_0, hfz47_1, hfz47_2, hfz47_3, hfz47_4, hfz47_5, hfz47_6⟩ := bc7 BK120.out
               have p45 : 0 ≤ (x3_3 : Int) := of_decide_eq_true am
               have q45 : x3_3 < (a0_5.size : Int) := of_decide_eq_true am
               have hx45 := bt_at a0_5 x3_3
               replace p45 := eq_true p45
               replace q45 := eq_true q45
               go_wp2
               go_ret
               exact ⟨rq, bz⟩
              ·rw [if_neg c46] at H
               have c46b0 : ((bt a0_5 x3_3) == 10) = false := beq_eq_false_iff_ne.mpr c46
               have c46b1 : ((bt a0_5 x3_3) != 10) = true := bne_iff_ne.mpr c46
               have H' := Aside0.mk H
               clear H
               obtain ⟨hcz48_0, hcz48_1, hcz48_2, hcz48_3, hcz48_4, hcz48_5, hcz48_6, hfz48_0, hfz48_1, hfz48_2, hfz48_3, hfz48_4, hfz48_5, hfz48_6⟩ := bc7 BK120.out
               have p45 : 0 ≤ (x3_3 : Int) := of_decide_eq_true am
               have q45 : x3_3 < (a0_5.size : Int) := of_decide_eq_true am
               have hx45 := bt_at a0_5 x3_3
               replace p45 := eq_true p45
               replace q45 := eq_true q45
               go_wp2
               go_roundg k3
               case measure => have := HJ1.out; have := HJ31.out; have := HK3.out; omega
               case rel => exact ⟨(wrap64 (x3_3 + 1)), sd, H', ⟨by have := HJ1.out; have := HJ31.out; have := HK3.out; omega⟩, ⟨(bo BK120)⟩, ⟨bz⟩⟩
             ·rw [if_neg c44] at H
              exact absurd H (by simp)
            ·rw [if_neg c43] at H
             have c43b0 : decide (x3_3 < (a0_5.size : Int)) = false := decide_eq_false c43
             clear c43
             obtain rfl := Option.some.inj H
             obtain ⟨hcz49_0, hcz49_1, hcz49_2, hcz49_3, hcz49_4, hcz49_5, hcz49_6, hfz49_0, hfz49_1, hfz49_2, hfz49_3, hfz49_4, hfz49_5, hfz49_6⟩ := bc7 BK120.out
             go_wp2
             go_ret
             exact ⟨rq, bz⟩
      ·rw [if_neg c31] at H
       have c31b0 : (a0_1 == 2) = false := beq_eq_false_iff_ne.mpr c31
       have c31b1 : (a0_1 != 2) = true := bne_iff_ne.mpr c31
       obtain rfl := Option.some.inj H
       obtain ⟨hcz50_0, hcz50_1, hcz50_2, hcz50_3, hcz50_4, hcz50_5, hcz50_6, hfz50_0, hfz50_1, hfz50_2, hfz50_3, hfz50_4, hfz50_5, hfz50_6⟩ := bc7 BK120.out
       go_wp2
       go_ret
       exact ⟨rq, bz⟩

end Go.Proofs.YtjiaigjmihmdjaaDoor.PFnExactShowNode
