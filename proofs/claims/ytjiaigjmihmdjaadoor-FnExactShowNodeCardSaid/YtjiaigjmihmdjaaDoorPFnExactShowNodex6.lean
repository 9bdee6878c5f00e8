
/- The machine's side, written by a program of this session (a turned print): each function as a plain Lean function, and that the call comes to it. -/
import Derived.Test.YtjiaigjmihmdjaaDoorPFnExactShowNodex0
import Derived.Test.YtjiaigjmihmdjaaDoorPFnExactShowNodex4
import Derived.Test.YtjiaigjmihmdjaaDoorPFnExactShowNodex5
namespace Go.Proofs.YtjiaigjmihmdjaaDoor.PFnExactShowNode
open Go.RowKit Go.Proofs.YtjiaigjmihmdjaaDoorW.PrintWords Go.Proofs.YtjiaigjmihmdjaaDoorW.PrintLast Go.Proofs.YtjiaigjmihmdjaaDoorW.PrintMore
attribute [local go_sem] max2_int min2_int max_two min_two max_three min_three max_four min_four   -- for this text's walks alone
set_option linter.unusedVariables false
set_option linter.unusedSimpArgs false

/-! ### impl_Names: function 201 -/
def impl_Names.l0 : Nat → List ByteArray → List ByteArray → Int → Int → Option (List ByteArray)
 | 0, _, _, _, _ => none
 | k + 1, x3, x14, x15, x16 => if x16 < x15 then (if 0 ≤ x16 then (if x16 < (x14.length : Int) then ((impl_NameOk.f k (rdOf ByteArray.empty x14 x16)).bind fun t159 => (if t159 = true then (impl_Names.l0 k x3 x14 x15 (wrap64 (x16 + 1))) else (some ([] : List ByteArray)))) else (none)) else (none)) else (some x3)
def impl_Names.f (k : Nat) (a0 : ByteArray) : Option (List ByteArray) := if (a0.size : Int) > 168 then (some ([] : List ByteArray)) else ((strings_Split.f a0 (⟨#[47]⟩ : ByteArray)).bind fun t155 => (if (t155.length : Int) > 8 then (some ([] : List ByteArray)) else (impl_Names.l0 k t155 t155 (t155.length : Int) 0)))
theorem impl_Names.mono_l : ∀ k, (∀ y0 y1 y2 y3, LeO (impl_Names.l0 k y0 y1 y2 y3) (impl_Names.l0 (k + 1) y0 y1 y2 y3))
 | 0 => fun _ _ _ _ r h => by simp [impl_Names.l0] at h
 | k + 1 => by
  have ih0 := impl_Names.mono_l k
  ·intro y0 y1 y2 y3
   unfold impl_Names.l0
   repeat' first | (with_reducible first | exact ih0 _ _ _ _ | exact impl_NameOk.mono _ _ | exact LeO.refl _ | exact LeO.none _ | refine LeO.ite ?_ ?_ | refine LeO.bind ?_ (fun _ => ?_)) | exact ih0 _ _ _ _ | exact impl_NameOk.mono _ _ | exact LeO.none _ | refine LeO.ite ?_ ?_ | refine LeO.bind ?_ (fun _ => ?_)
theorem impl_Names.mono : ∀ a0 k, LeO (impl_Names.f k a0) (impl_Names.f (k + 1) a0) := by
 intro a0 k
 have ih0 := impl_Names.mono_l k
 unfold impl_Names.f
 repeat' first | (with_reducible first | exact ih0 _ _ _ _ | exact impl_NameOk.mono _ _ | exact LeO.refl _ | exact LeO.none _ | refine LeO.ite ?_ ?_ | refine LeO.bind ?_ (fun _ => ?_)) | exact ih0 _ _ _ _ | exact impl_NameOk.mono _ _ | exact LeO.none _ | refine LeO.ite ?_ ?_ | refine LeO.bind ?_ (fun _ => ?_)
set_option maxHeartbeats 8000000 in
set_option maxRecDepth 100000 in
theorem impl_Names.calls (k : Nat) (a0 : ByteArray) (r : List ByteArray) (w : World) (h : impl_Names.f k a0 = some r) (hT : Go.Proofs.YtjiaigjmihmdjaaDoor.Sum.Tabs w := by exact Go.Proofs.YtjiaigjmihmdjaaDoor.Sum.Tabs.at HT.out (by repeat (first | (with_reducible first | exact HB.out | apply below_alloc | apply pw_below_drewN | apply below_drew1 | refine below_set ?_ (Aside0.out (by assumption))) | exact HB.out))) :
  Calls Tryd.prog 201 #[.string a0] w fun e w' => ∃ v0_ : Value, e = .returned (v0_) ∧ Kd.R Kd.string 9 w' w.heap.size (fun _ => True) v0_ r ∧ Below w.heap.size w w' := by
 have HT := Aside0.mk hT
 clear hT
 have HB := Aside0.mk (Below.refl w.heap.size w)
 have H : (if (a0.size : Int) > 168 then (some ([] : List ByteArray)) else ((strings_Split.f a0 (⟨#[47]⟩ : ByteArray)).bind fun t155 => (if (t155.length : Int) > 8 then (some ([] : List ByteArray)) else (impl_Names.l0 k t155 t155 (t155.length : Int) 0)))) = some r := h
 clear h
 by_cases c2 : (a0.size : Int) > 168
 ·rw [if_pos c2] at H
  have c2b0 : decide (168 < (a0.size : Int)) = true := decide_eq_true c2
  have c2b1 : decide (168 < a0.size) = true := decide_eq_true (by omega)
  clear c2
  obtain rfl := Option.some.inj H
  go_enter Tryd.func201, Tryd.ntmps201
  go_wp2
  go_ret
  exact ⟨_, rq, nz, bz⟩
 ·rw [if_neg c2] at H
  have c2b0 : decide (168 < (a0.size : Int)) = false := decide_eq_false c2
  have c2b1 : decide (168 < a0.size) = false := decide_eq_false (by omega)
  clear c2
  replace H := Option.bind_eq_some_iff.mp H
  obtain ⟨t155, A30, H⟩ := H
  try dsimp -simprocs only at H
  have A3 := Aside0.mk A30
  clear A30
  have HC4 := Aside0.mk H
  clear H
  go_enter Tryd.func201, Tryd.ntmps201
  go_upto_if 13 with (first | ((with_reducible refine gate_callee (f := 211) rfl ?_); refine goesL_ (some 10) rfl rfl Tryd.func211 (by kernel_rfl) rfl #[.string a0, .string (⟨#[47]⟩ : ByteArray)] rfl mt ?_; (with_reducible refine (strings_Split.calls a0 (⟨#[47]⟩ : ByteArray) t155 _ A3.out).mono ?_); rintro e w5 ⟨v156, rfl, ho0, hb⟩; refine ⟨_, rfl, ?_⟩; have n0_ := Aside0.mk (Kd.R_lower ho0 (below_size bz)); have n1_ := Aside0.mk (below_step bz hb); clear HB; have HO157 := n0_; have HB := n1_; clear n0_ n1_; (try clear hb); (try clear hb2); (try clear hk); (try clear hi); (try clear ho0); obtain ⟨Ao6, co6, eo6⟩ := Kd.R_slice HO157.out; subst eo6))
  (try simp only [Act.put, List.setIfInBounds_toArray, List.set_cons_zero, List.set_cons_succ])
  have H := HC4.out
  clear HC4
  by_cases c7 : (t155.length : Int) > 8
  ·rw [if_pos c7] at H
   have c7b0 : decide (8 < (t155.length : Int)) = true := decide_eq_true c7
   have c7b1 : decide (8 < t155.length) = true := decide_eq_true (by omega)
   clear c7
   (first | rw [c7b0] | (simp only [i64_w, i32_w]; rw [c7b0]) | skip)
   obtain rfl := Option.some.inj H
   go_wp2
   go_ret
   exact ⟨_, rq, nz, bz⟩
  ·rw [if_neg c7] at H
   have c7b0 : decide (8 < (t155.length : Int)) = false := decide_eq_false c7
   have c7b1 : decide (8 < t155.length) = false := decide_eq_false (by omega)
   clear c7
   (first | rw [c7b0] | (simp only [i64_w, i32_w]; rw [c7b0]) | skip)
   have H' := Aside0.mk H
   clear H
   go_wp2
   go_loopg [16] k (fun kq v16 w' => ∃ (x16_1 : Int), v16 = .int .i64 x16_1 ∧ Aside0 (impl_Names.l0 kq t155 t155 (t155.length : Int) x16_1 = some r) ∧ Aside0 (kq ≤ k) ∧ Aside0 (Kd.R Kd.string 9 w' w.heap.size (fun _ => True) (.slice Ao6 t155.length co6) t155) ∧ Aside0 (Kd.R Kd.string 9 w' w.heap.size (fun _ => True) (.slice Ao6 t155.length co6) t155) ∧ Aside0 (Below w.heap.size w w'))
   case atStart => exact ⟨(0), sd, H', ⟨Nat.le_refl _⟩, ⟨by refine rs ?_; exact HO157.out⟩, ⟨by refine rs ?_; exact HO157.out⟩, ⟨bz⟩⟩
   case round =>
    clear H'
    try clear c2
    try clear c2b0
    try clear c2b1
    try clear p2
    try clear c7
    try clear c7b0
    try clear c7b1
    obtain ⟨x16_1, rfl, HA, HK1, HO_3, HO_14, HB⟩ := hrel
    cases gk with
    | zero => exact absurd HA.out (by simp [impl_Names.l0])
    | succ k1 =>
     have H := HA.out
     clear HA
     simp only [impl_Names.l0] at H
     by_cases c8 : x16_1 < (t155.length : Int)
     ·rw [if_pos c8] at H
      have c8b0 : decide (x16_1 < (t155.length : Int)) = true := decide_eq_true c8
      clear c8
      by_cases c9 : 0 ≤ x16_1
      ·rw [if_pos c9] at H
       have c9b0 : decide (0 ≤ x16_1) = true := decide_eq_true c9
       clear c9
       by_cases c10 : x16_1 < (t155.length : Int)
       ·rw [if_pos c10] at H
        have c10b0 : decide (x16_1 < (t155.length : Int)) = true := decide_eq_true c10
        clear c10
        replace H := Option.bind_eq_some_iff.mp H
        obtain ⟨t159, A110, H⟩ := H
        try dsimp -simprocs only at H
        have A11 := Aside0.mk A110
        clear A110
        have HC12 := Aside0.mk H
        clear H
        have p158 : 0 ≤ (x16_1 : Int) := of_decide_eq_true am
        have q158 : x16_1 < (t155.length : Int) := of_decide_eq_true am
        obtain ⟨ad158, e158, hx158_0⟩ := Kd.at_string (Kd.R_reads' HO_14.out).2.2 x16_1 p158 q158
        cases e158
        replace p158 := eq_true p158
        replace q158 := eq_true q158
        go_upto_if 22 with (first | ((with_reducible refine gate_callee (f := 212) rfl ?_); refine goesL_ (some 21) rfl rfl Tryd.func212 (by kernel_rfl) rfl #[.string (rdOf ByteArray.empty t155 x16_1)] rfl mt ?_; (with_reducible refine (impl_NameOk.calls k1 (rdOf ByteArray.empty t155 x16_1) t159 _ A11.out).mono ?_); rintro e w' ⟨rfl, ⟨nd, rfl⟩⟩; refine ⟨_, rfl, ?_⟩))
        (try simp only [Act.put, List.setIfInBounds_toArray, List.set_cons_zero, List.set_cons_succ])
        have H := HC12.out
        clear HC12
        by_cases c13 : t159 = true
        ·subst c13
         have H1 : (impl_Names.l0 k1 t155 t155 (t155.length : Int) (wrap64 (x16_1 + 1))) = some r := by rw [if_pos rfl] at H; exact H
         clear H
         have H := H1
         clear H1
         have H' := Aside0.mk H
         clear H
         go_wp2
         go_roundg k1
         case measure => have := HK1.out; omega
         case rel => exact ⟨(wrap64 (x16_1 + 1)), sd, H', ⟨by have := HK1.out; omega⟩, ⟨by refine rs ?_; exact HO_3.out⟩, ⟨by refine rs ?_; exact HO_14.out⟩, ⟨bz⟩⟩
        ·replace c13 := Bool.eq_false_iff.mpr c13
         subst c13
         have H1 : (some ([] : List ByteArray)) = some r := by rw [if_neg (show ¬ (false = true) by decide)] at H; exact H
         clear H
         have H := H1
         clear H1
         obtain rfl := Option.some.inj H
         go_wp2
         go_ret
         exact ⟨_, rq, nz, bz⟩
       ·rw [if_neg c10] at H
        exact absurd H (by simp)
      ·rw [if_neg c9] at H
       exact absurd H (by simp)
     ·rw [if_neg c8] at H
      have c8b0 : decide (x16_1 < (t155.length : Int)) = false := decide_eq_false c8
      clear c8
      obtain rfl := Option.some.inj H
      go_wp2
      go_ret
      exact ⟨_, rq, by refine rs ?_; exact HO_3.out, bz⟩

/-! ### impl_PathOk: function 165 -/
def impl_PathOk.f (k : Nat) (a0 : ByteArray) : Option (Bool) := (impl_Names.f k a0).bind fun t160 => (some (decide ((t160.length : Int) > 0)))
theorem impl_PathOk.mono : ∀ a0 k, LeO (impl_PathOk.f k a0) (impl_PathOk.f (k + 1) a0) := by
 intro a0 k
 unfold impl_PathOk.f
 repeat' first | (with_reducible first | exact impl_Names.mono _ _ | exact LeO.refl _ | exact LeO.none _ | refine LeO.ite ?_ ?_ | refine LeO.bind ?_ (fun _ => ?_)) | exact impl_Names.mono _ _ | exact LeO.none _ | refine LeO.ite ?_ ?_ | refine LeO.bind ?_ (fun _ => ?_)
set_option maxHeartbeats 8000000 in
set_option maxRecDepth 100000 in
theorem impl_PathOk.calls (k : Nat) (a0 : ByteArray) (r : Bool) (w : World) (h : impl_PathOk.f k a0 = some r) (hT : Go.Proofs.YtjiaigjmihmdjaaDoor.Sum.Tabs w := by exact Go.Proofs.YtjiaigjmihmdjaaDoor.Sum.Tabs.at HT.out (by repeat (first | (with_reducible first | exact HB.out | apply below_alloc | apply pw_below_drewN | apply below_drew1 | refine below_set ?_ (Aside0.out (by assumption))) | exact HB.out))) :
  Calls Tryd.prog 165 #[.string a0] w fun e w' => e = .returned (.bool r) ∧ Below w.heap.size w w' := by
 have HT := Aside0.mk hT
 clear hT
 have HB := Aside0.mk (Below.refl w.heap.size w)
 have H : ((impl_Names.f k a0).bind fun t160 => (some (decide ((t160.length : Int) > 0)))) = some r := h
 clear h
 replace H := Option.bind_eq_some_iff.mp H
 obtain ⟨t160, A20, H⟩ := H
 try dsimp -simprocs only at H
 have A2 := Aside0.mk A20
 clear A20
 obtain rfl := Option.some.inj H
 go_enter Tryd.func165, Tryd.ntmps165
 go_wp2_with (first | ((with_reducible refine gate_callee (f := 201) rfl ?_); refine goesL_ (some 4) rfl rfl Tryd.func201 (by kernel_rfl) rfl #[.string a0] rfl mt ?_; (with_reducible refine (impl_Names.calls k a0 t160 _ A2.out).mono ?_); rintro e w3 ⟨v161, rfl, ho0, hb⟩; refine ⟨_, rfl, ?_⟩; have n0_ := Aside0.mk (Kd.R_lower ho0 (below_size bz)); have n1_ := Aside0.mk (below_step bz hb); clear HB; have HO162 := n0_; have HB := n1_; clear n0_ n1_; (try clear hb); (try clear hb2); (try clear hk); (try clear hi); (try clear ho0); obtain ⟨Ao4, co4, eo4⟩ := Kd.R_slice HO162.out; subst eo4))
 go_ret
 exact ⟨rq, bz⟩

/-! ### strings_Contains: function 166 (by hand) -/
def strings_Contains.f (a0 a1 : ByteArray) : Option Bool := if a1.size = 1 then some (decide (0 ≤ Lib.indexByte a0.data.toList (a1.data.toList.headD 0))) else none
theorem strings_Contains.calls (a0 a1 : ByteArray) (r : Bool) (w : World) (h : strings_Contains.f a0 a1 = some r) :
    Calls Tryd.prog 166 #[.string a0, .string a1] w fun e w' => e = .returned (.bool r) ∧ Drawn0 w w' := by
  unfold strings_Contains.f at h
  by_cases hs : a1.size = 1
  · rw [if_pos hs] at h
    obtain rfl := Option.some.inj h
    obtain ⟨c, rfl⟩ := Lib.one_byte a1 hs
    exact (Tryd.strings_Contains_one a0 c w).mono fun e w' ⟨he, hw⟩ => ⟨he, hw ▸ Drawn0.refl _⟩
  · rw [if_neg hs] at h
    cases h

/-! ### impl_NodeOk: function 106 -/
def impl_NodeOk.j0 : Nat → Bool → ByteArray → Int → Int → Int → ByteArray → ByteArray → Int → Option (Bool)
 | 0, _, _, _, _, _, _, _, _ => none
 | k + 1, x18, x164000, x164001, x164002, x164003, x164004, x164005, x164006 => if x18 = true then (some false) else (if x164001 = 0 then (if x164004.toList = ([] : List UInt8) then (if x164005.toList = ([] : List UInt8) then (some (x164006 == 0)) else (some false)) else (some false)) else (if x164001 = 1 then (if (x164004.size : Int) ≤ 20000 then (if x164005.toList = ([] : List UInt8) then ((impl_within.f x164006 0 200).bind fun t167 => (some t167)) else (some false)) else (some false)) else (if x164001 = 2 then (if x164004.toList = ([] : List UInt8) then (if x164002 = 0 then (if x164006 = 0 then ((impl_within.f (x164005.size : Int) 1 60).bind fun t168 => (if t168 = true then ((strings_Contains.f x164005 (⟨#[10]⟩ : ByteArray)).bind fun t169 => (some (!t169))) else (some false))) else (some false)) else (some false)) else (some false)) else (some false))))
def impl_NodeOk.f (k : Nat) (a0_0 : ByteArray) (a0_1 : Int) (a0_2 : Int) (a0_3 : Int) (a0_4 : ByteArray) (a0_5 : ByteArray) (a0_6 : Int) : Option (Bool) := (impl_PathOk.f k a0_0).bind fun t164 => (if t164 = true then ((impl_within.f a0_2 0 511).bind fun t165 => (if t165 = true then ((impl_within.f a0_3 0 1000000000).bind fun t166 => (impl_NodeOk.j0 k (!t166) a0_0 a0_1 a0_2 a0_3 a0_4 a0_5 a0_6)) else (impl_NodeOk.j0 k true a0_0 a0_1 a0_2 a0_3 a0_4 a0_5 a0_6))) else (impl_NodeOk.j0 k true a0_0 a0_1 a0_2 a0_3 a0_4 a0_5 a0_6))
theorem impl_NodeOk.mono_l : ∀ k, (∀ y0 y1 y2 y3 y4 y5 y6 y7, LeO (impl_NodeOk.j0 k y0 y1 y2 y3 y4 y5 y6 y7) (impl_NodeOk.j0 (k + 1) y0 y1 y2 y3 y4 y5 y6 y7))
 | 0 => fun _ _ _ _ _ _ _ _ r h => by simp [impl_NodeOk.j0] at h
 | k + 1 => by
  have ih0 := impl_NodeOk.mono_l k
  ·intro y0 y1 y2 y3 y4 y5 y6 y7
   unfold impl_NodeOk.j0
   repeat' first | (with_reducible first | exact ih0 _ _ _ _ _ _ _ _ | exact impl_PathOk.mono _ _ | exact LeO.refl _ | exact LeO.none _ | refine LeO.ite ?_ ?_ | refine LeO.bind ?_ (fun _ => ?_)) | exact ih0 _ _ _ _ _ _ _ _ | exact impl_PathOk.mono _ _ | exact LeO.none _ | refine LeO.ite ?_ ?_ | refine LeO.bind ?_ (fun _ => ?_)
theorem impl_NodeOk.mono : ∀ a0 a1 a2 a3 a4 a5 a6 k, LeO (impl_NodeOk.f k a0 a1 a2 a3 a4 a5 a6) (impl_NodeOk.f (k + 1) a0 a1 a2 a3 a4 a5 a6) := by
 intro a0 a1 a2 a3 a4 a5 a6 k
 have ih0 := impl_NodeOk.mono_l k
 unfold impl_NodeOk.f
 repeat' first | (with_reducible first | exact ih0 _ _ _ _ _ _ _ _ | exact impl_PathOk.mono _ _ | exact LeO.refl _ | exact LeO.none _ | refine LeO.ite ?_ ?_ | refine LeO.bind ?_ (fun _ => ?_)) | exact ih0 _ _ _ _ _ _ _ _ | exact impl_PathOk.mono _ _ | exact LeO.none _ | refine LeO.ite ?_ ?_ | refine LeO.bind ?_ (fun _ => ?_)
set_option maxHeartbeats 8000000 in
set_option maxRecDepth 100000 in
theorem impl_NodeOk.calls (k : Nat) (a0_0 : ByteArray) (a0_1 : Int) (a0_2 : Int) (a0_3 : Int) (a0_4 : ByteArray) (a0_5 : ByteArray) (a0_6 : Int) (r : Bool) (w : World) (h : impl_NodeOk.f k a0_0 a0_1 a0_2 a0_3 a0_4 a0_5 a0_6 = some r) (hT : Go.Proofs.YtjiaigjmihmdjaaDoor.Sum.Tabs w := by exact Go.Proofs.YtjiaigjmihmdjaaDoor.Sum.Tabs.at HT.out (by repeat (first | (with_reducible first | exact HB.out | apply below_alloc | apply pw_below_drewN | apply below_drew1 | refine below_set ?_ (Aside0.out (by assumption))) | exact HB.out))) :
  Calls Tryd.prog 106 #[.agg #[.string a0_0, .int .i64 a0_1, .int .i64 a0_2, .int .i64 a0_3, .string a0_4, .string a0_5, .int .i64 a0_6]] w fun e w' => e = .returned (.bool r) ∧ Below w.heap.size w w' := by
 have HT := Aside0.mk hT
 clear hT
 have hu65 := Tryd.underlying65
 have HB := Aside0.mk (Below.refl w.heap.size w)
 have H : ((impl_PathOk.f k a0_0).bind fun t164 => (if t164 = true then ((impl_within.f a0_2 0 511).bind fun t165 => (if t165 = true then ((impl_within.f a0_3 0 1000000000).bind fun t166 => (impl_NodeOk.j0 k (!t166) a0_0 a0_1 a0_2 a0_3 a0_4 a0_5 a0_6)) else (impl_NodeOk.j0 k true a0_0 a0_1 a0_2 a0_3 a0_4 a0_5 a0_6))) else (impl_NodeOk.j0 k true a0_0 a0_1 a0_2 a0_3 a0_4 a0_5 a0_6))) = some r := h
 clear h
 have HC2 := Aside0.mk H
 clear H
 go_enter Tryd.func106, Tryd.ntmps106
 go_upto_region 1 with (first | ((with_reducible refine gate_dst (N := 1) rfl ?_); (try (refine gate_guard (by rfl) ?_; dsimp only)); refine box_event ?hg (N := 1) ?hd (cs := #[.string a0_0, .int .i64 a0_1, .int .i64 a0_2, .int .i64 a0_3, .string a0_4, .string a0_5, .int .i64 a0_6]) (t := 65) ?hr ?_; (case hd => rfl); (case hg => rfl); (case hr => first | (go_simp; done) | (go_simp; rfl)); intro gb163 hg w3 hbox hb; have n0_ := Aside0.mk (below_step bz hb); have n1_ := Aside0.mk (hbox); have n2_ := Aside0.mk (bg : w.heap.size ≤ gb163); have n3_ := Aside0.mk (bg : w.heap.size ≤ gb163); clear HB; have HB := n0_; have BK163 := n1_; have GW163 := n2_; have GE163 := n3_; clear n0_ n1_ n2_ n3_; clear hb hbox hg))
 (try simp only [Act.put, List.setIfInBounds_toArray, List.set_cons_zero, List.set_cons_succ])
 go_cut [18] (fun v18 wc => ∃ (kq : Nat) (x18_1 : Bool), v18 = .bool x18_1 ∧ Aside0 (impl_NodeOk.j0 kq x18_1 a0_0 a0_1 a0_2 a0_3 a0_4 a0_5 a0_6 = some r) ∧ Aside0 (kq ≤ k) ∧ Aside0 (wc.heap[gb163]? = some (.cells #[.string a0_0, .int .i64 a0_1, .int .i64 a0_2, .int .i64 a0_3, .string a0_4, .string a0_5, .int .i64 a0_6] 65 (0, 0))) ∧ Aside0 (Below w.heap.size w wc))
 case first =>
  have H := HC2.out
  clear HC2
  replace H := Option.bind_eq_some_iff.mp H
  obtain ⟨t164, A40, H⟩ := H
  try dsimp -simprocs only at H
  have A4 := Aside0.mk A40
  clear A40
  by_cases c5 : t164 = true
  ·subst c5
   have H1 : ((impl_within.f a0_2 0 511).bind fun t165 => (if t165 = true then ((impl_within.f a0_3 0 1000000000).bind fun t166 => (impl_NodeOk.j0 k (!t166) a0_0 a0_1 a0_2 a0_3 a0_4 a0_5 a0_6)) else (impl_NodeOk.j0 k true a0_0 a0_1 a0_2 a0_3 a0_4 a0_5 a0_6))) = some r := by rw [if_pos rfl] at H; exact H
   clear H
   have H := H1
   clear H1
   replace H := Option.bind_eq_some_iff.mp H
   obtain ⟨t165, A60, H⟩ := H
   try dsimp -simprocs only at H
   have A6 := Aside0.mk A60
   clear A60
   by_cases c7 : t165 = true
   ·subst c7
    have H1 : ((impl_within.f a0_3 0 1000000000).bind fun t166 => (impl_NodeOk.j0 k (!t166) a0_0 a0_1 a0_2 a0_3 a0_4 a0_5 a0_6)) = some r := by rw [if_pos rfl] at H; exact H
    clear H
    have H := H1
    clear H1
    replace H := Option.bind_eq_some_iff.mp H
    obtain ⟨t166, A80, H⟩ := H
    try dsimp -simprocs only at H
    have A8 := Aside0.mk A80
    clear A80
    have H' := Aside0.mk H
    clear H
    obtain ⟨hcz9_0, hcz9_1, hcz9_2, hcz9_3, hcz9_4, hcz9_5, hcz9_6, hfz9_0, hfz9_1, hfz9_2, hfz9_3, hfz9_4, hfz9_5, hfz9_6⟩ := bc7 BK163.out
    go_wp2_with (first | ((with_reducible refine gate_callee (f := 165) rfl ?_); refine goesL_ (some 5) rfl rfl Tryd.func165 (by kernel_rfl) rfl #[.string a0_0] rfl mt ?_; (with_reducible refine (impl_PathOk.calls k a0_0 true _ A4.out).mono ?_); rintro e w10 ⟨rfl, hb⟩; refine ⟨_, rfl, ?_⟩; have n0_ := Aside0.mk (blk_below (bo BK163) hb); have n1_ := Aside0.mk (below_step bz hb); clear BK163; clear HB; have BK163 := n0_; have HB := n1_; clear n0_ n1_; (try clear hb); (try clear hb2); (try clear hk); (try clear hi); obtain ⟨hcz11_0, hcz11_1, hcz11_2, hcz11_3, hcz11_4, hcz11_5, hcz11_6, hfz11_0, hfz11_1, hfz11_2, hfz11_3, hfz11_4, hfz11_5, hfz11_6⟩ := bc7 BK163.out) | (go_at_call 69; (with_reducible refine (impl_within.calls a0_2 0 511 true _ A6.out).mono ?_); rintro e w' ⟨rfl, ⟨nd, rfl⟩⟩) | (go_at_call 69; (with_reducible refine (impl_within.calls a0_3 0 1000000000 t166 _ A8.out).mono ?_); rintro e w' ⟨rfl, ⟨nd, rfl⟩⟩))
    go_meet
    case rel => exact ⟨_, (!t166), sd, H', ⟨ob⟩, ⟨(bo BK163)⟩, ⟨bz⟩⟩
   ·replace c7 := Bool.eq_false_iff.mpr c7
    subst c7
    have H1 : (impl_NodeOk.j0 k true a0_0 a0_1 a0_2 a0_3 a0_4 a0_5 a0_6) = some r := by rw [if_neg (show ¬ (false = true) by decide)] at H; exact H
    clear H
    have H := H1
    clear H1
    have H' := Aside0.mk H
    clear H
    obtain ⟨hcz12_0, hcz12_1, hcz12_2, hcz12_3, hcz12_4, hcz12_5, hcz12_6, hfz12_0, hfz12_1, hfz12_2, hfz12_3, hfz12_4, hfz12_5, hfz12_6⟩ := bc7 BK163.out
    go_wp2_with (first | ((with_reducible refine gate_callee (f := 165) rfl ?_); refine goesL_ (some 5) rfl rfl Tryd.func165 (by kernel_rfl) rfl #[.string a0_0] rfl mt ?_; (with_reducible refine (impl_PathOk.calls k a0_0 true _ A4.out).mono ?_); rintro e w13 ⟨rfl, hb⟩; refine ⟨_, rfl, ?_⟩; have n0_ := Aside0.mk (blk_below (bo BK163) hb); have n1_ := Aside0.mk (below_step bz hb); clear BK163; clear HB; have BK163 := n0_; have HB := n1_; clear n0_ n1_; (try clear hb); (try clear hb2); (try clear hk); (try clear hi); obtain ⟨hcz14_0, hcz14_1, hcz14_2, hcz14_3, hcz14_4, hcz14_5, hcz14_6, hfz14_0, hfz14_1, hfz14_2, hfz14_3, hfz14_4, hfz14_5, hfz14_6⟩ := bc7 BK163.out) | (go_at_call 69; (with_reducible refine (impl_within.calls a0_2 0 511 false _ A6.out).mono ?_); rintro e w' ⟨rfl, ⟨nd, rfl⟩⟩))
    go_meet
    case rel => exact ⟨_, (true), sd, H', ⟨ob⟩, ⟨(bo BK163)⟩, ⟨bz⟩⟩
  ·replace c5 := Bool.eq_false_iff.mpr c5
   subst c5
   have H1 : (impl_NodeOk.j0 k true a0_0 a0_1 a0_2 a0_3 a0_4 a0_5 a0_6) = some r := by rw [if_neg (show ¬ (false = true) by decide)] at H; exact H
   clear H
   have H := H1
   clear H1
   have H' := Aside0.mk H
   clear H
   obtain ⟨hcz15_0, hcz15_1, hcz15_2, hcz15_3, hcz15_4, hcz15_5, hcz15_6, hfz15_0, hfz15_1, hfz15_2, hfz15_3, hfz15_4, hfz15_5, hfz15_6⟩ := bc7 BK163.out
   go_wp2_with (first | ((with_reducible refine gate_callee (f := 165) rfl ?_); refine goesL_ (some 5) rfl rfl Tryd.func165 (by kernel_rfl) rfl #[.string a0_0] rfl mt ?_; (with_reducible refine (impl_PathOk.calls k a0_0 false _ A4.out).mono ?_); rintro e w16 ⟨rfl, hb⟩; refine ⟨_, rfl, ?_⟩; have n0_ := Aside0.mk (blk_below (bo BK163) hb); have n1_ := Aside0.mk (below_step bz hb); clear BK163; clear HB; have BK163 := n0_; have HB := n1_; clear n0_ n1_; (try clear hb); (try clear hb2); (try clear hk); (try clear hi)))
   go_meet
   case rel => exact ⟨_, (true), sd, H', ⟨ob⟩, ⟨(bo BK163)⟩, ⟨bz⟩⟩
 case rest =>
  clear HC2
  try clear c1
  try clear p2
  try clear c5
  try clear c7
  try clear c10
  try clear c16
  try clear hcz11_0 hcz11_1 hcz11_2 hcz11_3 hcz11_4 hcz11_5 hcz11_6 hfz11_0 hfz11_1 hfz11_2 hfz11_3 hfz11_4 hfz11_5 hfz11_6
  try clear hcz12_0 hcz12_1 hcz12_2 hcz12_3 hcz12_4 hcz12_5 hcz12_6 hfz12_0 hfz12_1 hfz12_2 hfz12_3 hfz12_4 hfz12_5 hfz12_6
  try clear hcz14_0 hcz14_1 hcz14_2 hcz14_3 hcz14_4 hcz14_5 hcz14_6 hfz14_0 hfz14_1 hfz14_2 hfz14_3 hfz14_4 hfz14_5 hfz14_6
  try clear hcz15_0 hcz15_1 hcz15_2 hcz15_3 hcz15_4 hcz15_5 hcz15_6 hfz15_0 hfz15_1 hfz15_2 hfz15_3 hfz15_4 hfz15_5 hfz15_6
  try clear hcz9_0 hcz9_1 hcz9_2 hcz9_3 hcz9_4 hcz9_5 hcz9_6 hfz9_0 hfz9_1 hfz9_2 hfz9_3 hfz9_4 hfz9_5 hfz9_6
  obtain ⟨kq, x18_1, rfl, HA, HJ1, BK163, HB⟩ := hcut
  cases kq with
  | zero => exact absurd HA.out (by simp [impl_NodeOk.j0])
  | succ kj1 =>
   have H := HA.out
   clear HA
   simp only [impl_NodeOk.j0] at H
   by_cases c17 : x18_1 = true
   ·subst c17
    have H1 : (some false) = some r := by rw [if_pos rfl] at H; exact H
    clear H
    have H := H1
    clear H1
    obtain rfl := Option.some.inj H
    go_wp2
    go_ret
    exact ⟨rq, bz⟩
   ·replace c17 := Bool.eq_false_iff.mpr c17
    subst c17
    have H1 : (if a0_1 = 0 then (if a0_4.toList = ([] : List UInt8) then (if a0_5.toList = ([] : List UInt8) then (some (a0_6 == 0)) else (some false)) else (some false)) else (if a0_1 = 1 then (if (a0_4.size : Int) ≤ 20000 then (if a0_5.toList = ([] : List UInt8) then ((impl_within.f a0_6 0 200).bind fun t167 => (some t167)) else (some false)) else (some false)) else (if a0_1 = 2 then (if a0_4.toList = ([] : List UInt8) then (if a0_2 = 0 then (if a0_6 = 0 then ((impl_within.f (a0_5.size : Int) 1 60).bind fun t168 => (if t168 = true then ((strings_Contains.f a0_5 (⟨#[10]⟩ : ByteArray)).bind fun t169 => (some (!t169))) else (some false))) else (some false)) else (some false)) else (some false)) else (some false)))) = some r := by rw [if_neg (show ¬ (false = true) by decide)] at H; exact H
    clear H
    have H := H1
    clear H1
    by_cases c18 : a0_1 = 0
    ·rw [if_pos c18] at H
     have c18b0 : (a0_1 == 0) = true := beq_iff_eq.mpr c18
     have c18b1 : (a0_1 != 0) = false := bne_eq_false_iff_eq.mpr c18
     clear c18
     by_cases c19 : a0_4.toList = ([] : List UInt8)
     ·rw [if_pos c19] at H
      have c19b0 : (a0_4.toList == ([] : List UInt8)) = true := beq_iff_eq.mpr c19
      have c19b1 : (a0_4.toList != ([] : List UInt8)) = false := bne_eq_false_iff_eq.mpr c19
      clear c19
      by_cases c20 : a0_5.toList = ([] : List UInt8)
      ·rw [if_pos c20] at H
       have c20b0 : (a0_5.toList == ([] : List UInt8)) = true := beq_iff_eq.mpr c20
       have c20b1 : (a0_5.toList != ([] : List UInt8)) = false := bne_eq_false_iff_eq.mpr c20
       clear c20
       obtain rfl := Option.some.inj H
       obtain ⟨hcz21_0, hcz21_1, hcz21_2, hcz21_3, hcz21_4, hcz21_5, hcz21_6, hfz21_0, hfz21_1, hfz21_2, hfz21_3, hfz21_4, hfz21_5, hfz21_6⟩ := bc7 BK163.out
       go_wp2
       go_ret
       exact ⟨rq, bz⟩
      ·rw [if_neg c20] at H
       have c20b0 : (a0_5.toList == ([] : List UInt8)) = false := beq_eq_false_iff_ne.mpr c20
       have c20b1 : (a0_5.toList != ([] : List UInt8)) = true := bne_iff_ne.mpr c20
       obtain rfl := Option.some.inj H
       obtain ⟨hcz22_0, hcz22_1, hcz22_2, hcz22_3, hcz22_4, hcz22_5, hcz22_6, hfz22_0, hfz22_1, hfz22_2, hfz22_3, hfz22_4, hfz22_5, hfz22_6⟩ := bc7 BK163.out
       go_wp2
       go_ret
       exact ⟨rq, bz⟩
     ·rw [if_neg c19] at H
      have c19b0 : (a0_4.toList == ([] : List UInt8)) = false := beq_eq_false_iff_ne.mpr c19
      have c19b1 : (a0_4.toList != ([] : List UInt8)) = true := bne_iff_ne.mpr c19
      obtain rfl := Option.some.inj H
      obtain ⟨hcz23_0, hcz23_1, hcz23_2, hcz23_3, hcz23_4, hcz23_5, hcz23_6, hfz23_0, hfz23_1, hfz23_2, hfz23_3, hfz23_4, hfz23_5, hfz23_6⟩ := bc7 BK163.out
      go_wp2
      go_ret
      exact ⟨rq, bz⟩
    ·rw [if_neg c18] at H
     have c18b0 : (a0_1 == 0) = false := beq_eq_false_iff_ne.mpr c18
     have c18b1 : (a0_1 != 0) = true := bne_iff_ne.mpr c18
     by_cases c24 : a0_1 = 1
     ·rw [if_pos c24] at H
      have c24b0 : (a0_1 == 1) = true := beq_iff_eq.mpr c24
      have c24b1 : (a0_1 != 1) = false := bne_eq_false_iff_eq.mpr c24
      clear c24
      by_cases c25 : (a0_4.size : Int) ≤ 20000
      ·rw [if_pos c25] at H
       have c25b0 : decide ((a0_4.size : Int) ≤ 20000) = true := decide_eq_true c25
       have c25b1 : decide (a0_4.size ≤ 20000) = true := decide_eq_true (by omega)
       clear c25
       by_cases c26 : a0_5.toList = ([] : List UInt8)
       ·rw [if_pos c26] at H
        have c26b0 : (a0_5.toList == ([] : List UInt8)) = true := beq_iff_eq.mpr c26
        have c26b1 : (a0_5.toList != ([] : List UInt8)) = false := bne_eq_false_iff_eq.mpr c26
        clear c26
        replace H := Option.bind_eq_some_iff.mp H
        obtain ⟨t167, A270, H⟩ := H
        try dsimp -simprocs only at H
        have A27 := Aside0.mk A270
        clear A270
        obtain rfl := Option.some.inj H
        obtain ⟨hcz28_0, hcz28_1, hcz28_2, hcz28_3, hcz28_4, hcz28_5, hcz28_6, hfz28_0, hfz28_1, hfz28_2, hfz28_3, hfz28_4, hfz28_5, hfz28_6⟩ := bc7 BK163.out
        go_wp2_with (first | (go_at_call 69; (with_reducible refine (impl_within.calls a0_6 0 200 t167 _ A27.out).mono ?_); rintro e w' ⟨rfl, ⟨nd, rfl⟩⟩))
        go_ret
        exact ⟨rq, bz⟩
       ·rw [if_neg c26] at H
        have c26b0 : (a0_5.toList == ([] : List UInt8)) = false := beq_eq_false_iff_ne.mpr c26
        have c26b1 : (a0_5.toList != ([] : List UInt8)) = true := bne_iff_ne.mpr c26
        obtain rfl := Option.some.inj H
        obtain ⟨hcz29_0, hcz29_1, hcz29_2, hcz29_3, hcz29_4, hcz29_5, hcz29_6, hfz29_0, hfz29_1, hfz29_2, hfz29_3, hfz29_4, hfz29_5, hfz29_6⟩ := bc7 BK163.out
        go_wp2
        go_ret
        exact ⟨rq, bz⟩
      ·rw [if_neg c25] at H
       have c25b0 : decide ((a0_4.size : Int) ≤ 20000) = false := decide_eq_false c25
       have c25b1 : decide (a0_4.size ≤ 20000) = false := decide_eq_false (by omega)
       clear c25
       obtain rfl := Option.some.inj H
       obtain ⟨hcz30_0, hcz30_1, hcz30_2, hcz30_3, hcz30_4, hcz30_5, hcz30_6, hfz30_0, hfz30_1, hfz30_2, hfz30_3, hfz30_4, hfz30_5, hfz30_6⟩ := bc7 BK163.out
       go_wp2
       go_ret
       exact ⟨rq, bz⟩
     ·rw [if_neg c24] at H
      have c24b0 : (a0_1 == 1) = false := beq_eq_false_iff_ne.mpr c24
      have c24b1 : (a0_1 != 1) = true := bne_iff_ne.mpr c24
      by_cases c31 : a0_1 = 2
      ·rw [if_pos c31] at H
       have c31b0 : (a0_1 == 2) = true := beq_iff_eq.mpr c31
       have c31b1 : (a0_1 != 2) = false := bne_eq_false_iff_eq.mpr c31
       clear c31
       by_cases c32 : a0_4.toList = ([] : List UInt8)
       ·rw [if_pos c32] at H
        have c32b0 : (a0_4.toList == ([] : List UInt8)) = true := beq_iff_eq.mpr c32
        have c32b1 : (a0_4.toList != ([] : List UInt8)) = false := bne_eq_false_iff_eq.mpr c32
        clear c32
        by_cases c33 : a0_2 = 0
        ·rw [if_pos c33] at H
         have c33b0 : (a0_2 == 0) = true := beq_iff_eq.mpr c33
         have c33b1 : (a0_2 != 0) = false := bne_eq_false_iff_eq.mpr c33
         clear c33
         by_cases c34 : a0_6 = 0
         ·rw [if_pos c34] at H
          have c34b0 : (a0_6 == 0) = true := beq_iff_eq.mpr c34
          have c34b1 : (a0_6 != 0) = false := bne_eq_false_iff_eq.mpr c34
          clear c34
          replace H := Option.bind_eq_some_iff.mp H
          obtain ⟨t168, A350, H⟩ := H
          try dsimp -simprocs only at H
          have A35 := Aside0.mk A350
          clear A350
          by_cases c36 : t168 = true
          ·subst c36
           have H1 : ((strings_Contains.f a0_5 (⟨#[10]⟩ : ByteArray)).bind fun t169 => (some (!t169))) = some r := by rw [if_pos rfl] at H; exact H
           clear H
           have H := H1
           clear H1
           replace H := Option.bind_eq_some_iff.mp H
           obtain ⟨t169, A370, H⟩ := H
           try dsimp -simprocs only at H
           have A37 := Aside0.mk A370
           clear A370
           obtain rfl := Option.some.inj H
           obtain ⟨hcz38_0, hcz38_1, hcz38_2, hcz38_3, hcz38_4, hcz38_5, hcz38_6, hfz38_0, hfz38_1, hfz38_2, hfz38_3, hfz38_4, hfz38_5, hfz38_6⟩ := bc7 BK163.out
           go_wp2_with (first | (go_at_call 69; (with_reducible refine (impl_within.calls (a0_5.size : Int) 1 60 true _ A35.out).mono ?_); rintro e w' ⟨rfl, ⟨nd, rfl⟩⟩) | (go_at_call 166; (with_reducible refine (strings_Contains.calls a0_5 (⟨#[10]⟩ : ByteArray) t169 _ A37.out).mono ?_); rintro e w' ⟨rfl, ⟨nd, rfl⟩⟩))
           go_ret
           exact ⟨rq, bz⟩
          ·replace c36 := Bool.eq_false_iff.mpr c36
           subst c36
           have H1 : (some false) = some r := by rw [if_neg (show ¬ (false = true) by decide)] at H; exact H
           clear H
           have H := H1
           clear H1
           obtain rfl := Option.some.inj H
           obtain ⟨hcz39_0, hcz39_1, hcz39_2, hcz39_3, hcz39_4, hcz39_5, hcz39_6, hfz39_0, hfz39_1, hfz39_2, hfz39_3, hfz39_4, hfz39_5, hfz39_6⟩ := bc7 BK163.out
           go_wp2_with (first | (go_at_call 69; (with_reducible refine (impl_within.calls (a0_5.size : Int) 1 60 false _ A35.out).mono ?_); rintro e w' ⟨rfl, ⟨nd, rfl⟩⟩))
           go_ret
           exact ⟨rq, bz⟩
         ·rw [if_neg c34] at H
          have c34b0 : (a0_6 == 0) = false := beq_eq_false_iff_ne.mpr c34
          have c34b1 : (a0_6 != 0) = true := bne_iff_ne.mpr c34
          obtain rfl := Option.some.inj H
          obtain ⟨hcz40_0, hcz40_1, hcz40_2, hcz40_3, hcz40_4, hcz40_5, hcz40_6, hfz40_0, hfz40_1, hfz40_2, hfz40_3, hfz40_4, hfz40_5, hfz40_6⟩ := bc7 BK163.out
          go_wp2
          go_ret
          exact ⟨rq, bz⟩
        ·rw [if_neg c33] at H
         have c33b0 : (a0_2 == 0) = false := beq_eq_false_iff_ne.mpr c33
         have c33b1 : (a0_2 != 0) = true := bne_iff_ne.mpr c33
         obtain rfl := Option.some.inj H
         obtain ⟨hcz41_0, hcz41_1, hcz41_2, hcz41_3, hcz41_4, hcz41_5, hcz41_6, hfz41_0, hfz41_1, hfz41_2, hfz41_3, hfz41_4, hfz41_5, hfz41_6⟩ := bc7 BK163.out
         go_wp2
         go_ret
         exact ⟨rq, bz⟩
       ·rw [if_neg c32] at H
        have c32b0 : (a0_4.toList == ([] : List UInt8)) = false := beq_eq_false_iff_ne.mpr c32
        have c32b1 : (a0_4.toList != ([] : List UInt8)) = true := bne_iff_ne.mpr c32
        obtain rfl := Option.some.inj H
        obtain ⟨hcz42_0, hcz42_1, hcz42_2, hcz42_3, hcz42_4, hcz42_5, hcz42_6, hfz42_0, hfz42_1, hfz42_2, hfz42_3, hfz42_4, hfz42_5, hfz42_6⟩ := bc7 BK163.out
        go_wp2
        go_ret
        exact ⟨rq, bz⟩
      ·rw [if_neg c31] at H
       have c31b0 : (a0_1 == 2) = false := beq_eq_false_iff_ne.mpr c31
       have c31b1 : (a0_1 != 2) = true := bne_iff_ne.mpr c31
       obtain rfl := Option.some.inj H
       obtain ⟨hcz43_0, hcz43_1, hcz43_2, hcz43_3, hcz43_4, hcz43_5, hcz43_6, hfz43_0, hfz43_1, hfz43_2, hfz43_3, hfz43_4, hfz43_5, hfz43_6⟩ := bc7 BK163.out
       go_wp2
       go_ret
       exact ⟨rq, bz⟩

/-! ### strings_Join: function 167 (by hand) -/
def strings_Join.f (a0 : List ByteArray) (a1 : ByteArray) : Option ByteArray := if 1 ≤ a0.length ∧ a0.length ≤ 140737488355328 ∧ (Lib.join (a0.map (·.data.toList)) a1.data.toList).length ≤ 140737488355328 then some ⟨(Lib.join (a0.map (·.data.toList)) a1.data.toList).toArray⟩ else none
theorem strings_Join.calls (A0 : Option Addr) (c0 : Nat) (l0 : List ByteArray) (a1 : ByteArray) (r : ByteArray) (w : World) (hr0 : Kd.C Kd.string w A0 l0.length l0) (hc0 : l0.length ≤ c0) (h : strings_Join.f l0 a1 = some r) :
    Calls Tryd.prog 167 #[.slice A0 l0.length c0, .string a1] w fun e w' => e = .returned (.string r) ∧ Below w.heap.size w w' := by
  unfold strings_Join.f at h
  by_cases hs : 1 ≤ l0.length ∧ l0.length ≤ 140737488355328 ∧ (Lib.join (l0.map (·.data.toList)) a1.data.toList).length ≤ 140737488355328
  · rw [if_pos hs] at h
    obtain rfl := Option.some.inj h
    obtain ⟨ad, rfl, hat⟩ := hr0.2.2 (by omega)
    have cell : ∀ (j : Nat) x, l0[j]? = some x → w.cell? (ad.add j) = some (.string x) := by
      intro j x hx
      obtain ⟨c, _, hK, hc⟩ := hat j x hx
      obtain rfl : c = [.string x] := hK
      have := hc 0 _ rfl
      simpa [Kd.string, Kd.scalar] using this
    obtain ⟨b, o, sp⟩ := ad
    have h0 := cell 0 _ (List.getElem?_eq_getElem (by omega))
    have hsp : sp = none := by
      cases sp with
      | none => rfl
      | some z =>
        exfalso
        simp only [World.cell?, Addr.add] at h0
        split at h0 <;> simp at h0
    subst hsp
    have cell' : ∀ (j : Nat) x, l0[j]? = some x → w.cell? ⟨b, o + j, none⟩ = some (.string x) := fun j x hx => by
      have := cell j x hx
      by_cases hj : j = 0
      · subst hj; simpa [Addr.add] using this
      · simpa [Addr.add, hj] using this
    exact Tryd.strings_Join b o c0 l0 a1 w cell' (World.block_lt_of_cell? w _ (cell' 0 _ (List.getElem?_eq_getElem (by omega)))) hs.2.1 hc0 hs.2.2
  · rw [if_neg hs] at h
    cases h

/-! ### strconv_Itoa: function 204 (by hand) -/
def strconv_Itoa.f (a0 : Int) : Option ByteArray := if -9223372036854775808 ≤ a0 ∧ a0 ≤ 9223372036854775807 then some ⟨(Lib.itoa a0).toArray⟩ else none
theorem strconv_Itoa.calls (a0 : Int) (r : ByteArray) (w : World) (h : strconv_Itoa.f a0 = some r) (hT : Go.Proofs.YtjiaigjmihmdjaaDoor.Sum.Tabs w := by exact Go.Proofs.YtjiaigjmihmdjaaDoor.Sum.Tabs.at HT.out (by repeat (first | (with_reducible first | exact HB.out | apply below_alloc | apply pw_below_drewN | apply below_drew1 | refine below_set ?_ (Aside0.out (by assumption))) | exact HB.out))) :
    Calls Tryd.prog 204 #[.int .i64 a0] w fun e w' => e = .returned (.string r) ∧ Below w.heap.size w w' := by
  unfold strconv_Itoa.f at h
  by_cases hs : -9223372036854775808 ≤ a0 ∧ a0 ≤ 9223372036854775807
  · rw [if_pos hs] at h
    obtain rfl := Option.some.inj h
    refine (Tryd.strconv_Itoa a0 hs.1 hs.2 w hT.pow).mono fun e w' ⟨he, k, os, hw⟩ => ⟨he, ?_⟩
    subst hw
    exact Go.Proofs.YtjiaigjmihmdjaaDoor.Sum.below_grow (pw_below_drewN (Below.refl _ _) k) (Nat.le_refl _) os
  · rw [if_neg hs] at h
    cases h

/-! ### impl_DecText: function 168 -/
def impl_DecText.f (a0 : Int) : Option (ByteArray) := (strconv_Itoa.f a0).bind fun t170 => (some t170)
set_option maxHeartbeats 8000000 in
set_option maxRecDepth 100000 in
theorem impl_DecText.calls (a0 : Int) (r : ByteArray) (w : World) (h : impl_DecText.f a0 = some r) (hT : Go.Proofs.YtjiaigjmihmdjaaDoor.Sum.Tabs w := by exact Go.Proofs.YtjiaigjmihmdjaaDoor.Sum.Tabs.at HT.out (by repeat (first | (with_reducible first | exact HB.out | apply below_alloc | apply pw_below_drewN | apply below_drew1 | refine below_set ?_ (Aside0.out (by assumption))) | exact HB.out))) :
  Calls Tryd.prog 168 #[.int .i64 a0] w fun e w' => e = .returned (.string r) ∧ Below w.heap.size w w' := by
 have HT := Aside0.mk hT
 clear hT
 have HB := Aside0.mk (Below.refl w.heap.size w)
 have H : ((strconv_Itoa.f a0).bind fun t170 => (some t170)) = some r := h
 clear h
 replace H := Option.bind_eq_some_iff.mp H
 obtain ⟨t170, A20, H⟩ := H
 try dsimp -simprocs only at H
 have A2 := Aside0.mk A20
 clear A20
 obtain rfl := Option.some.inj H
 go_enter Tryd.func168, Tryd.ntmps168
 go_wp2_with (first | ((with_reducible refine gate_callee (f := 204) rfl ?_); refine goesL_ (some 4) rfl rfl Tryd.func204 (by kernel_rfl) rfl #[.int .i64 a0] rfl mt ?_; (with_reducible refine (strconv_Itoa.calls a0 t170 _ A2.out).mono ?_); rintro e w3 ⟨rfl, hb⟩; refine ⟨_, rfl, ?_⟩; have n0_ := Aside0.mk (below_step bz hb); clear HB; have HB := n0_; clear n0_; (try clear hb); (try clear hb2); (try clear hk); (try clear hi)))
 go_ret
 exact ⟨rq, bz⟩

end Go.Proofs.YtjiaigjmihmdjaaDoor.PFnExactShowNode
