
/- The machine's side, written by a program of this session (a turned print): each function as a plain Lean function, and that the call comes to it. -/
import Derived.Test.YtjiaigjmihmdjaaPFnExactGetMsgx0
import Derived.Test.YtjiaigjmihmdjaaPFnExactGetMsgx8
import Derived.Test.YtjiaigjmihmdjaaPFnExactGetMsgx9
import Derived.Test.YtjiaigjmihmdjaaPFnExactGetMsgx10
namespace Go.Proofs.Ytjiaigjmihmdjaa.PFnExactGetMsg
open Go.RowKit Go.Proofs.YtjiaigjmihmdjaaW.PrintWords Go.Proofs.YtjiaigjmihmdjaaW.PrintLast Go.Proofs.YtjiaigjmihmdjaaW.PrintMore
attribute [local go_sem] max2_int min2_int max_two min_two max_three min_three max_four min_four   -- for this text's walks alone
set_option linter.unusedVariables false
set_option linter.unusedSimpArgs false

/-! ### impl_readTokens: function 26 -/
mutual
def impl_readTokens.l0 : Nat → ByteArray → List (S72) → Int → ByteArray → Bool → Option ((List (S72)) × Bool)
 | 0, _, _, _, _, _ => none
 | k + 1, x0, x5, x6, x366000, x366001 => if x6 > 0 then (impl_readTokens.j1 k x0 x5 x6 (!x366001) x366000 x366001) else (impl_readTokens.j1 k x0 x5 x6 false x366000 x366001)
def impl_readTokens.j1 : Nat → ByteArray → List (S72) → Int → Bool → ByteArray → Bool → Option ((List (S72)) × Bool)
 | 0, _, _, _, _, _, _ => none
 | k + 1, x0, x5, x6, x22, x366000, x366001 => if x22 = true then (if (x5.length : Int) = 20000 then (some (([] : List (S72)), false)) else (if (Int.tmod x6 2) = 0 then (impl_readTokens.j2 k x0 x5 x6 (decide ((wrap64 (Int.tdiv x6 2)) ≤ 100)) x366000 x366001) else (impl_readTokens.j2 k x0 x5 x6 false x366000 x366001))) else ((impl_tokensText.f x5).bind fun bt387 => (if x366001 = true then (impl_readTokens.j3 k x5 true) else (if bt387.2 = true then (impl_readTokens.j3 k x5 (bt387.1.toList != x0.toList)) else (impl_readTokens.j3 k x5 true))))
def impl_readTokens.j2 : Nat → ByteArray → List (S72) → Int → Bool → ByteArray → Bool → Option ((List (S72)) × Bool)
 | 0, _, _, _, _, _, _ => none
 | k + 1, x0, x5, x6, x29, x366000, x366001 => if x29 = true then ((impl_reader_take.f x366000 x366001 (wrap64 (Int.tdiv x6 2))).bind fun bt369 => (if x5.length < 3518437208883 then ((impl_reader_number.f k bt369.2.1 bt369.2.2).bind fun bt375 => (impl_readTokens.l0 k x0 (x5 ++ [(⟨0, bt369.1, 0, 0⟩ : S72)]) bt375.1 bt375.2.1 bt375.2.2)) else (none))) else (if (Int.tmod x6 2) = 1 then ((impl_reader_number.f k x366000 x366001).bind fun bt378 => (if x5.length < 3518437208883 then ((impl_reader_number.f k bt378.2.1 bt378.2.2).bind fun bt384 => (impl_readTokens.l0 k x0 (x5 ++ [(⟨1, (⟨#[]⟩ : ByteArray), bt378.1, wrap64 (Int.tdiv x6 2)⟩ : S72)]) bt384.1 bt384.2.1 bt384.2.2)) else (none))) else (some (([] : List (S72)), false)))
def impl_readTokens.j3 : Nat → List (S72) → Bool → Option ((List (S72)) × Bool)
 | 0, _, _ => none
 | k + 1, x5, x75 => if x75 = true then (some (([] : List (S72)), false)) else (some (x5, true))
end
def impl_readTokens.f (k : Nat) (a0 : ByteArray) : Option ((List (S72)) × Bool) := (impl_reader_number.f k a0 false).bind fun bt366 => (impl_readTokens.l0 k a0 ([] : List (S72)) bt366.1 bt366.2.1 bt366.2.2)
theorem impl_readTokens.mono_l : ∀ k, (∀ y0 y1 y2 y3 y4, LeO (impl_readTokens.l0 k y0 y1 y2 y3 y4) (impl_readTokens.l0 (k + 1) y0 y1 y2 y3 y4)) ∧ (∀ y0 y1 y2 y3 y4 y5, LeO (impl_readTokens.j1 k y0 y1 y2 y3 y4 y5) (impl_readTokens.j1 (k + 1) y0 y1 y2 y3 y4 y5)) ∧ (∀ y0 y1 y2 y3 y4 y5, LeO (impl_readTokens.j2 k y0 y1 y2 y3 y4 y5) (impl_readTokens.j2 (k + 1) y0 y1 y2 y3 y4 y5)) ∧ (∀ y0 y1, LeO (impl_readTokens.j3 k y0 y1) (impl_readTokens.j3 (k + 1) y0 y1))
 | 0 => ⟨fun _ _ _ _ _ r h => by simp [impl_readTokens.l0] at h, fun _ _ _ _ _ _ r h => by simp [impl_readTokens.j1] at h, fun _ _ _ _ _ _ r h => by simp [impl_readTokens.j2] at h, fun _ _ r h => by simp [impl_readTokens.j3] at h⟩
 | k + 1 => by
  obtain ⟨ih0, ih1, ih2, ih3⟩ := impl_readTokens.mono_l k
  refine ⟨?_, ?_, ?_, ?_⟩
  ·intro y0 y1 y2 y3 y4
   unfold impl_readTokens.l0
   repeat' first | (with_reducible first | exact ih0 _ _ _ _ _ | exact ih1 _ _ _ _ _ _ | exact ih2 _ _ _ _ _ _ | exact ih3 _ _ | exact impl_reader_number.mono _ _ _ | exact LeO.refl _ | exact LeO.none _ | refine LeO.ite ?_ ?_ | refine LeO.bind ?_ (fun _ => ?_)) | exact ih0 _ _ _ _ _ | exact ih1 _ _ _ _ _ _ | exact ih2 _ _ _ _ _ _ | exact ih3 _ _ | exact impl_reader_number.mono _ _ _ | exact LeO.none _ | refine LeO.ite ?_ ?_ | refine LeO.bind ?_ (fun _ => ?_)
  ·intro y0 y1 y2 y3 y4 y5
   unfold impl_readTokens.j1
   repeat' first | (with_reducible first | exact ih0 _ _ _ _ _ | exact ih1 _ _ _ _ _ _ | exact ih2 _ _ _ _ _ _ | exact ih3 _ _ | exact impl_reader_number.mono _ _ _ | exact LeO.refl _ | exact LeO.none _ | refine LeO.ite ?_ ?_ | refine LeO.bind ?_ (fun _ => ?_)) | exact ih0 _ _ _ _ _ | exact ih1 _ _ _ _ _ _ | exact ih2 _ _ _ _ _ _ | exact ih3 _ _ | exact impl_reader_number.mono _ _ _ | exact LeO.none _ | refine LeO.ite ?_ ?_ | refine LeO.bind ?_ (fun _ => ?_)
  ·intro y0 y1 y2 y3 y4 y5
   unfold impl_readTokens.j2
   repeat' first | (with_reducible first | exact ih0 _ _ _ _ _ | exact ih1 _ _ _ _ _ _ | exact ih2 _ _ _ _ _ _ | exact ih3 _ _ | exact impl_reader_number.mono _ _ _ | exact LeO.refl _ | exact LeO.none _ | refine LeO.ite ?_ ?_ | refine LeO.bind ?_ (fun _ => ?_)) | exact ih0 _ _ _ _ _ | exact ih1 _ _ _ _ _ _ | exact ih2 _ _ _ _ _ _ | exact ih3 _ _ | exact impl_reader_number.mono _ _ _ | exact LeO.none _ | refine LeO.ite ?_ ?_ | refine LeO.bind ?_ (fun _ => ?_)
  ·intro y0 y1
   unfold impl_readTokens.j3
   repeat' first | (with_reducible first | exact ih0 _ _ _ _ _ | exact ih1 _ _ _ _ _ _ | exact ih2 _ _ _ _ _ _ | exact ih3 _ _ | exact impl_reader_number.mono _ _ _ | exact LeO.refl _ | exact LeO.none _ | refine LeO.ite ?_ ?_ | refine LeO.bind ?_ (fun _ => ?_)) | exact ih0 _ _ _ _ _ | exact ih1 _ _ _ _ _ _ | exact ih2 _ _ _ _ _ _ | exact ih3 _ _ | exact impl_reader_number.mono _ _ _ | exact LeO.none _ | refine LeO.ite ?_ ?_ | refine LeO.bind ?_ (fun _ => ?_)
theorem impl_readTokens.mono : ∀ a0 k, LeO (impl_readTokens.f k a0) (impl_readTokens.f (k + 1) a0) := by
 intro a0 k
 obtain ⟨ih0, ih1, ih2, ih3⟩ := impl_readTokens.mono_l k
 unfold impl_readTokens.f
 repeat' first | (with_reducible first | exact ih0 _ _ _ _ _ | exact ih1 _ _ _ _ _ _ | exact ih2 _ _ _ _ _ _ | exact ih3 _ _ | exact impl_reader_number.mono _ _ _ | exact LeO.refl _ | exact LeO.none _ | refine LeO.ite ?_ ?_ | refine LeO.bind ?_ (fun _ => ?_)) | exact ih0 _ _ _ _ _ | exact ih1 _ _ _ _ _ _ | exact ih2 _ _ _ _ _ _ | exact ih3 _ _ | exact impl_reader_number.mono _ _ _ | exact LeO.none _ | refine LeO.ite ?_ ?_ | refine LeO.bind ?_ (fun _ => ?_)
set_option maxHeartbeats 8000000 in
set_option maxRecDepth 100000 in
theorem impl_readTokens.calls (k : Nat) (a0 : ByteArray) (r1 : List (S72)) (r2 : Bool) (w : World) (h : impl_readTokens.f k a0 = some (r1, r2)) :
  Calls Try.prog 26 #[.string a0] w fun e w' => ∃ v0_ : Value, e = .returned (.tuple #[v0_, .bool r2]) ∧ Kd.R k72 72 w' w.heap.size (fun _ => True) v0_ r1 ∧ Below w.heap.size w w' := by
 have hu51 := Try.underlying51
 have hu72 := Try.underlying72
 have HB := Aside0.mk (Below.refl w.heap.size w)
 have H : ((impl_reader_number.f k a0 false).bind fun bt366 => (impl_readTokens.l0 k a0 ([] : List (S72)) bt366.1 bt366.2.1 bt366.2.2)) = some (r1, r2) := h
 clear h
 replace H := Option.bind_eq_some_iff.mp H
 obtain ⟨⟨t366, t367, t368⟩, A20, H⟩ := H
 try dsimp -simprocs only at H
 have A2 := Aside0.mk A20
 clear A20
 have H' := Aside0.mk H
 clear H
 go_enter Try.func26, Try.ntmps26
 go_wp2_with (first | ((with_reducible refine gate_dst (N := 11) rfl ?_); refine box_event ?hg (N := 11) ?hd (cs := #[.string a0, .bool false]) (t := 51) ?hr ?_; (case hd => rfl); (case hg => rfl); (case hr => first | (go_simp; done) | (go_simp; rfl)); intro g365 hg w3 hbox hb; have n0_ := Aside0.mk (below_step bz hb); have n1_ := Aside0.mk ((show IsS51 w w3 g365 a0 false from ⟨hbox, (by rw [hg]; exact (below_size bz))⟩)); clear HB; have HB := n0_; have HI365 := n1_; clear n0_ n1_; clear hb hbox hg) | ((with_reducible refine gate_callee (f := 23) rfl ?_); refine goesL_ (some 13) rfl rfl Try.func23 (by kernel_rfl) rfl #[.pointer (some ⟨g365, 0, none⟩)] rfl mt ?_; (with_reducible refine (impl_reader_number.calls k g365 a0 false t366 t367 t368 w _ ?side1 ?side2 A2.out).mono ?_); (case side1 => repeat (first | (with_reducible first | exact HI365.out | apply IsS51.alloc | apply IsS51.drewN | apply IsS51.drew | apply IsS51.set_0 | apply IsS51.set_1) | exact HI365.out)); (case side2 => repeat (first | (with_reducible first | exact HB.out | apply below_alloc | apply pw_below_drewN | apply below_drew1 | refine below_set ?_ (IsS51.ge HI365.out)) | exact HB.out)); rintro e w4 ⟨rfl, hi, hb, hk⟩; refine ⟨_, rfl, ?_⟩; have n0_ := Aside0.mk (hb); have n1_ := Aside0.mk (hi); clear HB; clear HI365; have HB := n0_; have HI365 := n1_; clear n0_ n1_; (try clear hb); (try clear hb2); (try clear hk); (try clear hi)))
 go_loopg [5, 6] k (fun kq v5 v6 w' => ∃ (x5_1 : List (S72)) (x6_1 : Int) (x366000_1 : ByteArray) (x366001_1 : Bool), v6 = .int .i64 x6_1 ∧ Aside0 (impl_readTokens.l0 kq a0 x5_1 x6_1 x366000_1 x366001_1 = some (r1, r2)) ∧ Aside0 (kq ≤ k) ∧ Aside0 (Kd.R k72 72 w' w.heap.size (fun _ => True) v5 x5_1) ∧ Aside0 (IsS51 w w' g365 x366000_1 x366001_1) ∧ Aside0 (Below w.heap.size w w'))
 case atStart => exact ⟨(([] : List (S72))), (t366), (t367), (t368), sd, H', ⟨Nat.le_refl _⟩, ⟨nz⟩, ⟨iz HI365⟩, ⟨bz⟩⟩
 case round =>
  clear H'
  try clear c2
  try clear p2
  obtain ⟨x5_1, x6_1, x366000_1, x366001_1, rfl, HA, HK1, HO_5, HI365, HB⟩ := hrel
  cases gk with
  | zero => exact absurd HA.out (by simp [impl_readTokens.l0])
  | succ k1 =>
   have H := HA.out
   clear HA
   simp only [impl_readTokens.l0] at H
   have HC5 := Aside0.mk H
   clear H
   go_upto_region 4 with (fail)
   go_cut [22] (fun v22 wc => ∃ (kq : Nat) (x22_4 : Bool), v22 = .bool x22_4 ∧ Aside0 (impl_readTokens.j1 kq a0 x5_1 x6_1 x22_4 x366000_1 x366001_1 = some (r1, r2)) ∧ Aside0 (kq ≤ k1) ∧ Aside0 (Kd.R k72 72 wc w.heap.size (fun _ => True) u5 x5_1) ∧ Aside0 (IsS51 w wc g365 x366000_1 x366001_1) ∧ Aside0 (Below w.heap.size w wc))
   case first =>
    have H := HC5.out
    clear HC5
    by_cases c6 : x6_1 > 0
    ·rw [if_pos c6] at H
     have c6b0 : decide (0 < x6_1) = true := decide_eq_true c6
     clear c6
     (first | rw [c6b0] | (simp only [i64_w, i32_w]; rw [c6b0]) | skip)
     have H' := Aside0.mk H
     clear H
     obtain ⟨HGz7, hgz7⟩ := HI365.out
     have hcz7_0 := cellS51_0 HGz7
     have hcz7_1 := cellS51_1 HGz7
     have hfz7_0 := blk_frozen HGz7 0
     have hfz7_1 := blk_frozen HGz7 1
     clear HGz7 hgz7
     go_wp2
     go_meet
     case rel => exact ⟨_, (!x366001_1), sd, H', ⟨by have := HK1.out; first | omega | exact Nat.le_refl _⟩, ⟨by refine rs ?_; exact HO_5.out⟩, ⟨iz HI365⟩, ⟨bz⟩⟩
    ·rw [if_neg c6] at H
     have c6b0 : decide (0 < x6_1) = false := decide_eq_false c6
     clear c6
     (first | rw [c6b0] | (simp only [i64_w, i32_w]; rw [c6b0]) | skip)
     have H' := Aside0.mk H
     clear H
     go_wp2
     go_meet
     case rel => exact ⟨_, (false), sd, H', ⟨by have := HK1.out; first | omega | exact Nat.le_refl _⟩, ⟨by refine rs ?_; exact HO_5.out⟩, ⟨iz HI365⟩, ⟨bz⟩⟩
   case rest =>
    clear HC5
    try clear c2
    try clear p2
    try clear c6
    try clear c6b0
    try clear hcz7_0 hcz7_1 hfz7_0 hfz7_1
    try clear p2
    obtain ⟨kq, x22_4, rfl, HA, HJ4, HO_5, HI365, HB⟩ := hcut
    cases kq with
    | zero => exact absurd HA.out (by simp [impl_readTokens.j1])
    | succ kj4 =>
     have H := HA.out
     clear HA
     simp only [impl_readTokens.j1] at H
     by_cases c8 : x22_4 = true
     ·subst c8
      have H1 : (if (x5_1.length : Int) = 20000 then (some (([] : List (S72)), false)) else (if (Int.tmod x6_1 2) = 0 then (impl_readTokens.j2 kj4 a0 x5_1 x6_1 (decide ((wrap64 (Int.tdiv x6_1 2)) ≤ 100)) x366000_1 x366001_1) else (impl_readTokens.j2 kj4 a0 x5_1 x6_1 false x366000_1 x366001_1))) = some (r1, r2) := by rw [if_pos rfl] at H; exact H
      clear H
      have H := H1
      clear H1
      by_cases c9 : (x5_1.length : Int) = 20000
      ·rw [if_pos c9] at H
       have c9b0 : ((x5_1.length : Int) == 20000) = true := beq_iff_eq.mpr c9
       have c9b1 : ((x5_1.length : Int) != 20000) = false := bne_eq_false_iff_eq.mpr c9
       clear c9
       simp only [Option.some.injEq, Prod.mk.injEq] at H
       obtain ⟨rfl, rfl⟩ := H
       obtain ⟨Ao10, co10, eo10⟩ := Kd.R_slice HO_5.out
       subst eo10
       go_wp2
       go_ret2
       exact ⟨_, rq, nz, bz⟩
      ·rw [if_neg c9] at H
       have c9b0 : ((x5_1.length : Int) == 20000) = false := beq_eq_false_iff_ne.mpr c9
       have c9b1 : ((x5_1.length : Int) != 20000) = true := bne_iff_ne.mpr c9
       have HC11 := Aside0.mk H
       clear H
       obtain ⟨Ao12, co12, eo12⟩ := Kd.R_slice HO_5.out
       subst eo12
       go_upto_region 9 with (fail)
       go_cut [29] (fun v29 wc => ∃ (kq : Nat) (x29_10 : Bool), v29 = .bool x29_10 ∧ Aside0 (impl_readTokens.j2 kq a0 x5_1 x6_1 x29_10 x366000_1 x366001_1 = some (r1, r2)) ∧ Aside0 (kq ≤ kj4) ∧ Aside0 (Kd.R k72 72 wc w.heap.size (fun _ => True) (.slice Ao12 x5_1.length co12) x5_1) ∧ Aside0 (IsS51 w wc g365 x366000_1 x366001_1) ∧ Aside0 (Below w.heap.size w wc))
       case first =>
        have H := HC11.out
        clear HC11
        by_cases c13 : (Int.tmod x6_1 2) = 0
        ·rw [if_pos c13] at H
         have c13b0 : ((Int.tmod x6_1 2) == 0) = true := beq_iff_eq.mpr c13
         have c13b1 : ((Int.tmod x6_1 2) != 0) = false := bne_eq_false_iff_eq.mpr c13
         clear c13
         (first | rw [c13b0] | (simp only [i64_w, i32_w]; rw [c13b0]) | skip)
         have H' := Aside0.mk H
         clear H
         go_wp2
         go_meet
         case rel => exact ⟨_, (decide ((wrap64 (Int.tdiv x6_1 2)) ≤ 100)), sd, H', ⟨by have := HK1.out; have := HJ4.out; first | omega | exact Nat.le_refl _⟩, ⟨by refine rs ?_; exact HO_5.out⟩, ⟨iz HI365⟩, ⟨bz⟩⟩
        ·rw [if_neg c13] at H
         have c13b0 : ((Int.tmod x6_1 2) == 0) = false := beq_eq_false_iff_ne.mpr c13
         have c13b1 : ((Int.tmod x6_1 2) != 0) = true := bne_iff_ne.mpr c13
         (first | rw [c13b0] | (simp only [i64_w, i32_w]; rw [c13b0]) | skip)
         have H' := Aside0.mk H
         clear H
         go_wp2
         go_meet
         case rel => exact ⟨_, (false), sd, H', ⟨by have := HK1.out; have := HJ4.out; first | omega | exact Nat.le_refl _⟩, ⟨by refine rs ?_; exact HO_5.out⟩, ⟨iz HI365⟩, ⟨bz⟩⟩
       case rest =>
        clear HC11
        try clear c1
        try clear c2
        try clear p2
        try clear c6
        try clear c6b0
        try clear p6
        try clear c8
        try clear c9
        try clear c9b0
        try clear c9b1
        try clear c13
        try clear c13b0
        try clear c13b1
        try clear hcz7_0 hcz7_1 hfz7_0 hfz7_1
        try clear p2
        obtain ⟨kq, x29_10, rfl, HA, HJ10, HO_5, HI365, HB⟩ := hcut
        cases kq with
        | zero => exact absurd HA.out (by simp [impl_readTokens.j2])
        | succ kj10 =>
         have H := HA.out
         clear HA
         simp only [impl_readTokens.j2] at H
         by_cases c14 : x29_10 = true
         ·subst c14
          have H1 : ((impl_reader_take.f x366000_1 x366001_1 (wrap64 (Int.tdiv x6_1 2))).bind fun bt369 => (if x5_1.length < 3518437208883 then ((impl_reader_number.f kj10 bt369.2.1 bt369.2.2).bind fun bt375 => (impl_readTokens.l0 kj10 a0 (x5_1 ++ [(⟨0, bt369.1, 0, 0⟩ : S72)]) bt375.1 bt375.2.1 bt375.2.2)) else (none))) = some (r1, r2) := by rw [if_pos rfl] at H; exact H
          clear H
          have H := H1
          clear H1
          replace H := Option.bind_eq_some_iff.mp H
          obtain ⟨⟨t369, t370, t371⟩, A150, H⟩ := H
          try dsimp -simprocs only at H
          have A15 := Aside0.mk A150
          clear A150
          by_cases c16 : x5_1.length < 3518437208883
          ·rw [if_pos c16] at H
           have LMc16 := Aside0.mk c16
           clear c16
           obtain ⟨y372, hy372⟩ : ∃ y_ : List (S72), y_ = (x5_1 ++ [(⟨0, t369, 0, 0⟩ : S72)]) := ⟨_, rfl⟩
           replace H : ((impl_reader_number.f kj10 t370 t371).bind fun bt375 => (impl_readTokens.l0 kj10 a0 y372 bt375.1 bt375.2.1 bt375.2.2)) = some (r1, r2) := by first | (rw [hy372]; with_reducible exact H) | (have H2_ := (Option.bind_some _ _).symm.trans H; rw [hy372]; with_reducible exact H2_) | (have H2_ := (Option.bind_some _ _).symm.trans H; with_reducible exact H2_) | with_reducible exact H | (rw [hy372]; exact H) | exact H
           have Ny372 := Aside0.mk hy372
           clear hy372
           replace H := Option.bind_eq_some_iff.mp H
           obtain ⟨⟨t375, t376, t377⟩, A170, H⟩ := H
           try dsimp -simprocs only at H
           have A17 := Aside0.mk A170
           clear A170
           have H' := Aside0.mk H
           clear H
           go_wp2_with (first | ((with_reducible refine gate_callee (f := 25) rfl ?_); refine goesL_ (some 42) rfl rfl Try.func25 (by kernel_rfl) rfl #[.pointer (some ⟨g365, 0, none⟩), .int .i64 (wrap64 (Int.tdiv x6_1 2))] rfl mt ?_; (with_reducible refine (impl_reader_take.calls g365 x366000_1 x366001_1 (wrap64 (Int.tdiv x6_1 2)) t369 t370 t371 w _ ?side1 ?side2 A15.out).mono ?_); (case side1 => repeat (first | (with_reducible first | exact HI365.out | apply IsS51.alloc | apply IsS51.drewN | apply IsS51.drew | apply IsS51.set_0 | apply IsS51.set_1) | exact HI365.out)); (case side2 => repeat (first | (with_reducible first | exact HB.out | apply below_alloc | apply pw_below_drewN | apply below_drew1 | refine below_set ?_ (IsS51.ge HI365.out)) | exact HB.out)); rintro e w18 ⟨rfl, hi, hb, hk⟩; refine ⟨_, rfl, ?_⟩; have n0_ := Aside0.mk (Kd.R_mono (Kd.R_keep (IsS51.apart (show IsS51 w _ g365 x366000_1 x366001_1 from iz HI365) (by refine rs ?_; exact HO_5.out) (by decide)) hk (fun _ h => h.2)) (fun _ h => h.1)); have n1_ := Aside0.mk (hb); have n2_ := Aside0.mk (hi); clear HO_5; clear HB; clear HI365; have HO_5 := n0_; have HB := n1_; have HI365 := n2_; clear n0_ n1_ n2_; (try clear hb); (try clear hb2); (try clear hk); (try clear hi)) | ((with_reducible refine gate_builtin (b := .append) (xs := #[.tmp 38, .tmp 44]) rfl ?_); at_builtin; refine Kd.R_append k72 (w0 := w) w.heap.size rfl (.tmp 38) (.tmp 44) 27 72 (.agg #[(.int .i64 0), (.string ⟨#[]⟩), (.int .i64 0), (.int .i64 0)]) 40 rfl Try.underlying27 info72 rfl (by decide) (by omega) (.slice Ao12 x5_1.length co12) x5_1 (⟨0, t369, 0, 0⟩ : S72) [.int .i64 0, .string t369, .int .i64 0, .int .i64 0] (fun _ => True) (fun _ => False) rfl rfl ?aP (fun _ hk => hk.elim) ?aF ?aO ?aB ?aS ?aL ?_; (case aP => exact k72_mkM _ _ _ (⟨0, t369, 0, 0⟩ : S72)); (case aB => exact bz); (case aF => exact (fun _ _ => trivial)); (case aO => exact (by refine rs ?_; exact HO_5.out)); (case aS => exact (below_size bz)); (case aL => have := LMc16.out; omega); intro v373 w19 ho hb hg hat; rw [← Ny372.out] at ho; have n0_ := Aside0.mk (IsS51.grown (iz HI365) hg (IsS51.own_ne HI365.out HO_5.out (by decide))); have n1_ := Aside0.mk (hb); have n2_ := Aside0.mk (ho); clear HI365; clear HB; clear HO_5; have HI365 := n0_; have HB := n1_; have HO374 := n2_; clear n0_ n1_ n2_; clear ho hb hg hat) | ((with_reducible refine gate_callee (f := 23) rfl ?_); refine goesL_ (some 24) rfl rfl Try.func23 (by kernel_rfl) rfl #[.pointer (some ⟨g365, 0, none⟩)] rfl mt ?_; (with_reducible refine (impl_reader_number.calls kj10 g365 t370 t371 t375 t376 t377 w _ ?side1 ?side2 A17.out).mono ?_); (case side1 => repeat (first | (with_reducible first | exact HI365.out | apply IsS51.alloc | apply IsS51.drewN | apply IsS51.drew | apply IsS51.set_0 | apply IsS51.set_1) | exact HI365.out)); (case side2 => repeat (first | (with_reducible first | exact HB.out | apply below_alloc | apply pw_below_drewN | apply below_drew1 | refine below_set ?_ (IsS51.ge HI365.out)) | exact HB.out)); rintro e w20 ⟨rfl, hi, hb, hk⟩; refine ⟨_, rfl, ?_⟩; have n0_ := Aside0.mk (Kd.R_mono (Kd.R_keep (IsS51.apart (show IsS51 w _ g365 t370 t371 from iz HI365) (by refine rs ?_; exact HO374.out) (by decide)) hk (fun _ h => h.2)) (fun _ h => h.1)); have n1_ := Aside0.mk (hb); have n2_ := Aside0.mk (hi); clear HO374; clear HB; clear HI365; have HO374 := n0_; have HB := n1_; have HI365 := n2_; clear n0_ n1_ n2_; (try clear hb); (try clear hb2); (try clear hk); (try clear hi)))
           go_roundg kj10
           case measure => have := HK1.out; have := HJ4.out; have := HJ10.out; omega
           case rel => exact ⟨(y372), (t375), (t376), (t377), sd, H', ⟨by have := HK1.out; have := HJ4.out; have := HJ10.out; omega⟩, ⟨by refine rs ?_; exact HO374.out⟩, ⟨iz HI365⟩, ⟨bz⟩⟩
          ·rw [if_neg c16] at H
           exact absurd H (by simp)
         ·replace c14 := Bool.eq_false_iff.mpr c14
          subst c14
          have H1 : (if (Int.tmod x6_1 2) = 1 then ((impl_reader_number.f kj10 x366000_1 x366001_1).bind fun bt378 => (if x5_1.length < 3518437208883 then ((impl_reader_number.f kj10 bt378.2.1 bt378.2.2).bind fun bt384 => (impl_readTokens.l0 kj10 a0 (x5_1 ++ [(⟨1, (⟨#[]⟩ : ByteArray), bt378.1, wrap64 (Int.tdiv x6_1 2)⟩ : S72)]) bt384.1 bt384.2.1 bt384.2.2)) else (none))) else (some (([] : List (S72)), false))) = some (r1, r2) := by rw [if_neg (show ¬ (false = true) by decide)] at H; exact H
          clear H
          have H := H1
          clear H1
          by_cases c21 : (Int.tmod x6_1 2) = 1
          ·rw [if_pos c21] at H
           have c21b0 : ((Int.tmod x6_1 2) == 1) = true := beq_iff_eq.mpr c21
           have c21b1 : ((Int.tmod x6_1 2) != 1) = false := bne_eq_false_iff_eq.mpr c21
           clear c21
           replace H := Option.bind_eq_some_iff.mp H
           obtain ⟨⟨t378, t379, t380⟩, A220, H⟩ := H
           try dsimp -simprocs only at H
           have A22 := Aside0.mk A220
           clear A220
           by_cases c23 : x5_1.length < 3518437208883
           ·rw [if_pos c23] at H
            have LMc23 := Aside0.mk c23
            clear c23
            obtain ⟨y381, hy381⟩ : ∃ y_ : List (S72), y_ = (x5_1 ++ [(⟨1, (⟨#[]⟩ : ByteArray), t378, wrap64 (Int.tdiv x6_1 2)⟩ : S72)]) := ⟨_, rfl⟩
            replace H : ((impl_reader_number.f kj10 t379 t380).bind fun bt384 => (impl_readTokens.l0 kj10 a0 y381 bt384.1 bt384.2.1 bt384.2.2)) = some (r1, r2) := by first | (rw [hy381]; with_reducible exact H) | (have H2_ := (Option.bind_some _ _).symm.trans H; rw [hy381]; with_reducible exact H2_) | (have H2_ := (Option.bind_some _ _).symm.trans H; with_reducible exact H2_) | with_reducible exact H | (rw [hy381]; exact H) | exact H
            have Ny381 := Aside0.mk hy381
            clear hy381
            replace H := Option.bind_eq_some_iff.mp H
            obtain ⟨⟨t384, t385, t386⟩, A240, H⟩ := H
            try dsimp -simprocs only at H
            have A24 := Aside0.mk A240
            clear A240
            have H' := Aside0.mk H
            clear H
            go_wp2_with (first | ((with_reducible refine gate_callee (f := 23) rfl ?_); refine goesL_ (some 54) rfl rfl Try.func23 (by kernel_rfl) rfl #[.pointer (some ⟨g365, 0, none⟩)] rfl mt ?_; (with_reducible refine (impl_reader_number.calls kj10 g365 x366000_1 x366001_1 t378 t379 t380 w _ ?side1 ?side2 A22.out).mono ?_); (case side1 => repeat (first | (with_reducible first | exact HI365.out | apply IsS51.alloc | apply IsS51.drewN | apply IsS51.drew | apply IsS51.set_0 | apply IsS51.set_1) | exact HI365.out)); (case side2 => repeat (first | (with_reducible first | exact HB.out | apply below_alloc | apply pw_below_drewN | apply below_drew1 | refine below_set ?_ (IsS51.ge HI365.out)) | exact HB.out)); rintro e w25 ⟨rfl, hi, hb, hk⟩; refine ⟨_, rfl, ?_⟩; have n0_ := Aside0.mk (Kd.R_mono (Kd.R_keep (IsS51.apart (show IsS51 w _ g365 x366000_1 x366001_1 from iz HI365) (by refine rs ?_; exact HO_5.out) (by decide)) hk (fun _ h => h.2)) (fun _ h => h.1)); have n1_ := Aside0.mk (hb); have n2_ := Aside0.mk (hi); clear HO_5; clear HB; clear HI365; have HO_5 := n0_; have HB := n1_; have HI365 := n2_; clear n0_ n1_ n2_; (try clear hb); (try clear hb2); (try clear hk); (try clear hi)) | ((with_reducible refine gate_builtin (b := .append) (xs := #[.tmp 50, .tmp 56]) rfl ?_); at_builtin; refine Kd.R_append k72 (w0 := w) w.heap.size rfl (.tmp 50) (.tmp 56) 27 72 (.agg #[(.int .i64 0), (.string ⟨#[]⟩), (.int .i64 0), (.int .i64 0)]) 40 rfl Try.underlying27 info72 rfl (by decide) (by omega) (.slice Ao12 x5_1.length co12) x5_1 (⟨1, (⟨#[]⟩ : ByteArray), t378, wrap64 (Int.tdiv x6_1 2)⟩ : S72) [.int .i64 1, .string (⟨#[]⟩ : ByteArray), .int .i64 t378, .int .i64 (wrap64 (Int.tdiv x6_1 2))] (fun _ => True) (fun _ => False) rfl rfl ?aP (fun _ hk => hk.elim) ?aF ?aO ?aB ?aS ?aL ?_; (case aP => exact k72_mkM _ _ _ (⟨1, (⟨#[]⟩ : ByteArray), t378, wrap64 (Int.tdiv x6_1 2)⟩ : S72)); (case aB => exact bz); (case aF => exact (fun _ _ => trivial)); (case aO => exact (by refine rs ?_; exact HO_5.out)); (case aS => exact (below_size bz)); (case aL => have := LMc23.out; omega); intro v382 w26 ho hb hg hat; rw [← Ny381.out] at ho; have n0_ := Aside0.mk (IsS51.grown (iz HI365) hg (IsS51.own_ne HI365.out HO_5.out (by decide))); have n1_ := Aside0.mk (hb); have n2_ := Aside0.mk (ho); clear HI365; clear HB; clear HO_5; have HI365 := n0_; have HB := n1_; have HO383 := n2_; clear n0_ n1_ n2_; clear ho hb hg hat) | ((with_reducible refine gate_callee (f := 23) rfl ?_); refine goesL_ (some 24) rfl rfl Try.func23 (by kernel_rfl) rfl #[.pointer (some ⟨g365, 0, none⟩)] rfl mt ?_; (with_reducible refine (impl_reader_number.calls kj10 g365 t379 t380 t384 t385 t386 w _ ?side1 ?side2 A24.out).mono ?_); (case side1 => repeat (first | (with_reducible first | exact HI365.out | apply IsS51.alloc | apply IsS51.drewN | apply IsS51.drew | apply IsS51.set_0 | apply IsS51.set_1) | exact HI365.out)); (case side2 => repeat (first | (with_reducible first | exact HB.out | apply below_alloc | apply pw_below_drewN | apply below_drew1 | refine below_set ?_ (IsS51.ge HI365.out)) | exact HB.out)); rintro e w27 ⟨rfl, hi, hb, hk⟩; refine ⟨_, rfl, ?_⟩; have n0_ := Aside0.mk (Kd.R_mono (Kd.R_keep (IsS51.apart (show IsS51 w _ g365 t379 t380 from iz HI365) (by refine rs ?_; exact HO383.out) (by decide)) hk (fun _ h => h.2)) (fun _ h => h.1)); have n1_ := Aside0.mk (hb); have n2_ := Aside0.mk (hi); clear HO383; clear HB; clear HI365; have HO383 := n0_; have HB := n1_; have HI365 := n2_; clear n0_ n1_ n2_; (try clear hb); (try clear hb2); (try clear hk); (try clear hi)))
            go_roundg kj10
            case measure => have := HK1.out; have := HJ4.out; have := HJ10.out; omega
            case rel => exact ⟨(y381), (t384), (t385), (t386), sd, H', ⟨by have := HK1.out; have := HJ4.out; have := HJ10.out; omega⟩, ⟨by refine rs ?_; exact HO383.out⟩, ⟨iz HI365⟩, ⟨bz⟩⟩
           ·rw [if_neg c23] at H
            exact absurd H (by simp)
          ·rw [if_neg c21] at H
           have c21b0 : ((Int.tmod x6_1 2) == 1) = false := beq_eq_false_iff_ne.mpr c21
           have c21b1 : ((Int.tmod x6_1 2) != 1) = true := bne_iff_ne.mpr c21
           simp only [Option.some.injEq, Prod.mk.injEq] at H
           obtain ⟨rfl, rfl⟩ := H
           go_wp2
           go_ret2
           exact ⟨_, rq, nz, bz⟩
     ·replace c8 := Bool.eq_false_iff.mpr c8
      subst c8
      have H1 : ((impl_tokensText.f x5_1).bind fun bt387 => (if x366001_1 = true then (impl_readTokens.j3 kj4 x5_1 true) else (if bt387.2 = true then (impl_readTokens.j3 kj4 x5_1 (bt387.1.toList != a0.toList)) else (impl_readTokens.j3 kj4 x5_1 true)))) = some (r1, r2) := by rw [if_neg (show ¬ (false = true) by decide)] at H; exact H
      clear H
      have H := H1
      clear H1
      replace H := Option.bind_eq_some_iff.mp H
      obtain ⟨⟨t387, t388⟩, A280, H⟩ := H
      try dsimp -simprocs only at H
      have A28 := Aside0.mk A280
      clear A280
      have HC29 := Aside0.mk H
      clear H
      obtain ⟨Ao30, co30, eo30⟩ := Kd.R_slice HO_5.out
      subst eo30
      go_upto_region 14 with (first | ((with_reducible refine gate_callee (f := 42) rfl ?_); refine goesL_ (some 60) rfl rfl Try.func42 (by kernel_rfl) rfl #[.slice Ao30 x5_1.length co30] rfl mt ?_; (with_reducible refine (impl_tokensText.calls _ _ x5_1 t387 t388 _ ?side1 ?side2 A28.out).mono ?_); (case side1 => repeat (first | exact (Kd.R_reads' HO_5.out).2.2 | (with_reducible refine Kd.C_alloc ?_ _) | (with_reducible refine Kd.C_drewN ?_ _) | (with_reducible refine Kd.C_drew ?_))); (case side2 => exact (Kd.R_reads' HO_5.out).2.1); rintro e w31 ⟨rfl, hb⟩; refine ⟨_, rfl, ?_⟩; have n0_ := Aside0.mk (Kd.R_below (by refine rs ?_; exact HO_5.out) hb); have n1_ := Aside0.mk (IsS51.below (iz HI365) hb); have n2_ := Aside0.mk (below_step bz hb); clear HO_5; clear HI365; clear HB; have HO_5 := n0_; have HI365 := n1_; have HB := n2_; clear n0_ n1_ n2_; (try clear hb); (try clear hb2); (try clear hk); (try clear hi)))
      (try simp only [Act.put, List.setIfInBounds_toArray, List.set_cons_zero, List.set_cons_succ])
      go_cut [75] (fun v75 wc => ∃ (kq : Nat) (x75_28 : Bool), v75 = .bool x75_28 ∧ Aside0 (impl_readTokens.j3 kq x5_1 x75_28 = some (r1, r2)) ∧ Aside0 (kq ≤ kj4) ∧ Aside0 (Kd.R k72 72 wc w.heap.size (fun _ => True) (.slice Ao30 x5_1.length co30) x5_1) ∧ Aside0 (Below w.heap.size w wc))
      case first =>
       have H := HC29.out
       clear HC29
       by_cases c32 : x366001_1 = true
       ·subst c32
        have H1 : (impl_readTokens.j3 kj4 x5_1 true) = some (r1, r2) := by rw [if_pos rfl] at H; exact H
        clear H
        have H := H1
        clear H1
        have H' := Aside0.mk H
        clear H
        obtain ⟨HGz33, hgz33⟩ := HI365.out
        have hcz33_0 := cellS51_0 HGz33
        have hcz33_1 := cellS51_1 HGz33
        have hfz33_0 := blk_frozen HGz33 0
        have hfz33_1 := blk_frozen HGz33 1
        clear HGz33 hgz33
        go_wp2
        go_meet
        case rel => exact ⟨_, (true), sd, H', ⟨by have := HK1.out; have := HJ4.out; first | omega | exact Nat.le_refl _⟩, ⟨by refine rs ?_; exact HO_5.out⟩, ⟨bz⟩⟩
       ·replace c32 := Bool.eq_false_iff.mpr c32
        subst c32
        have H1 : (if t388 = true then (impl_readTokens.j3 kj4 x5_1 (t387.toList != a0.toList)) else (impl_readTokens.j3 kj4 x5_1 true)) = some (r1, r2) := by rw [if_neg (show ¬ (false = true) by decide)] at H; exact H
        clear H
        have H := H1
        clear H1
        by_cases c34 : t388 = true
        ·subst c34
         have H1 : (impl_readTokens.j3 kj4 x5_1 (t387.toList != a0.toList)) = some (r1, r2) := by rw [if_pos rfl] at H; exact H
         clear H
         have H := H1
         clear H1
         have H' := Aside0.mk H
         clear H
         obtain ⟨HGz35, hgz35⟩ := HI365.out
         have hcz35_0 := cellS51_0 HGz35
         have hcz35_1 := cellS51_1 HGz35
         have hfz35_0 := blk_frozen HGz35 0
         have hfz35_1 := blk_frozen HGz35 1
         clear HGz35 hgz35
         go_wp2
         go_meet
         case rel => exact ⟨_, ((t387.toList != a0.toList)), sd, H', ⟨by have := HK1.out; have := HJ4.out; first | omega | exact Nat.le_refl _⟩, ⟨by refine rs ?_; exact HO_5.out⟩, ⟨bz⟩⟩
        ·replace c34 := Bool.eq_false_iff.mpr c34
         subst c34
         have H1 : (impl_readTokens.j3 kj4 x5_1 true) = some (r1, r2) := by rw [if_neg (show ¬ (false = true) by decide)] at H; exact H
         clear H
         have H := H1
         clear H1
         have H' := Aside0.mk H
         clear H
         obtain ⟨HGz36, hgz36⟩ := HI365.out
         have hcz36_0 := cellS51_0 HGz36
         have hcz36_1 := cellS51_1 HGz36
         have hfz36_0 := blk_frozen HGz36 0
         have hfz36_1 := blk_frozen HGz36 1
         clear HGz36 hgz36
         go_wp2
         go_meet
         case rel => exact ⟨_, (true), sd, H', ⟨by have := HK1.out; have := HJ4.out; first | omega | exact Nat.le_refl _⟩, ⟨by refine rs ?_; exact HO_5.out⟩, ⟨bz⟩⟩
      case rest =>
       clear HC29
       try clear c1
       try clear c2
       try clear p2
       try clear c3
       try clear c4
       try clear c6
       try clear c6b0
       try clear p6
       try clear c8
       try clear c9
       try clear c9b0
       try clear c9b1
       try clear c13
       try clear c13b0
       try clear c13b1
       try clear c14
       try clear c16
       try clear c21
       try clear c21b0
       try clear c21b1
       try clear c23
       try clear c25
       try clear c26
       try clear c32
       try clear c34
       try clear hcz33_0 hcz33_1 hfz33_0 hfz33_1
       try clear hcz35_0 hcz35_1 hfz35_0 hfz35_1
       try clear hcz36_0 hcz36_1 hfz36_0 hfz36_1
       try clear hcz7_0 hcz7_1 hfz7_0 hfz7_1
       try clear p2
       try clear p6
       obtain ⟨kq, x75_28, rfl, HA, HJ28, HO_5, HB⟩ := hcut
       cases kq with
       | zero => exact absurd HA.out (by simp [impl_readTokens.j3])
       | succ kj28 =>
        have H := HA.out
        clear HA
        simp only [impl_readTokens.j3] at H
        by_cases c37 : x75_28 = true
        ·subst c37
         have H1 : (some (([] : List (S72)), false)) = some (r1, r2) := by rw [if_pos rfl] at H; exact H
         clear H
         have H := H1
         clear H1
         simp only [Option.some.injEq, Prod.mk.injEq] at H
         obtain ⟨rfl, rfl⟩ := H
         go_wp2
         go_ret2
         exact ⟨_, rq, nz, bz⟩
        ·replace c37 := Bool.eq_false_iff.mpr c37
         subst c37
         have H1 : (some (x5_1, true)) = some (r1, r2) := by rw [if_neg (show ¬ (false = true) by decide)] at H; exact H
         clear H
         have H := H1
         clear H1
         simp only [Option.some.injEq, Prod.mk.injEq] at H
         obtain ⟨rfl, rfl⟩ := H
         go_wp2
         go_ret2
         exact ⟨_, rq, by refine rs ?_; exact HO_5.out, bz⟩

/-! ### impl_wordText: function 78 -/
def impl_wordText.f (a0 : Int) : Option (ByteArray) := some (strOfNums (([(a0) % 256, (a0 / 256) % 256, (a0 / 65536) % 256, (a0 / 16777216) % 256] : List Int)))
set_option maxHeartbeats 8000000 in
set_option maxRecDepth 100000 in
theorem impl_wordText.calls (a0 : Int) (r : ByteArray) (w : World) (h : impl_wordText.f a0 = some r) :
  Calls Try.prog 78 #[.int .u32 a0] w fun e w' => e = .returned (.string r) ∧ Below w.heap.size w w' := by
 have HB := Aside0.mk (Below.refl w.heap.size w)
 have H : (some (strOfNums (([(a0) % 256, (a0 / 256) % 256, (a0 / 65536) % 256, (a0 / 16777216) % 256] : List Int)))) = some r := h
 clear h
 obtain ⟨y389, hy389⟩ : ∃ y_ : List Int, y_ = (([(a0) % 256, (a0 / 256) % 256, (a0 / 65536) % 256, (a0 / 16777216) % 256] : List Int)) := ⟨_, rfl⟩
 replace H : (some (strOfNums y389)) = some r := by first | (rw [hy389]; with_reducible exact H) | (have H2_ := (Option.bind_some _ _).symm.trans H; rw [hy389]; with_reducible exact H2_) | (have H2_ := (Option.bind_some _ _).symm.trans H; with_reducible exact H2_) | with_reducible exact H | (rw [hy389]; exact H) | exact H
 have Ny389 := Aside0.mk hy389
 clear hy389
 obtain rfl := Option.some.inj H
 go_enter Try.func78, Try.ntmps78
 go_wp2_with (first | ((with_reducible refine gate_dst (N := 14) rfl ?_); refine Kd.R_lit (Kd.int .u8) _ 5 ?hg (N := 14) ?hd (xs := ([(a0) % 256, (a0 / 256) % 256, (a0 / 65536) % 256, (a0 / 16777216) % 256] : List Int)) (inner := [.int .u8 ((a0) % 256), .int .u8 ((a0 / 256) % 256), .int .u8 ((a0 / 65536) % 256), .int .u8 ((a0 / 16777216) % 256)]) (ok := fun _ => True) (okp := fun _ => True) ?hr ?hp (fun _ hk => hk) trivial (Below.refl _ _) (Nat.le_refl _) (by simp) ?_; (case hd => rfl); (case hg => rfl); (case hr => first | (go_simp; done) | (go_simp; rfl)); (case hp => exact (Reps.one (show Kd.M (Kd.int .u8) _ _ _ ((a0) % 256) [.int .u8 ((a0) % 256)] from rfl) (Reps.one (show Kd.M (Kd.int .u8) _ _ _ ((a0 / 256) % 256) [.int .u8 ((a0 / 256) % 256)] from rfl) (Reps.one (show Kd.M (Kd.int .u8) _ _ _ ((a0 / 65536) % 256) [.int .u8 ((a0 / 65536) % 256)] from rfl) (Reps.one (show Kd.M (Kd.int .u8) _ _ _ ((a0 / 16777216) % 256) [.int .u8 ((a0 / 16777216) % 256)] from rfl) (Reps.none _ _)))))); intro v390 w2 ho3 hb hg_ hnew_; clear hg_ hnew_; (first | rw [← Ny389.out] at ho3 | (simp only [Int.reduceToNat] at ho3; rw [← Ny389.out] at ho3)); have n0_ := Aside0.mk (Kd.R_lower ho3 (below_size bz)); have n1_ := Aside0.mk (below_step bz hb); clear HB; have HO391 := n0_; have HB := n1_; clear n0_ n1_; clear hb ho3; have hcv4 := own_string (P := Try.prog) Try.underlying22 Try.underlying5 Try.underlying9 (Kd.own_of_R HO391.out)))
 go_ret
 exact ⟨rq, bz⟩

end Go.Proofs.Ytjiaigjmihmdjaa.PFnExactGetMsg
