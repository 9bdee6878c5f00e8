
/- The machine's side, written by a program of this session (a turned print): each function as a plain Lean function, and that the call comes to it. -/
import Derived.Test.YtjiaigjmihmdjaaPFnExactGetMsgx0
import Derived.Test.YtjiaigjmihmdjaaPFnExactGetMsgx2
import Derived.Test.YtjiaigjmihmdjaaPFnExactGetMsgx3
namespace Go.Proofs.Ytjiaigjmihmdjaa.PFnExactGetMsg
open Go.RowKit Go.Proofs.YtjiaigjmihmdjaaW.PrintWords Go.Proofs.YtjiaigjmihmdjaaW.PrintLast Go.Proofs.YtjiaigjmihmdjaaW.PrintMore
attribute [local go_sem] max2_int min2_int max_two min_two max_three min_three max_four min_four   -- for this text's walks alone
set_option linter.unusedVariables false
set_option linter.unusedSimpArgs false

/-! ### spec_GetTokens: function 22 -/
def spec_GetTokens.l0 : Nat → List Int → List (S72) → Option ((List (S72)) × Bool)
 | 0, _, _ => none
 | k + 1, x0, x4 => (spec_GetVar.f k x0).bind fun bt216 => (if bt216.2 = 0 then (some ((([] : List (S72))), false)) else (if 0 ≤ bt216.2 then (if bt216.2 ≤ (x0.length : Int) then ((some (x0.drop (bt216.2 : Int).toNat : List Int)).bind fun y221 => (if bt216.1 = 0 then (if (y221.length : Int) = 0 then (if (x4.length : Int) > 20000 then (some ((([] : List (S72))), false)) else (some (x4, true))) else (some ((([] : List (S72))), false))) else (if (Int.tmod bt216.1 2) = 0 then (if (wrap64 (Int.tdiv bt216.1 2)) > (y221.length : Int) then (some ((([] : List (S72))), false)) else (if 0 ≤ (wrap64 (Int.tdiv bt216.1 2)) then (if (wrap64 (Int.tdiv bt216.1 2)) ≤ (y221.length : Int) then ((some (y221.take ((wrap64 (Int.tdiv bt216.1 2)) : Int).toNat : List Int)).bind fun y236 => ((spec_TokenOk.f 0 (strOfNums y236) 0 0).bind fun t246 => (if t246 = true then (if x4.length < 3518437208883 then (spec_GetTokens.l0 k (y221.drop ((wrap64 (Int.tdiv bt216.1 2)) : Int).toNat) (x4 ++ [(⟨0, strOfNums y236, 0, 0⟩ : S72)])) else (none)) else (some ((([] : List (S72))), false))))) else (none)) else (none))) else ((spec_GetVar.f k y221).bind fun bt253 => (if bt253.2 = 0 then (some ((([] : List (S72))), false)) else (if 0 ≤ bt253.2 then (if bt253.2 ≤ (y221.length : Int) then ((spec_TokenOk.f 1 (⟨#[]⟩ : ByteArray) bt253.1 (wrap64 (Int.tdiv bt216.1 2))).bind fun t263 => (if t263 = true then (if bt253.1 > 1000000 then (some ((([] : List (S72))), false)) else (if (wrap64 (Int.tdiv bt216.1 2)) > 1000000 then (some ((([] : List (S72))), false)) else (if x4.length < 3518437208883 then (spec_GetTokens.l0 k (y221.drop (bt253.2 : Int).toNat) (x4 ++ [(⟨1, (⟨#[]⟩ : ByteArray), bt253.1, wrap64 (Int.tdiv bt216.1 2)⟩ : S72)])) else (none)))) else (some ((([] : List (S72))), false)))) else (none)) else (none))))))) else (none)) else (none)))
def spec_GetTokens.f (k : Nat) (l0 : List Int) : Option ((List (S72)) × Bool) := spec_GetTokens.l0 k l0 (([] : List (S72)))
theorem spec_GetTokens.mono_l : ∀ k, (∀ y0 y1, LeO (spec_GetTokens.l0 k y0 y1) (spec_GetTokens.l0 (k + 1) y0 y1))
 | 0 => fun _ _ r h => by simp [spec_GetTokens.l0] at h
 | k + 1 => by
  have ih0 := spec_GetTokens.mono_l k
  ·intro y0 y1
   unfold spec_GetTokens.l0
   repeat' first | (with_reducible first | exact ih0 _ _ | exact spec_GetVar.mono _ _ | exact LeO.refl _ | exact LeO.none _ | refine LeO.ite ?_ ?_ | refine LeO.bind ?_ (fun _ => ?_)) | exact ih0 _ _ | exact spec_GetVar.mono _ _ | exact LeO.none _ | refine LeO.ite ?_ ?_ | refine LeO.bind ?_ (fun _ => ?_)
theorem spec_GetTokens.mono : ∀ a0 k, LeO (spec_GetTokens.f k a0) (spec_GetTokens.f (k + 1) a0) := by
 intro a0 k
 have ih0 := spec_GetTokens.mono_l k
 unfold spec_GetTokens.f
 repeat' first | (with_reducible first | exact ih0 _ _ | exact spec_GetVar.mono _ _ | exact LeO.refl _ | exact LeO.none _ | refine LeO.ite ?_ ?_ | refine LeO.bind ?_ (fun _ => ?_)) | exact ih0 _ _ | exact spec_GetVar.mono _ _ | exact LeO.none _ | refine LeO.ite ?_ ?_ | refine LeO.bind ?_ (fun _ => ?_)
set_option maxHeartbeats 8000000 in
set_option maxRecDepth 100000 in
theorem spec_GetTokens.calls (k : Nat) (P0_ : Nat → Prop) (A0 : Option Addr) (c0 : Nat) (l0 : List Int) (r1 : List (S72)) (r2 : Bool) (w : World) (hs0 : Kd.V (Kd.int .u8) 5 w w.heap.size (fun k_ => P0_ k_) (.slice A0 l0.length c0) l0) (h : spec_GetTokens.f k l0 = some (r1, r2)) :
  Calls Try.prog 22 #[.slice A0 l0.length c0] w fun e w' => ∃ v0_ : Value, e = .returned (.tuple #[v0_, .bool r2]) ∧ Kd.R k72 72 w' w.heap.size (fun k_ => (w.heap.size ≤ k_)) v0_ r1 ∧ Below w.heap.size w w' := by
 have hu72 := Try.underlying72
 have HO0 := Aside0.mk (show Kd.V (Kd.int .u8) 5 w w.heap.size (fun k_ => (P0_ k_ ∨ w.heap.size ≤ k_)) (.slice A0 l0.length c0) l0 from Kd.V_mono hs0 (fun k_ hk => .inl hk))
 have HB := Aside0.mk (Below.refl w.heap.size w)
 have H : (spec_GetTokens.l0 k l0 (([] : List (S72)))) = some (r1, r2) := h
 clear h
 obtain ⟨y213, hy213⟩ : ∃ y_ : List (S72), y_ = (([] : List (S72))) := ⟨_, rfl⟩
 replace H : (spec_GetTokens.l0 k l0 y213) = some (r1, r2) := by first | (rw [hy213]; with_reducible exact H) | (have H2_ := (Option.bind_some _ _).symm.trans H; rw [hy213]; with_reducible exact H2_) | (have H2_ := (Option.bind_some _ _).symm.trans H; with_reducible exact H2_) | with_reducible exact H | (rw [hy213]; exact H) | exact H
 have Ny213 := Aside0.mk hy213
 clear hy213
 have H' := Aside0.mk H
 clear H
 go_enter Try.func22, Try.ntmps22
 go_wp2_with (first | ((with_reducible refine gate_dst (N := 10) rfl ?_); (try (refine gate_guard (by rfl) ?_; dsimp only)); refine Kd.R_lit k72 _ 72 ?hg (N := 10) ?hd (xs := ([] : List (S72))) (inner := []) (ok := fun _ => True) (okp := fun _ => True) ?hr ?hp (fun _ hk => hk) trivial (Below.refl _ _) (Nat.le_refl _) (by simp) ?_; (case hd => rfl); (case hg => rfl); (case hr => first | (go_simp; done) | (go_simp; rfl)); (case hp => exact (Reps.none _ _)); intro v214 w2 ho3 hb hg_ hnew_; clear hg_ hnew_; (first | rw [← Ny213.out] at ho3 | (simp only [Int.reduceToNat] at ho3; rw [← Ny213.out] at ho3)); have n0_ := Aside0.mk (Kd.V_elder' (by refine vs ?_; exact HO0.out) (Kd.R_base ho3) hb); have n1_ := Aside0.mk (Kd.R_lower (Kd.R_newM (M := fun k_ => (w.heap.size ≤ k_)) ho3 (below_size bz) (fun k_ h_ => h_)) (below_size bz)); have n2_ := Aside0.mk (below_step bz hb); clear HO0; clear HB; have HO0 := n0_; have HO215 := n1_; have HB := n2_; clear n0_ n1_ n2_; clear hb ho3))
 go_loopg [0, 4] k (fun kq v0 v4 w' => ∃ (x0_1 : List Int) (x4_1 : List (S72)), Aside0 (spec_GetTokens.l0 kq x0_1 x4_1 = some (r1, r2)) ∧ Aside0 (kq ≤ k) ∧ Aside0 (Kd.V (Kd.int .u8) 5 w' w.heap.size (fun k_ => (P0_ k_ ∨ w.heap.size ≤ k_) ∧ some k_ ≠ (v4 : Value).ownBlock) v0 x0_1) ∧ Aside0 (Kd.R k72 72 w' w.heap.size (fun k_ => (w.heap.size ≤ k_)) v4 x4_1) ∧ Aside0 (Below w.heap.size w w'))
 case atStart => exact ⟨(l0), (y213), H', ⟨Nat.le_refl _⟩, ⟨by refine vs ?_; exact HO0.out⟩, ⟨by refine rs ?_; exact Kd.R_mono HO215.out (fun _ hk => hk.1)⟩, ⟨bz⟩⟩
 case round =>
  clear H'
  try clear c2
  try clear p2
  obtain ⟨x0_1, x4_1, HA, HK1, HO_0, HO_4, HB⟩ := hrel
  cases gk with
  | zero => exact absurd HA.out (by simp [spec_GetTokens.l0])
  | succ k1 =>
   have H := HA.out
   clear HA
   simp only [spec_GetTokens.l0] at H
   replace H := Option.bind_eq_some_iff.mp H
   obtain ⟨⟨t216, t217⟩, A40, H⟩ := H
   try dsimp -simprocs only at H
   have A4 := Aside0.mk A40
   clear A40
   have HC5 := Aside0.mk H
   clear H
   obtain ⟨Ao6, co6, eo6⟩ := Kd.V_slice HO_0.out
   subst eo6
   go_upto_if 17 with (first | ((with_reducible refine gate_callee (f := 20) rfl ?_); refine goesL_ (some 13) rfl rfl Try.func20 (by kernel_rfl) rfl #[.slice Ao6 x0_1.length co6] rfl mt ?_; (with_reducible refine (spec_GetVar.calls k1 _ _ x0_1 t216 t217 _ ?side1 ?side2 A4.out).mono ?_); (case side1 => repeat (first | exact (Kd.V_reads' HO_0.out).2.2 | (with_reducible refine Kd.C_alloc ?_ _) | (with_reducible refine Kd.C_drewN ?_ _) | (with_reducible refine Kd.C_drew ?_))); (case side2 => exact (Kd.V_reads' HO_0.out).2.1); rintro e w7 ⟨rfl, hb⟩; refine ⟨_, rfl, ?_⟩; have n0_ := Aside0.mk (Kd.V_below (by refine vs ?_; exact HO_0.out) hb); have n1_ := Aside0.mk (Kd.R_below (by refine rs ?_; exact HO_4.out) hb); have n2_ := Aside0.mk (below_step bz hb); clear HO_0; clear HO_4; clear HB; have HO_0 := n0_; have HO_4 := n1_; have HB := n2_; clear n0_ n1_ n2_; (try clear hb); (try clear hb2); (try clear hk); (try clear hi)))
   (try simp only [Act.put, List.setIfInBounds_toArray, List.set_cons_zero, List.set_cons_succ])
   have H := HC5.out
   clear HC5
   by_cases c8 : t217 = 0
   ·rw [if_pos c8] at H
    have c8b0 : (t217 == 0) = true := beq_iff_eq.mpr c8
    have c8b1 : (t217 != 0) = false := bne_eq_false_iff_eq.mpr c8
    clear c8
    (first | rw [c8b0] | (simp only [i64_w, i32_w]; rw [c8b0]) | skip)
    obtain ⟨y218, hy218⟩ : ∃ y_ : List (S72), y_ = (([] : List (S72))) := ⟨_, rfl⟩
    replace H : (some (y218, false)) = some (r1, r2) := by first | (rw [hy218]; with_reducible exact H) | (have H2_ := (Option.bind_some _ _).symm.trans H; rw [hy218]; with_reducible exact H2_) | (have H2_ := (Option.bind_some _ _).symm.trans H; with_reducible exact H2_) | with_reducible exact H | (rw [hy218]; exact H) | exact H
    have Ny218 := Aside0.mk hy218
    clear hy218
    simp only [Option.some.injEq, Prod.mk.injEq] at H
    obtain ⟨rfl, rfl⟩ := H
    go_wp2_with (first | ((with_reducible refine gate_dst (N := 18) rfl ?_); (try (refine gate_guard (by rfl) ?_; dsimp only)); refine Kd.R_lit k72 _ 72 ?hg (N := 18) ?hd (xs := ([] : List (S72))) (inner := []) (ok := fun _ => True) (okp := fun _ => True) ?hr ?hp (fun _ hk => hk) trivial (Below.refl _ _) (Nat.le_refl _) (by simp) ?_; (case hd => rfl); (case hg => rfl); (case hr => first | (go_simp; done) | (go_simp; rfl)); (case hp => exact (Reps.none _ _)); intro v219 w9 ho10 hb hg_ hnew_; clear hg_ hnew_; (first | rw [← Ny218.out] at ho10 | (simp only [Int.reduceToNat] at ho10; rw [← Ny218.out] at ho10)); have n0_ := Aside0.mk (Kd.V_elder' (by refine vs ?_; exact HO_0.out) (Kd.R_base ho10) hb); have n1_ := Aside0.mk (Kd.R_elder' (by refine rs ?_; exact HO_4.out) (Kd.R_base ho10) hb); have n2_ := Aside0.mk (Kd.R_lower (Kd.R_new' (Kd.R_newM (M := fun k_ => (w.heap.size ≤ k_)) ho10 (below_size bz) (fun k_ h_ => h_)) (Kd.R_lt (by refine rs ?_; exact HO_4.out))) (below_size bz)); have n3_ := Aside0.mk (below_step bz hb); clear HO_0; clear HO_4; clear HB; have HO_0 := n0_; have HO_4 := n1_; have HO220 := n2_; have HB := n3_; clear n0_ n1_ n2_ n3_; clear hb ho10))
    go_ret2
    exact ⟨_, rq, by refine rs ?_; exact Kd.R_mono HO220.out (fun _ hk => hk.1.1), bz⟩
   ·rw [if_neg c8] at H
    have c8b0 : (t217 == 0) = false := beq_eq_false_iff_ne.mpr c8
    have c8b1 : (t217 != 0) = true := bne_iff_ne.mpr c8
    (first | rw [c8b0] | (simp only [i64_w, i32_w]; rw [c8b0]) | skip)
    by_cases c11 : 0 ≤ t217
    ·rw [if_pos c11] at H
     have c11b0 := eq_true c11
     have c11b1 : decide (0 ≤ t217) = true := decide_eq_true c11
     clear c11
     by_cases c12 : t217 ≤ (x0_1.length : Int)
     ·rw [if_pos c12] at H
      have c12b0 := eq_true c12
      have c12b1 : decide (t217 ≤ (x0_1.length : Int)) = true := decide_eq_true c12
      clear c12
      obtain ⟨y221, hy221⟩ : ∃ y_ : List Int, y_ = (x0_1.drop (t217 : Int).toNat) := ⟨_, rfl⟩
      replace H : (if t216 = 0 then (if (y221.length : Int) = 0 then (if (x4_1.length : Int) > 20000 then (some ((([] : List (S72))), false)) else (some (x4_1, true))) else (some ((([] : List (S72))), false))) else (if (Int.tmod t216 2) = 0 then (if (wrap64 (Int.tdiv t216 2)) > (y221.length : Int) then (some ((([] : List (S72))), false)) else (if 0 ≤ (wrap64 (Int.tdiv t216 2)) then (if (wrap64 (Int.tdiv t216 2)) ≤ (y221.length : Int) then ((some (y221.take ((wrap64 (Int.tdiv t216 2)) : Int).toNat : List Int)).bind fun y236 => ((spec_TokenOk.f 0 (strOfNums y236) 0 0).bind fun t246 => (if t246 = true then (if x4_1.length < 3518437208883 then (spec_GetTokens.l0 k1 (y221.drop ((wrap64 (Int.tdiv t216 2)) : Int).toNat) (x4_1 ++ [(⟨0, strOfNums y236, 0, 0⟩ : S72)])) else (none)) else (some ((([] : List (S72))), false))))) else (none)) else (none))) else ((spec_GetVar.f k1 y221).bind fun bt253 => (if bt253.2 = 0 then (some ((([] : List (S72))), false)) else (if 0 ≤ bt253.2 then (if bt253.2 ≤ (y221.length : Int) then ((spec_TokenOk.f 1 (⟨#[]⟩ : ByteArray) bt253.1 (wrap64 (Int.tdiv t216 2))).bind fun t263 => (if t263 = true then (if bt253.1 > 1000000 then (some ((([] : List (S72))), false)) else (if (wrap64 (Int.tdiv t216 2)) > 1000000 then (some ((([] : List (S72))), false)) else (if x4_1.length < 3518437208883 then (spec_GetTokens.l0 k1 (y221.drop (bt253.2 : Int).toNat) (x4_1 ++ [(⟨1, (⟨#[]⟩ : ByteArray), bt253.1, wrap64 (Int.tdiv t216 2)⟩ : S72)])) else (none)))) else (some ((([] : List (S72))), false)))) else (none)) else (none)))))) = some (r1, r2) := by first | (rw [hy221]; with_reducible exact H) | (have H2_ := (Option.bind_some _ _).symm.trans H; rw [hy221]; with_reducible exact H2_) | (have H2_ := (Option.bind_some _ _).symm.trans H; with_reducible exact H2_) | with_reducible exact H | (rw [hy221]; exact H) | exact H
      have Ny221 := Aside0.mk hy221
      clear hy221
      by_cases c13 : t216 = 0
      ·rw [if_pos c13] at H
       have c13b0 : (t216 == 0) = true := beq_iff_eq.mpr c13
       have c13b1 : (t216 != 0) = false := bne_eq_false_iff_eq.mpr c13
       clear c13
       by_cases c14 : (y221.length : Int) = 0
       ·rw [if_pos c14] at H
        have c14b0 : ((y221.length : Int) == 0) = true := beq_iff_eq.mpr c14
        have c14b1 : ((y221.length : Int) != 0) = false := bne_eq_false_iff_eq.mpr c14
        clear c14
        by_cases c15 : (x4_1.length : Int) > 20000
        ·rw [if_pos c15] at H
         have c15b0 : decide (20000 < (x4_1.length : Int)) = true := decide_eq_true c15
         have c15b1 : decide (20000 < x4_1.length) = true := decide_eq_true (by omega)
         clear c15
         obtain ⟨y226, hy226⟩ : ∃ y_ : List (S72), y_ = (([] : List (S72))) := ⟨_, rfl⟩
         replace H : (some (y226, false)) = some (r1, r2) := by first | (rw [hy226]; with_reducible exact H) | (have H2_ := (Option.bind_some _ _).symm.trans H; rw [hy226]; with_reducible exact H2_) | (have H2_ := (Option.bind_some _ _).symm.trans H; with_reducible exact H2_) | with_reducible exact H | (rw [hy226]; exact H) | exact H
         have Ny226 := Aside0.mk hy226
         clear hy226
         simp only [Option.some.injEq, Prod.mk.injEq] at H
         obtain ⟨rfl, rfl⟩ := H
         have q16 : (t217 : Int) ≤ ((x0_1.length : Int) : Int) := of_decide_eq_true am
         obtain ⟨i016, hi016, _, hsz16, _⟩ := info_parts info5
         have hroom16 : x0_1.length ≤ co6 := (Kd.V_reads' HO_0.out).2.1
         have hC16 : Kd.F (Kd.int .u8) _ _ Ao6 x0_1.length x0_1 := (Kd.V_at (base := w.heap.size) HO_0.out).2.2
         have q016 : (0 : Int) ≤ (t217 : Int) := of_decide_eq_true am
         have hcut16 := cut_from (P := Try.prog) 22 5 .i64 Try.underlying22 hi016 1 hsz16 Ao6 x0_1.length co6 t217 q016 q16
         have hr16 := Kd.F_cut (m := (t217 : Int).toNat) (c := co6) hC16 (by omega) hroom16
         obtain ⟨A16, hA16⟩ : ∃ A1, A1 = (if co6 = (t217 : Int).toNat then Ao6 else (Ao6 : Option Addr).map (·.add ((t217 : Int).toNat * 1))) := ⟨_, rfl⟩
         obtain ⟨c16, hc16⟩ : ∃ c1, c1 = co6 - (t217 : Int).toNat := ⟨_, rfl⟩
         have hy16 : y221.length = x0_1.length - (t217 : Int).toNat := (by rw [Ny221.out, List.length_drop] <;> omega)
         rw [show (x0_1).drop (t217 : Int).toNat = y221 from Ny221.out.symm] at hr16
         replace hr16 : Kd.F (Kd.int .u8) _ _ A16 y221.length y221 := (by rw [hA16]; exact hr16)
         rw [← hy16, ← hA16, ← hc16] at hcut16
         have HO225 := Aside0.mk (show Kd.V (Kd.int .u8) 5 _ w.heap.size _ (.slice A16 y221.length c16) y221 from Kd.V_mk (by rw [hy16, hc16]; exact Nat.sub_le_sub_right hroom16 _) hr16)
         have HC225 := Aside0.mk (show y221.length ≤ c16 from by rw [hy16, hc16]; exact Nat.sub_le_sub_right hroom16 _)
         clear hr16 hC16 hroom16 hi016 hsz16 hc16
         have KY16 := Aside0.mk hy16
         have KA16 := Aside0.mk hA16
         clear hy16 hA16
         replace q16 := eq_true q16
         obtain ⟨Ao17, co17, eo17⟩ := Kd.R_slice HO_4.out
         subst eo17
         go_wp2_with (first | ((with_reducible refine gate_dst (N := 32) rfl ?_); (try (refine gate_guard (by rfl) ?_; dsimp only)); refine Kd.R_lit k72 _ 72 ?hg (N := 32) ?hd (xs := ([] : List (S72))) (inner := []) (ok := fun _ => True) (okp := fun _ => True) ?hr ?hp (fun _ hk => hk) trivial (Below.refl _ _) (Nat.le_refl _) (by simp) ?_; (case hd => rfl); (case hg => rfl); (case hr => first | (go_simp; done) | (go_simp; rfl)); (case hp => exact (Reps.none _ _)); intro v227 w18 ho19 hb hg_ hnew_; clear hg_ hnew_; (first | rw [← Ny226.out] at ho19 | (simp only [Int.reduceToNat] at ho19; rw [← Ny226.out] at ho19)); have n0_ := Aside0.mk (Kd.V_elder' (by refine vs ?_; exact HO_0.out) (Kd.R_base ho19) hb); have n1_ := Aside0.mk (Kd.R_elder' (by refine rs ?_; exact HO_4.out) (Kd.R_base ho19) hb); have n2_ := Aside0.mk (Kd.V_elder' (by refine vs ?_; exact HO225.out) (Kd.R_base ho19) hb); have n3_ := Aside0.mk (Kd.R_lower (Kd.R_new' (Kd.R_newM (M := fun k_ => (w.heap.size ≤ k_)) ho19 (below_size bz) (fun k_ h_ => h_)) (Kd.R_lt (by refine rs ?_; exact HO_4.out))) (below_size bz)); have n4_ := Aside0.mk (below_step bz hb); clear HO_0; clear HO_4; clear HO225; clear HB; have HO_0 := n0_; have HO_4 := n1_; have HO225 := n2_; have HO228 := n3_; have HB := n4_; clear n0_ n1_ n2_ n3_ n4_; clear hb ho19))
         go_ret2
         exact ⟨_, rq, by refine rs ?_; exact Kd.R_mono HO228.out (fun _ hk => hk.1.1), bz⟩
        ·rw [if_neg c15] at H
         have c15b0 : decide (20000 < (x4_1.length : Int)) = false := decide_eq_false c15
         have c15b1 : decide (20000 < x4_1.length) = false := decide_eq_false (by omega)
         clear c15
         simp only [Option.some.injEq, Prod.mk.injEq] at H
         obtain ⟨rfl, rfl⟩ := H
         have q20 : (t217 : Int) ≤ ((x0_1.length : Int) : Int) := of_decide_eq_true am
         obtain ⟨i020, hi020, _, hsz20, _⟩ := info_parts info5
         have hroom20 : x0_1.length ≤ co6 := (Kd.V_reads' HO_0.out).2.1
         have hC20 : Kd.F (Kd.int .u8) _ _ Ao6 x0_1.length x0_1 := (Kd.V_at (base := w.heap.size) HO_0.out).2.2
         have q020 : (0 : Int) ≤ (t217 : Int) := of_decide_eq_true am
         have hcut20 := cut_from (P := Try.prog) 22 5 .i64 Try.underlying22 hi020 1 hsz20 Ao6 x0_1.length co6 t217 q020 q20
         have hr20 := Kd.F_cut (m := (t217 : Int).toNat) (c := co6) hC20 (by omega) hroom20
         obtain ⟨A20, hA20⟩ : ∃ A1, A1 = (if co6 = (t217 : Int).toNat then Ao6 else (Ao6 : Option Addr).map (·.add ((t217 : Int).toNat * 1))) := ⟨_, rfl⟩
         obtain ⟨c20, hc20⟩ : ∃ c1, c1 = co6 - (t217 : Int).toNat := ⟨_, rfl⟩
         have hy20 : y221.length = x0_1.length - (t217 : Int).toNat := (by rw [Ny221.out, List.length_drop] <;> omega)
         rw [show (x0_1).drop (t217 : Int).toNat = y221 from Ny221.out.symm] at hr20
         replace hr20 : Kd.F (Kd.int .u8) _ _ A20 y221.length y221 := (by rw [hA20]; exact hr20)
         rw [← hy20, ← hA20, ← hc20] at hcut20
         have HO225 := Aside0.mk (show Kd.V (Kd.int .u8) 5 _ w.heap.size _ (.slice A20 y221.length c20) y221 from Kd.V_mk (by rw [hy20, hc20]; exact Nat.sub_le_sub_right hroom20 _) hr20)
         have HC225 := Aside0.mk (show y221.length ≤ c20 from by rw [hy20, hc20]; exact Nat.sub_le_sub_right hroom20 _)
         clear hr20 hC20 hroom20 hi020 hsz20 hc20
         have KY20 := Aside0.mk hy20
         have KA20 := Aside0.mk hA20
         clear hy20 hA20
         replace q20 := eq_true q20
         obtain ⟨Ao21, co21, eo21⟩ := Kd.R_slice HO_4.out
         subst eo21
         go_wp2
         go_ret2
         exact ⟨_, rq, by refine rs ?_; exact HO_4.out, bz⟩
       ·rw [if_neg c14] at H
        have c14b0 : ((y221.length : Int) == 0) = false := beq_eq_false_iff_ne.mpr c14
        have c14b1 : ((y221.length : Int) != 0) = true := bne_iff_ne.mpr c14
        have c14b2 : ¬ (y221 = []) := fun h_ => c14 (by rw [h_]; rfl)
        obtain ⟨y229, hy229⟩ : ∃ y_ : List (S72), y_ = (([] : List (S72))) := ⟨_, rfl⟩
        replace H : (some (y229, false)) = some (r1, r2) := by first | (rw [hy229]; with_reducible exact H) | (have H2_ := (Option.bind_some _ _).symm.trans H; rw [hy229]; with_reducible exact H2_) | (have H2_ := (Option.bind_some _ _).symm.trans H; with_reducible exact H2_) | with_reducible exact H | (rw [hy229]; exact H) | exact H
        have Ny229 := Aside0.mk hy229
        clear hy229
        simp only [Option.some.injEq, Prod.mk.injEq] at H
        obtain ⟨rfl, rfl⟩ := H
        have q22 : (t217 : Int) ≤ ((x0_1.length : Int) : Int) := of_decide_eq_true am
        obtain ⟨i022, hi022, _, hsz22, _⟩ := info_parts info5
        have hroom22 : x0_1.length ≤ co6 := (Kd.V_reads' HO_0.out).2.1
        have hC22 : Kd.F (Kd.int .u8) _ _ Ao6 x0_1.length x0_1 := (Kd.V_at (base := w.heap.size) HO_0.out).2.2
        have q022 : (0 : Int) ≤ (t217 : Int) := of_decide_eq_true am
        have hcut22 := cut_from (P := Try.prog) 22 5 .i64 Try.underlying22 hi022 1 hsz22 Ao6 x0_1.length co6 t217 q022 q22
        have hr22 := Kd.F_cut (m := (t217 : Int).toNat) (c := co6) hC22 (by omega) hroom22
        obtain ⟨A22, hA22⟩ : ∃ A1, A1 = (if co6 = (t217 : Int).toNat then Ao6 else (Ao6 : Option Addr).map (·.add ((t217 : Int).toNat * 1))) := ⟨_, rfl⟩
        obtain ⟨c22, hc22⟩ : ∃ c1, c1 = co6 - (t217 : Int).toNat := ⟨_, rfl⟩
        have hy22 : y221.length = x0_1.length - (t217 : Int).toNat := (by rw [Ny221.out, List.length_drop] <;> omega)
        rw [show (x0_1).drop (t217 : Int).toNat = y221 from Ny221.out.symm] at hr22
        replace hr22 : Kd.F (Kd.int .u8) _ _ A22 y221.length y221 := (by rw [hA22]; exact hr22)
        rw [← hy22, ← hA22, ← hc22] at hcut22
        have HO225 := Aside0.mk (show Kd.V (Kd.int .u8) 5 _ w.heap.size _ (.slice A22 y221.length c22) y221 from Kd.V_mk (by rw [hy22, hc22]; exact Nat.sub_le_sub_right hroom22 _) hr22)
        have HC225 := Aside0.mk (show y221.length ≤ c22 from by rw [hy22, hc22]; exact Nat.sub_le_sub_right hroom22 _)
        clear hr22 hC22 hroom22 hi022 hsz22 hc22
        have KY22 := Aside0.mk hy22
        have KA22 := Aside0.mk hA22
        clear hy22 hA22
        replace q22 := eq_true q22
        go_wp2_with (first | ((with_reducible refine gate_dst (N := 32) rfl ?_); (try (refine gate_guard (by rfl) ?_; dsimp only)); refine Kd.R_lit k72 _ 72 ?hg (N := 32) ?hd (xs := ([] : List (S72))) (inner := []) (ok := fun _ => True) (okp := fun _ => True) ?hr ?hp (fun _ hk => hk) trivial (Below.refl _ _) (Nat.le_refl _) (by simp) ?_; (case hd => rfl); (case hg => rfl); (case hr => first | (go_simp; done) | (go_simp; rfl)); (case hp => exact (Reps.none _ _)); intro v230 w23 ho24 hb hg_ hnew_; clear hg_ hnew_; (first | rw [← Ny229.out] at ho24 | (simp only [Int.reduceToNat] at ho24; rw [← Ny229.out] at ho24)); have n0_ := Aside0.mk (Kd.V_elder' (by refine vs ?_; exact HO_0.out) (Kd.R_base ho24) hb); have n1_ := Aside0.mk (Kd.R_elder' (by refine rs ?_; exact HO_4.out) (Kd.R_base ho24) hb); have n2_ := Aside0.mk (Kd.V_elder' (by refine vs ?_; exact HO225.out) (Kd.R_base ho24) hb); have n3_ := Aside0.mk (Kd.R_lower (Kd.R_new' (Kd.R_newM (M := fun k_ => (w.heap.size ≤ k_)) ho24 (below_size bz) (fun k_ h_ => h_)) (Kd.R_lt (by refine rs ?_; exact HO_4.out))) (below_size bz)); have n4_ := Aside0.mk (below_step bz hb); clear HO_0; clear HO_4; clear HO225; clear HB; have HO_0 := n0_; have HO_4 := n1_; have HO225 := n2_; have HO231 := n3_; have HB := n4_; clear n0_ n1_ n2_ n3_ n4_; clear hb ho24))
        go_ret2
        exact ⟨_, rq, by refine rs ?_; exact Kd.R_mono HO231.out (fun _ hk => hk.1.1), bz⟩
      ·rw [if_neg c13] at H
       have c13b0 : (t216 == 0) = false := beq_eq_false_iff_ne.mpr c13
       have c13b1 : (t216 != 0) = true := bne_iff_ne.mpr c13
       have HC25 := Aside0.mk H
       clear H
       have q26 : (t217 : Int) ≤ ((x0_1.length : Int) : Int) := of_decide_eq_true am
       obtain ⟨i026, hi026, _, hsz26, _⟩ := info_parts info5
       have hroom26 : x0_1.length ≤ co6 := (Kd.V_reads' HO_0.out).2.1
       have hC26 : Kd.F (Kd.int .u8) _ _ Ao6 x0_1.length x0_1 := (Kd.V_at (base := w.heap.size) HO_0.out).2.2
       have q026 : (0 : Int) ≤ (t217 : Int) := of_decide_eq_true am
       have hcut26 := cut_from (P := Try.prog) 22 5 .i64 Try.underlying22 hi026 1 hsz26 Ao6 x0_1.length co6 t217 q026 q26
       have hr26 := Kd.F_cut (m := (t217 : Int).toNat) (c := co6) hC26 (by omega) hroom26
       obtain ⟨A26, hA26⟩ : ∃ A1, A1 = (if co6 = (t217 : Int).toNat then Ao6 else (Ao6 : Option Addr).map (·.add ((t217 : Int).toNat * 1))) := ⟨_, rfl⟩
       obtain ⟨c26, hc26⟩ : ∃ c1, c1 = co6 - (t217 : Int).toNat := ⟨_, rfl⟩
       have hy26 : y221.length = x0_1.length - (t217 : Int).toNat := (by rw [Ny221.out, List.length_drop] <;> omega)
       rw [show (x0_1).drop (t217 : Int).toNat = y221 from Ny221.out.symm] at hr26
       replace hr26 : Kd.F (Kd.int .u8) _ _ A26 y221.length y221 := (by rw [hA26]; exact hr26)
       rw [← hy26, ← hA26, ← hc26] at hcut26
       have HO225 := Aside0.mk (show Kd.V (Kd.int .u8) 5 _ w.heap.size _ (.slice A26 y221.length c26) y221 from Kd.V_mk (by rw [hy26, hc26]; exact Nat.sub_le_sub_right hroom26 _) hr26)
       have HC225 := Aside0.mk (show y221.length ≤ c26 from by rw [hy26, hc26]; exact Nat.sub_le_sub_right hroom26 _)
       clear hr26 hC26 hroom26 hi026 hsz26 hc26
       have KY26 := Aside0.mk hy26
       have KA26 := Aside0.mk hA26
       clear hy26 hA26
       replace q26 := eq_true q26
       go_upto_if 37 with (first | ((with_reducible refine gate_dst (N := 7) rfl ?_); (try (refine gate_guard (by rfl) ?_; dsimp only)); refine box_event ?hg (N := 7) ?hd (cs := #[.int .i64 0, .string (⟨#[]⟩ : ByteArray), .int .i64 0, .int .i64 0]) (t := 72) ?hr ?_; (case hd => rfl); (case hg => rfl); (case hr => first | (go_simp; done) | (go_simp; rfl)); intro gb232 hg w27 hbox hb; have n0_ := Aside0.mk (Kd.V_below (Kd.V_elderB (by refine vs ?_; exact HO_0.out) gb232 (Nat.le_of_eq hg.symm)) hb); have n1_ := Aside0.mk (Kd.R_below (Kd.R_elderB (by refine rs ?_; exact HO_4.out) gb232 (Nat.le_of_eq hg.symm)) hb); have n2_ := Aside0.mk (Kd.V_below (Kd.V_elderB (by refine vs ?_; exact HO225.out) gb232 (Nat.le_of_eq hg.symm)) hb); have n3_ := Aside0.mk (below_step bz hb); have n4_ := Aside0.mk (hbox); have n5_ := Aside0.mk (bg : w.heap.size ≤ gb232); have n6_ := Aside0.mk (bg : w.heap.size ≤ gb232); clear HO_0; clear HO_4; clear HO225; clear HB; have HO_0 := n0_; have HO_4 := n1_; have HO225 := n2_; have HB := n3_; have BK232 := n4_; have GW232 := n5_; have GE232 := n6_; clear n0_ n1_ n2_ n3_ n4_ n5_ n6_; clear hb hbox hg; obtain ⟨hcz28_0, hcz28_1, hcz28_2, hcz28_3, hfz28_0, hfz28_1, hfz28_2, hfz28_3⟩ := bc4 BK232.out) | ((with_reducible refine gate_store (t := 72) (p := 7) rfl ?_); refine store_event (t := 72) (p := 7) (v := ?vo_w29) (w1 := ((((w27.setCell ⟨gb232, 0, none⟩ (.int .i64 0)).setCell ⟨gb232, 1, none⟩ (.string (⟨#[]⟩ : ByteArray))).setCell ⟨gb232, 2, none⟩ (.int .i64 0)).setCell ⟨gb232, 3, none⟩ (.int .i64 0))) ?hg ?ho ?hn ?hr ?_; (case ho => rfl); (case hg => rfl); (case hn => rfl); (case hr => first | (go_simp; done) | (go_simp; rfl)); intro w29 hw; have n0_ : Aside0 (Kd.V (Kd.int .u8) 5 w29 w.heap.size (fun k_ => (P0_ k_ ∨ w.heap.size ≤ k_) ∧ some k_ ≠ (u4 : Value).ownBlock ∧ k_ ≠ gb232) (.slice Ao6 x0_1.length co6) x0_1) := ⟨(by rw [hw]; exact (by refine vs ?_; exact Kd.V_mono (Kd.V_far (p := ⟨gb232, 3, none⟩) (Kd.V_far (p := ⟨gb232, 2, none⟩) (Kd.V_far (p := ⟨gb232, 1, none⟩) (Kd.V_far (p := ⟨gb232, 0, none⟩) (Kd.V_mono HO_0.out (fun k_ hk => (⟨hk, hk.2⟩ : _ ∧ k_ ≠ gb232))) (fun _ hk => hk.2) (.int .i64 0)) (fun _ hk => hk.2) (.string (⟨#[]⟩ : ByteArray))) (fun _ hk => hk.2) (.int .i64 0)) (fun _ hk => hk.2) (.int .i64 0)) (fun _ hk => ⟨hk.1.1.1, ⟨hk.1.1.2, hk.1.2⟩⟩)))⟩; have n1_ : Aside0 (Kd.R k72 72 w29 w.heap.size (fun k_ => (w.heap.size ≤ k_) ∧ k_ ≠ gb232) u4 x4_1) := ⟨(by rw [hw]; exact (by refine rs ?_; exact Kd.R_mono (Kd.rf (Kd.rf (Kd.rf (Kd.rf (Kd.R_mono HO_4.out (fun k_ hk => (⟨hk, hk.2⟩ : _ ∧ k_ ≠ gb232))))))) (fun _ hk => ⟨hk.1.1, hk.1.2⟩)))⟩; have n2_ : Aside0 (Kd.V (Kd.int .u8) 5 w29 w.heap.size (fun k_ => (P0_ k_ ∨ w.heap.size ≤ k_) ∧ some k_ ≠ (u4 : Value).ownBlock ∧ k_ ≠ gb232) (.slice A26 y221.length c26) y221) := ⟨(by rw [hw]; exact (by refine vs ?_; exact Kd.V_mono (Kd.V_far (p := ⟨gb232, 3, none⟩) (Kd.V_far (p := ⟨gb232, 2, none⟩) (Kd.V_far (p := ⟨gb232, 1, none⟩) (Kd.V_far (p := ⟨gb232, 0, none⟩) (Kd.V_mono HO225.out (fun k_ hk => (⟨hk, hk.2⟩ : _ ∧ k_ ≠ gb232))) (fun _ hk => hk.2) (.int .i64 0)) (fun _ hk => hk.2) (.string (⟨#[]⟩ : ByteArray))) (fun _ hk => hk.2) (.int .i64 0)) (fun _ hk => hk.2) (.int .i64 0)) (fun _ hk => ⟨hk.1.1.1, ⟨hk.1.1.2, hk.1.2⟩⟩)))⟩; have n3_ : Aside0 (w29.heap[gb232]? = some (.cells #[.int .i64 0, .string (⟨#[]⟩ : ByteArray), .int .i64 0, .int .i64 0] 72 (0, 0))) := ⟨(by rw [hw]; exact bk)⟩; have n4_ : Aside0 (Below w.heap.size w w29) := ⟨(by rw [hw]; exact bz)⟩; clear hw; clear HO_0; clear HO_4; clear HO225; clear BK232; clear HB; have HO_0 := n0_; have HO_4 := n1_; have HO225 := n2_; have BK232 := n3_; have HB := n4_; clear n0_ n1_ n2_ n3_ n4_))
       (try simp only [Act.put, List.setIfInBounds_toArray, List.set_cons_zero, List.set_cons_succ])
       have H := HC25.out
       clear HC25
       by_cases c30 : (Int.tmod t216 2) = 0
       ·rw [if_pos c30] at H
        have c30b0 : ((Int.tmod t216 2) == 0) = true := beq_iff_eq.mpr c30
        have c30b1 : ((Int.tmod t216 2) != 0) = false := bne_eq_false_iff_eq.mpr c30
        clear c30
        (first | rw [c30b0] | (simp only [i64_w, i32_w]; rw [c30b0]) | skip)
        by_cases c31 : (wrap64 (Int.tdiv t216 2)) > (y221.length : Int)
        ·rw [if_pos c31] at H
         have c31b0 : decide ((y221.length : Int) < (wrap64 (Int.tdiv t216 2))) = true := decide_eq_true c31
         clear c31
         obtain ⟨y233, hy233⟩ : ∃ y_ : List (S72), y_ = (([] : List (S72))) := ⟨_, rfl⟩
         replace H : (some (y233, false)) = some (r1, r2) := by first | (rw [hy233]; with_reducible exact H) | (have H2_ := (Option.bind_some _ _).symm.trans H; rw [hy233]; with_reducible exact H2_) | (have H2_ := (Option.bind_some _ _).symm.trans H; with_reducible exact H2_) | with_reducible exact H | (rw [hy233]; exact H) | exact H
         have Ny233 := Aside0.mk hy233
         clear hy233
         simp only [Option.some.injEq, Prod.mk.injEq] at H
         obtain ⟨rfl, rfl⟩ := H
         go_wp2_with (first | ((with_reducible refine gate_dst (N := 43) rfl ?_); (try (refine gate_guard (by rfl) ?_; dsimp only)); refine Kd.R_lit k72 _ 72 ?hg (N := 43) ?hd (xs := ([] : List (S72))) (inner := []) (ok := fun _ => True) (okp := fun _ => True) ?hr ?hp (fun _ hk => hk) trivial (Below.refl _ _) (Nat.le_refl _) (by simp) ?_; (case hd => rfl); (case hg => rfl); (case hr => first | (go_simp; done) | (go_simp; rfl)); (case hp => exact (Reps.none _ _)); intro v234 w32 ho33 hb hg_ hnew_; clear hg_ hnew_; (first | rw [← Ny233.out] at ho33 | (simp only [Int.reduceToNat] at ho33; rw [← Ny233.out] at ho33)); have n0_ := Aside0.mk (Kd.V_elder' (by refine vs ?_; exact HO_0.out) (Kd.R_base ho33) hb); have n1_ := Aside0.mk (Kd.R_elder' (by refine rs ?_; exact HO_4.out) (Kd.R_base ho33) hb); have n2_ := Aside0.mk (Kd.V_elder' (by refine vs ?_; exact HO225.out) (Kd.R_base ho33) hb); have n3_ := Aside0.mk (Kd.R_lower (Kd.R_newB (Kd.R_new' (Kd.R_newM (M := fun k_ => (w.heap.size ≤ k_)) ho33 (below_size bz) (fun k_ h_ => h_)) (Kd.R_lt (by refine rs ?_; exact HO_4.out))) (g := gb232) (o := .cells #[.int .i64 0, .string (⟨#[]⟩ : ByteArray), .int .i64 0, .int .i64 0] 72 (0, 0)) (bo BK232)) (below_size bz)); have n4_ := Aside0.mk (blk_below (bo BK232) hb); have n5_ := Aside0.mk (below_step bz hb); clear HO_0; clear HO_4; clear HO225; clear BK232; clear HB; have HO_0 := n0_; have HO_4 := n1_; have HO225 := n2_; have HO235 := n3_; have BK232 := n4_; have HB := n5_; clear n0_ n1_ n2_ n3_ n4_ n5_; clear hb ho33))
         go_ret2
         exact ⟨_, rq, by refine rs ?_; exact Kd.R_mono HO235.out (fun _ hk => hk.1.1.1), bz⟩
        ·rw [if_neg c31] at H
         have c31b0 : decide ((y221.length : Int) < (wrap64 (Int.tdiv t216 2))) = false := decide_eq_false c31
         clear c31
         obtain ⟨ji34, hji34⟩ : ∃ j_ : Int, (wrap64 (Int.tdiv t216 2)) = j_ := ⟨_, rfl⟩
         replace H : (if 0 ≤ (ji34) then (if (ji34) ≤ (y221.length : Int) then ((some (y221.take ((ji34) : Int).toNat : List Int)).bind fun y236 => ((spec_TokenOk.f 0 (strOfNums y236) 0 0).bind fun t246 => (if t246 = true then (if x4_1.length < 3518437208883 then (spec_GetTokens.l0 k1 (y221.drop ((ji34) : Int).toNat) (x4_1 ++ [(⟨0, strOfNums y236, 0, 0⟩ : S72)])) else (none)) else (some ((([] : List (S72))), false))))) else (none)) else (none)) = some (r1, r2) := by first | (rw [hji34] at H; exact H) | (simp only [hji34] at H ⊢; exact H)
         (try rw [hji34] at c31b0)
         have hji34w : (IntKind.i64.wrap (Int.tdiv t216 2)) = ji34 := (i64_w _).trans hji34
         by_cases c35 : 0 ≤ (ji34)
         ·rw [if_pos c35] at H
          have c35b0 := eq_true c35
          have c35b1 : decide (0 ≤ (ji34)) = true := decide_eq_true c35
          clear c35
          by_cases c36 : (ji34) ≤ (y221.length : Int)
          ·rw [if_pos c36] at H
           have c36b0 := eq_true c36
           have c36b1 : decide ((ji34) ≤ (y221.length : Int)) = true := decide_eq_true c36
           clear c36
           obtain ⟨y236, hy236⟩ : ∃ y_ : List Int, y_ = (y221.take ((ji34) : Int).toNat) := ⟨_, rfl⟩
           replace H : ((spec_TokenOk.f 0 (strOfNums y236) 0 0).bind fun t246 => (if t246 = true then (if x4_1.length < 3518437208883 then (spec_GetTokens.l0 k1 (y221.drop ((ji34) : Int).toNat) (x4_1 ++ [(⟨0, strOfNums y236, 0, 0⟩ : S72)])) else (none)) else (some ((([] : List (S72))), false)))) = some (r1, r2) := by first | (rw [hy236]; with_reducible exact H) | (have H2_ := (Option.bind_some _ _).symm.trans H; rw [hy236]; with_reducible exact H2_) | (have H2_ := (Option.bind_some _ _).symm.trans H; with_reducible exact H2_) | with_reducible exact H | (rw [hy236]; exact H) | exact H
           have Ny236 := Aside0.mk hy236
           clear hy236
           have c37b0 := eq_true (od : 0 ≤ (ji34))
           have c38b0 := eq_true (od : (ji34) ≤ (y221.length : Int))
           obtain ⟨y241, hy241⟩ : ∃ y_ : List Int, y_ = (y221.drop ((ji34) : Int).toNat) := ⟨_, rfl⟩
           replace H : ((spec_TokenOk.f 0 (strOfNums y236) 0 0).bind fun t246 => (if t246 = true then (if x4_1.length < 3518437208883 then (spec_GetTokens.l0 k1 y241 (x4_1 ++ [(⟨0, strOfNums y236, 0, 0⟩ : S72)])) else (none)) else (some ((([] : List (S72))), false)))) = some (r1, r2) := by first | (rw [hy241]; with_reducible exact H) | (have H2_ := (Option.bind_some _ _).symm.trans H; rw [hy241]; with_reducible exact H2_) | (have H2_ := (Option.bind_some _ _).symm.trans H; with_reducible exact H2_) | with_reducible exact H | (rw [hy241]; exact H) | exact H
           have Ny241 := Aside0.mk hy241
           clear hy241
           replace H := Option.bind_eq_some_iff.mp H
           obtain ⟨t246, A390, H⟩ := H
           try dsimp -simprocs only at H
           have A39 := Aside0.mk A390
           clear A390
           by_cases c40 : t246 = true
           ·subst c40
            have H1 : (if x4_1.length < 3518437208883 then (spec_GetTokens.l0 k1 y241 (x4_1 ++ [(⟨0, strOfNums y236, 0, 0⟩ : S72)])) else (none)) = some (r1, r2) := by rw [if_pos rfl] at H; exact H
            clear H
            have H := H1
            clear H1
            by_cases c41 : x4_1.length < 3518437208883
            ·rw [if_pos c41] at H
             have LMc41 := Aside0.mk c41
             clear c41
             obtain ⟨y247, hy247⟩ : ∃ y_ : List (S72), y_ = (x4_1 ++ [(⟨0, strOfNums y236, 0, 0⟩ : S72)]) := ⟨_, rfl⟩
             replace H : (spec_GetTokens.l0 k1 y241 y247) = some (r1, r2) := by first | (rw [hy247]; with_reducible exact H) | (have H2_ := (Option.bind_some _ _).symm.trans H; rw [hy247]; with_reducible exact H2_) | (have H2_ := (Option.bind_some _ _).symm.trans H; with_reducible exact H2_) | with_reducible exact H | (rw [hy247]; exact H) | exact H
             have Ny247 := Aside0.mk hy247
             clear hy247
             have H' := Aside0.mk H
             clear H
             have q42 : ((ji34) : Int) ≤ ((y221.length : Int) : Int) := of_decide_eq_true am
             obtain ⟨i042, hi042, _, hsz42, _⟩ := info_parts info5
             have hroom42 : y221.length ≤ c26 := (Kd.V_reads' HO225.out).2.1
             have hC42 : Kd.F (Kd.int .u8) _ _ A26 y221.length y221 := (Kd.V_at (base := w.heap.size) HO225.out).2.2
             have hcut42 := cut_to (P := Try.prog) 22 5 .i64 Try.underlying22 hi042 A26 y221.length c26 (ji34) od q42 hroom42
             have hr42 := Kd.F_take (m := ((ji34) : Int).toNat) hC42 (by omega)
             have hy42 : y236.length = ((ji34) : Int).toNat := (by rw [Ny236.out, List.length_take]; omega)
             rw [← Ny236.out] at hr42
             rw [← hy42] at hcut42
             have HO240 := Aside0.mk (show Kd.V (Kd.int .u8) 5 _ w.heap.size _ (.slice A26 y236.length c26) y236 from Kd.V_mk (by omega) hr42)
             have HC240 := Aside0.mk (show y236.length ≤ c26 from by omega)
             clear hr42 hC42 hroom42 hi042 hsz42
             have KY42 := Aside0.mk hy42
             clear hy42
             replace q42 := eq_true q42
             have hcv43 := Kd.V_string (P := Try.prog) Try.underlying22 Try.underlying5 Try.underlying9 (HO240.out)
             obtain ⟨hcz44_0, hcz44_1, hcz44_2, hcz44_3, hfz44_0, hfz44_1, hfz44_2, hfz44_3⟩ := bc4 BK232.out
             go_wp2_with (first | ((with_reducible refine gate_store (t := 9) (p := 49) rfl ?_); refine store_event (t := 9) (p := 49) (v := ?vo_w45) (w1 := (w29.setCell ⟨gb232, 1, none⟩ (.string (strOfNums y236)))) ?hg ?ho ?hn ?hr ?_; (case ho => rfl); (case hg => rfl); (case hn => rfl); (case hr => first | (go_simp; done) | (go_simp; rfl)); intro w45 hw; have n0_ : Aside0 (Kd.V (Kd.int .u8) 5 w45 w.heap.size (fun k_ => (P0_ k_ ∨ w.heap.size ≤ k_) ∧ some k_ ≠ (u4 : Value).ownBlock ∧ k_ ≠ gb232) (.slice Ao6 x0_1.length co6) x0_1) := ⟨(by rw [hw]; exact (by refine vs ?_; exact Kd.V_mono (Kd.V_far (p := ⟨gb232, 1, none⟩) (Kd.V_mono HO_0.out (fun k_ hk => (⟨hk, hk.2.2⟩ : _ ∧ k_ ≠ gb232))) (fun _ hk => hk.2) (.string (strOfNums y236))) (fun _ hk => ⟨hk.1.1, ⟨hk.1.2.1, hk.1.2.2⟩⟩)))⟩; have n1_ : Aside0 (Kd.R k72 72 w45 w.heap.size (fun k_ => (w.heap.size ≤ k_) ∧ k_ ≠ gb232) u4 x4_1) := ⟨(by rw [hw]; exact (by refine rs ?_; exact Kd.R_mono (Kd.rf (Kd.R_mono HO_4.out (fun k_ hk => (⟨hk, hk.2⟩ : _ ∧ k_ ≠ gb232)))) (fun _ hk => ⟨hk.1.1, hk.1.2⟩)))⟩; have n2_ : Aside0 (Kd.V (Kd.int .u8) 5 w45 w.heap.size (fun k_ => (P0_ k_ ∨ w.heap.size ≤ k_) ∧ some k_ ≠ (u4 : Value).ownBlock ∧ k_ ≠ gb232) (.slice A26 y221.length c26) y221) := ⟨(by rw [hw]; exact (by refine vs ?_; exact Kd.V_mono (Kd.V_far (p := ⟨gb232, 1, none⟩) (Kd.V_mono HO225.out (fun k_ hk => (⟨hk, hk.2.2⟩ : _ ∧ k_ ≠ gb232))) (fun _ hk => hk.2) (.string (strOfNums y236))) (fun _ hk => ⟨hk.1.1, ⟨hk.1.2.1, hk.1.2.2⟩⟩)))⟩; have n3_ : Aside0 (Kd.V (Kd.int .u8) 5 w45 w.heap.size (fun k_ => (P0_ k_ ∨ w.heap.size ≤ k_) ∧ some k_ ≠ (u4 : Value).ownBlock ∧ k_ ≠ gb232) (.slice A26 y236.length c26) y236) := ⟨(by rw [hw]; exact (by refine vs ?_; exact Kd.V_mono (Kd.V_far (p := ⟨gb232, 1, none⟩) (Kd.V_mono HO240.out (fun k_ hk => (⟨hk, hk.2.2⟩ : _ ∧ k_ ≠ gb232))) (fun _ hk => hk.2) (.string (strOfNums y236))) (fun _ hk => ⟨hk.1.1, ⟨hk.1.2.1, hk.1.2.2⟩⟩)))⟩; have n4_ : Aside0 (w45.heap[gb232]? = some (.cells #[.int .i64 0, .string (strOfNums y236), .int .i64 0, .int .i64 0] 72 (0, 0))) := ⟨(by rw [hw]; exact bk)⟩; have n5_ : Aside0 (Below w.heap.size w w45) := ⟨(by rw [hw]; exact bz)⟩; clear hw; clear HO_0; clear HO_4; clear HO225; clear HO240; clear BK232; clear HB; have HO_0 := n0_; have HO_4 := n1_; have HO225 := n2_; have HO240 := n3_; have BK232 := n4_; have HB := n5_; clear n0_ n1_ n2_ n3_ n4_ n5_; have q46 : ((ji34) : Int) ≤ ((y221.length : Int) : Int) := of_decide_eq_true am; obtain ⟨i046, hi046, _, hsz46, _⟩ := info_parts info5; have hroom46 : y221.length ≤ c26 := (Kd.V_reads' HO225.out).2.1; have hC46 : Kd.F (Kd.int .u8) _ _ A26 y221.length y221 := (Kd.V_at (base := w.heap.size) HO225.out).2.2; have q046 : (0 : Int) ≤ ((ji34) : Int) := of_decide_eq_true am; have hcut46 := cut_from (P := Try.prog) 22 5 .i64 Try.underlying22 hi046 1 hsz46 A26 y221.length c26 (ji34) q046 q46; have hr46 := Kd.F_cut (m := ((ji34) : Int).toNat) (c := c26) hC46 (by omega) hroom46; obtain ⟨A46, hA46⟩ : ∃ A1, A1 = (if c26 = ((ji34) : Int).toNat then A26 else (A26 : Option Addr).map (·.add (((ji34) : Int).toNat * 1))) := ⟨_, rfl⟩; obtain ⟨c46, hc46⟩ : ∃ c1, c1 = c26 - ((ji34) : Int).toNat := ⟨_, rfl⟩; have hy46 : y241.length = y221.length - ((ji34) : Int).toNat := (by rw [Ny241.out, List.length_drop] <;> omega); rw [show (y221).drop ((ji34) : Int).toNat = y241 from Ny241.out.symm] at hr46; replace hr46 : Kd.F (Kd.int .u8) _ _ A46 y241.length y241 := (by rw [hA46]; exact hr46); rw [← hy46, ← hA46, ← hc46] at hcut46; have HO245 := Aside0.mk (show Kd.V (Kd.int .u8) 5 _ w.heap.size _ (.slice A46 y241.length c46) y241 from Kd.V_mk (by rw [hy46, hc46]; exact Nat.sub_le_sub_right hroom46 _) hr46); have HC245 := Aside0.mk (show y241.length ≤ c46 from by rw [hy46, hc46]; exact Nat.sub_le_sub_right hroom46 _); clear hr46 hC46 hroom46 hi046 hsz46 hc46; have KY46 := Aside0.mk hy46; have KA46 := Aside0.mk hA46; clear hy46 hA46; replace q46 := eq_true q46; obtain ⟨hcz47_0, hcz47_1, hcz47_2, hcz47_3, hfz47_0, hfz47_1, hfz47_2, hfz47_3⟩ := bc4 BK232.out) | ((with_reducible refine gate_callee (f := 46) rfl ?_); refine goesL_ (some 70) rfl rfl Try.func46 (by kernel_rfl) rfl #[.agg #[.int .i64 0, .string (strOfNums y236), .int .i64 0, .int .i64 0]] rfl mt ?_; (with_reducible refine (spec_TokenOk.calls 0 (strOfNums y236) 0 0 true _ A39.out).mono ?_); rintro e w48 ⟨rfl, hb⟩; refine ⟨_, rfl, ?_⟩; have n0_ := Aside0.mk (Kd.V_below (by refine vs ?_; exact HO_0.out) hb); have n1_ := Aside0.mk (Kd.R_below (by refine rs ?_; exact HO_4.out) hb); have n2_ := Aside0.mk (Kd.V_below (by refine vs ?_; exact HO225.out) hb); have n3_ := Aside0.mk (Kd.V_below (by refine vs ?_; exact HO240.out) hb); have n4_ := Aside0.mk (Kd.V_below (by refine vs ?_; exact HO245.out) hb); have n5_ := Aside0.mk (blk_below (bo BK232) hb); have n6_ := Aside0.mk (below_step bz hb); clear HO_0; clear HO_4; clear HO225; clear HO240; clear HO245; clear BK232; clear HB; have HO_0 := n0_; have HO_4 := n1_; have HO225 := n2_; have HO240 := n3_; have HO245 := n4_; have BK232 := n5_; have HB := n6_; clear n0_ n1_ n2_ n3_ n4_ n5_ n6_; (try clear hb); (try clear hb2); (try clear hk); (try clear hi); obtain ⟨hcz49_0, hcz49_1, hcz49_2, hcz49_3, hfz49_0, hfz49_1, hfz49_2, hfz49_3⟩ := bc4 BK232.out) | ((with_reducible refine gate_builtin (b := .append) (xs := #[.tmp 83, .tmp 85]) rfl ?_); (try (refine gate_guard (by rfl) ?_; dsimp only)); at_builtin; refine Kd.R_append k72 (w0 := w) w.heap.size rfl (.tmp 83) (.tmp 85) 27 72 (.agg #[(.int .i64 0), (.string ⟨#[]⟩), (.int .i64 0), (.int .i64 0)]) 40 rfl Try.underlying27 info72 rfl (by decide) (by omega) u4 x4_1 (⟨0, strOfNums y236, 0, 0⟩ : S72) [.int .i64 0, .string (strOfNums y236), .int .i64 0, .int .i64 0] (fun k_ => (w.heap.size ≤ k_) ∧ k_ ≠ gb232) (fun _ => False) rfl rfl ?aP (fun _ hk => hk.elim) ?aF ?aO ?aB ?aS ?aL ?_; (case aP => exact k72_mkM _ _ _ (⟨0, strOfNums y236, 0, 0⟩ : S72)); (case aB => exact bz); (case aF => exact (fun k_ hk => ⟨(Nat.le_trans (below_size bz) hk), Kd.freshB (g := gb232) (o := .cells #[.int .i64 0, .string (strOfNums y236), .int .i64 0, .int .i64 0] 72 (0, 0)) (bo BK232) k_ hk⟩)); (case aO => exact (by refine rs ?_; exact HO_4.out)); (case aS => exact (below_size bz)); (case aL => have := LMc41.out; omega); intro v248 w50 ho hb hg hat; rw [← Ny247.out] at ho; have n0_ := Aside0.mk (Kd.V_afterv (ok := (fun k_ => (P0_ k_ ∨ w.heap.size ≤ k_) ∧ k_ ≠ gb232)) (by refine vs ?_; exact Kd.V_mono HO_0.out (fun _ hk => ⟨⟨hk.1, hk.2.2⟩, hk.2.1⟩)) hg hat); have n1_ := Aside0.mk (Kd.V_afterv (ok := (fun k_ => (P0_ k_ ∨ w.heap.size ≤ k_) ∧ k_ ≠ gb232)) (by refine vs ?_; exact Kd.V_mono HO225.out (fun _ hk => ⟨⟨hk.1, hk.2.2⟩, hk.2.1⟩)) hg hat); have n2_ := Aside0.mk (blk_grown (g := gb232) (o := .cells #[.int .i64 0, .string (strOfNums y236), .int .i64 0, .int .i64 0] 72 (0, 0)) (bo BK232) hg (Kd.R_away HO_4.out (fun _ hk => hk.2))); have n3_ := Aside0.mk (Kd.V_afterv (ok := (fun k_ => (P0_ k_ ∨ w.heap.size ≤ k_) ∧ k_ ≠ gb232)) (by refine vs ?_; exact Kd.V_mono HO240.out (fun _ hk => ⟨⟨hk.1, hk.2.2⟩, hk.2.1⟩)) hg hat); have n4_ := Aside0.mk (Kd.V_afterv (ok := (fun k_ => (P0_ k_ ∨ w.heap.size ≤ k_) ∧ k_ ≠ gb232)) (by refine vs ?_; exact Kd.V_mono HO245.out (fun _ hk => ⟨⟨hk.1, hk.2.2⟩, hk.2.1⟩)) hg hat); have n5_ := Aside0.mk (hb); have n6_ := Aside0.mk (ho); clear HO_0; clear HO225; clear BK232; clear HO240; clear HO245; clear HB; clear HO_4; have HO_0 := n0_; have HO225 := n1_; have BK232 := n2_; have HO240 := n3_; have HO245 := n4_; have HB := n5_; have HO249 := n6_; clear n0_ n1_ n2_ n3_ n4_ n5_ n6_; clear ho hb hg hat))
             go_roundg k1
             case measure => have := HK1.out; omega
             case rel => exact ⟨(y241), (y247), H', ⟨by have := HK1.out; omega⟩, ⟨by refine vs ?_; exact Kd.V_mono HO245.out (fun _ hk => ⟨hk.1.1, hk.2⟩)⟩, ⟨by refine rs ?_; exact Kd.R_mono HO249.out (fun _ hk => hk.1)⟩, ⟨bz⟩⟩
            ·rw [if_neg c41] at H
             exact absurd H (by simp)
           ·replace c40 := Bool.eq_false_iff.mpr c40
            subst c40
            have H1 : (some ((([] : List (S72))), false)) = some (r1, r2) := by rw [if_neg (show ¬ (false = true) by decide)] at H; exact H
            clear H
            have H := H1
            clear H1
            obtain ⟨y250, hy250⟩ : ∃ y_ : List (S72), y_ = (([] : List (S72))) := ⟨_, rfl⟩
            replace H : (some (y250, false)) = some (r1, r2) := by first | (rw [hy250]; with_reducible exact H) | (have H2_ := (Option.bind_some _ _).symm.trans H; rw [hy250]; with_reducible exact H2_) | (have H2_ := (Option.bind_some _ _).symm.trans H; with_reducible exact H2_) | with_reducible exact H | (rw [hy250]; exact H) | exact H
            have Ny250 := Aside0.mk hy250
            clear hy250
            simp only [Option.some.injEq, Prod.mk.injEq] at H
            obtain ⟨rfl, rfl⟩ := H
            have q51 : ((ji34) : Int) ≤ ((y221.length : Int) : Int) := of_decide_eq_true am
            obtain ⟨i051, hi051, _, hsz51, _⟩ := info_parts info5
            have hroom51 : y221.length ≤ c26 := (Kd.V_reads' HO225.out).2.1
            have hC51 : Kd.F (Kd.int .u8) _ _ A26 y221.length y221 := (Kd.V_at (base := w.heap.size) HO225.out).2.2
            have hcut51 := cut_to (P := Try.prog) 22 5 .i64 Try.underlying22 hi051 A26 y221.length c26 (ji34) od q51 hroom51
            have hr51 := Kd.F_take (m := ((ji34) : Int).toNat) hC51 (by omega)
            have hy51 : y236.length = ((ji34) : Int).toNat := (by rw [Ny236.out, List.length_take]; omega)
            rw [← Ny236.out] at hr51
            rw [← hy51] at hcut51
            have HO240 := Aside0.mk (show Kd.V (Kd.int .u8) 5 _ w.heap.size _ (.slice A26 y236.length c26) y236 from Kd.V_mk (by omega) hr51)
            have HC240 := Aside0.mk (show y236.length ≤ c26 from by omega)
            clear hr51 hC51 hroom51 hi051 hsz51
            have KY51 := Aside0.mk hy51
            clear hy51
            replace q51 := eq_true q51
            have hcv52 := Kd.V_string (P := Try.prog) Try.underlying22 Try.underlying5 Try.underlying9 (HO240.out)
            obtain ⟨hcz53_0, hcz53_1, hcz53_2, hcz53_3, hfz53_0, hfz53_1, hfz53_2, hfz53_3⟩ := bc4 BK232.out
            go_wp2_with (first | ((with_reducible refine gate_store (t := 9) (p := 49) rfl ?_); refine store_event (t := 9) (p := 49) (v := ?vo_w54) (w1 := (w29.setCell ⟨gb232, 1, none⟩ (.string (strOfNums y236)))) ?hg ?ho ?hn ?hr ?_; (case ho => rfl); (case hg => rfl); (case hn => rfl); (case hr => first | (go_simp; done) | (go_simp; rfl)); intro w54 hw; have n0_ : Aside0 (Kd.V (Kd.int .u8) 5 w54 w.heap.size (fun k_ => (P0_ k_ ∨ w.heap.size ≤ k_) ∧ some k_ ≠ (u4 : Value).ownBlock ∧ k_ ≠ gb232) (.slice Ao6 x0_1.length co6) x0_1) := ⟨(by rw [hw]; exact (by refine vs ?_; exact Kd.V_mono (Kd.V_far (p := ⟨gb232, 1, none⟩) (Kd.V_mono HO_0.out (fun k_ hk => (⟨hk, hk.2.2⟩ : _ ∧ k_ ≠ gb232))) (fun _ hk => hk.2) (.string (strOfNums y236))) (fun _ hk => ⟨hk.1.1, ⟨hk.1.2.1, hk.1.2.2⟩⟩)))⟩; have n1_ : Aside0 (Kd.R k72 72 w54 w.heap.size (fun k_ => (w.heap.size ≤ k_) ∧ k_ ≠ gb232) u4 x4_1) := ⟨(by rw [hw]; exact (by refine rs ?_; exact Kd.R_mono (Kd.rf (Kd.R_mono HO_4.out (fun k_ hk => (⟨hk, hk.2⟩ : _ ∧ k_ ≠ gb232)))) (fun _ hk => ⟨hk.1.1, hk.1.2⟩)))⟩; have n2_ : Aside0 (Kd.V (Kd.int .u8) 5 w54 w.heap.size (fun k_ => (P0_ k_ ∨ w.heap.size ≤ k_) ∧ some k_ ≠ (u4 : Value).ownBlock ∧ k_ ≠ gb232) (.slice A26 y221.length c26) y221) := ⟨(by rw [hw]; exact (by refine vs ?_; exact Kd.V_mono (Kd.V_far (p := ⟨gb232, 1, none⟩) (Kd.V_mono HO225.out (fun k_ hk => (⟨hk, hk.2.2⟩ : _ ∧ k_ ≠ gb232))) (fun _ hk => hk.2) (.string (strOfNums y236))) (fun _ hk => ⟨hk.1.1, ⟨hk.1.2.1, hk.1.2.2⟩⟩)))⟩; have n3_ : Aside0 (Kd.V (Kd.int .u8) 5 w54 w.heap.size (fun k_ => (P0_ k_ ∨ w.heap.size ≤ k_) ∧ some k_ ≠ (u4 : Value).ownBlock ∧ k_ ≠ gb232) (.slice A26 y236.length c26) y236) := ⟨(by rw [hw]; exact (by refine vs ?_; exact Kd.V_mono (Kd.V_far (p := ⟨gb232, 1, none⟩) (Kd.V_mono HO240.out (fun k_ hk => (⟨hk, hk.2.2⟩ : _ ∧ k_ ≠ gb232))) (fun _ hk => hk.2) (.string (strOfNums y236))) (fun _ hk => ⟨hk.1.1, ⟨hk.1.2.1, hk.1.2.2⟩⟩)))⟩; have n4_ : Aside0 (w54.heap[gb232]? = some (.cells #[.int .i64 0, .string (strOfNums y236), .int .i64 0, .int .i64 0] 72 (0, 0))) := ⟨(by rw [hw]; exact bk)⟩; have n5_ : Aside0 (Below w.heap.size w w54) := ⟨(by rw [hw]; exact bz)⟩; clear hw; clear HO_0; clear HO_4; clear HO225; clear HO240; clear BK232; clear HB; have HO_0 := n0_; have HO_4 := n1_; have HO225 := n2_; have HO240 := n3_; have BK232 := n4_; have HB := n5_; clear n0_ n1_ n2_ n3_ n4_ n5_; have q55 : ((ji34) : Int) ≤ ((y221.length : Int) : Int) := of_decide_eq_true am; obtain ⟨i055, hi055, _, hsz55, _⟩ := info_parts info5; have hroom55 : y221.length ≤ c26 := (Kd.V_reads' HO225.out).2.1; have hC55 : Kd.F (Kd.int .u8) _ _ A26 y221.length y221 := (Kd.V_at (base := w.heap.size) HO225.out).2.2; have q055 : (0 : Int) ≤ ((ji34) : Int) := of_decide_eq_true am; have hcut55 := cut_from (P := Try.prog) 22 5 .i64 Try.underlying22 hi055 1 hsz55 A26 y221.length c26 (ji34) q055 q55; have hr55 := Kd.F_cut (m := ((ji34) : Int).toNat) (c := c26) hC55 (by omega) hroom55; obtain ⟨A55, hA55⟩ : ∃ A1, A1 = (if c26 = ((ji34) : Int).toNat then A26 else (A26 : Option Addr).map (·.add (((ji34) : Int).toNat * 1))) := ⟨_, rfl⟩; obtain ⟨c55, hc55⟩ : ∃ c1, c1 = c26 - ((ji34) : Int).toNat := ⟨_, rfl⟩; have hy55 : y241.length = y221.length - ((ji34) : Int).toNat := (by rw [Ny241.out, List.length_drop] <;> omega); rw [show (y221).drop ((ji34) : Int).toNat = y241 from Ny241.out.symm] at hr55; replace hr55 : Kd.F (Kd.int .u8) _ _ A55 y241.length y241 := (by rw [hA55]; exact hr55); rw [← hy55, ← hA55, ← hc55] at hcut55; have HO245 := Aside0.mk (show Kd.V (Kd.int .u8) 5 _ w.heap.size _ (.slice A55 y241.length c55) y241 from Kd.V_mk (by rw [hy55, hc55]; exact Nat.sub_le_sub_right hroom55 _) hr55); have HC245 := Aside0.mk (show y241.length ≤ c55 from by rw [hy55, hc55]; exact Nat.sub_le_sub_right hroom55 _); clear hr55 hC55 hroom55 hi055 hsz55 hc55; have KY55 := Aside0.mk hy55; have KA55 := Aside0.mk hA55; clear hy55 hA55; replace q55 := eq_true q55; obtain ⟨hcz56_0, hcz56_1, hcz56_2, hcz56_3, hfz56_0, hfz56_1, hfz56_2, hfz56_3⟩ := bc4 BK232.out) | ((with_reducible refine gate_callee (f := 46) rfl ?_); refine goesL_ (some 70) rfl rfl Try.func46 (by kernel_rfl) rfl #[.agg #[.int .i64 0, .string (strOfNums y236), .int .i64 0, .int .i64 0]] rfl mt ?_; (with_reducible refine (spec_TokenOk.calls 0 (strOfNums y236) 0 0 false _ A39.out).mono ?_); rintro e w57 ⟨rfl, hb⟩; refine ⟨_, rfl, ?_⟩; have n0_ := Aside0.mk (Kd.V_below (by refine vs ?_; exact HO_0.out) hb); have n1_ := Aside0.mk (Kd.R_below (by refine rs ?_; exact HO_4.out) hb); have n2_ := Aside0.mk (Kd.V_below (by refine vs ?_; exact HO225.out) hb); have n3_ := Aside0.mk (Kd.V_below (by refine vs ?_; exact HO240.out) hb); have n4_ := Aside0.mk (Kd.V_below (by refine vs ?_; exact HO245.out) hb); have n5_ := Aside0.mk (blk_below (bo BK232) hb); have n6_ := Aside0.mk (below_step bz hb); clear HO_0; clear HO_4; clear HO225; clear HO240; clear HO245; clear BK232; clear HB; have HO_0 := n0_; have HO_4 := n1_; have HO225 := n2_; have HO240 := n3_; have HO245 := n4_; have BK232 := n5_; have HB := n6_; clear n0_ n1_ n2_ n3_ n4_ n5_ n6_; (try clear hb); (try clear hb2); (try clear hk); (try clear hi)) | ((with_reducible refine gate_dst (N := 82) rfl ?_); (try (refine gate_guard (by rfl) ?_; dsimp only)); refine Kd.R_lit k72 _ 72 ?hg (N := 82) ?hd (xs := ([] : List (S72))) (inner := []) (ok := fun _ => True) (okp := fun _ => True) ?hr ?hp (fun _ hk => hk) trivial (Below.refl _ _) (Nat.le_refl _) (by simp) ?_; (case hd => rfl); (case hg => rfl); (case hr => first | (go_simp; done) | (go_simp; rfl)); (case hp => exact (Reps.none _ _)); intro v251 w58 ho59 hb hg_ hnew_; clear hg_ hnew_; (first | rw [← Ny250.out] at ho59 | (simp only [Int.reduceToNat] at ho59; rw [← Ny250.out] at ho59)); have n0_ := Aside0.mk (Kd.V_elder' (by refine vs ?_; exact HO_0.out) (Kd.R_base ho59) hb); have n1_ := Aside0.mk (Kd.R_elder' (by refine rs ?_; exact HO_4.out) (Kd.R_base ho59) hb); have n2_ := Aside0.mk (Kd.V_elder' (by refine vs ?_; exact HO225.out) (Kd.R_base ho59) hb); have n3_ := Aside0.mk (Kd.V_elder' (by refine vs ?_; exact HO240.out) (Kd.R_base ho59) hb); have n4_ := Aside0.mk (Kd.V_elder' (by refine vs ?_; exact HO245.out) (Kd.R_base ho59) hb); have n5_ := Aside0.mk (Kd.R_lower (Kd.R_newB (Kd.R_new' (Kd.R_newM (M := fun k_ => (w.heap.size ≤ k_)) ho59 (below_size bz) (fun k_ h_ => h_)) (Kd.R_lt (by refine rs ?_; exact HO_4.out))) (g := gb232) (o := .cells #[.int .i64 0, .string (strOfNums y236), .int .i64 0, .int .i64 0] 72 (0, 0)) (bo BK232)) (below_size bz)); have n6_ := Aside0.mk (blk_below (bo BK232) hb); have n7_ := Aside0.mk (below_step bz hb); clear HO_0; clear HO_4; clear HO225; clear HO240; clear HO245; clear BK232; clear HB; have HO_0 := n0_; have HO_4 := n1_; have HO225 := n2_; have HO240 := n3_; have HO245 := n4_; have HO252 := n5_; have BK232 := n6_; have HB := n7_; clear n0_ n1_ n2_ n3_ n4_ n5_ n6_ n7_; clear hb ho59))
            go_ret2
            exact ⟨_, by first | rfl | (simp [errW_none, errW_some] <;> rfl) | (simp only [← hji34]; first | rfl | (simp [errW_none, errW_some] <;> rfl)) | (simp [*, errW_none, errW_some] <;> rfl), by refine rs ?_; exact Kd.R_mono HO252.out (fun _ hk => hk.1.1.1), bz⟩
          ·rw [if_neg c36] at H
           exact absurd H (by simp)
         ·rw [if_neg c35] at H
          exact absurd H (by simp)
       ·rw [if_neg c30] at H
        have c30b0 : ((Int.tmod t216 2) == 0) = false := beq_eq_false_iff_ne.mpr c30
        have c30b1 : ((Int.tmod t216 2) != 0) = true := bne_iff_ne.mpr c30
        (first | rw [c30b0] | (simp only [i64_w, i32_w]; rw [c30b0]) | skip)
        replace H := Option.bind_eq_some_iff.mp H
        obtain ⟨⟨t253, t254⟩, A600, H⟩ := H
        try dsimp -simprocs only at H
        have A60 := Aside0.mk A600
        clear A600
        have HC61 := Aside0.mk H
        clear H
        go_upto_if 60 with (first | ((with_reducible refine gate_callee (f := 20) rfl ?_); refine goesL_ (some 56) rfl rfl Try.func20 (by kernel_rfl) rfl #[.slice A26 y221.length c26] rfl mt ?_; (with_reducible refine (spec_GetVar.calls k1 _ _ y221 t253 t254 _ ?side1 ?side2 A60.out).mono ?_); (case side1 => repeat (first | exact (Kd.V_reads' HO225.out).2.2 | (with_reducible refine Kd.C_alloc ?_ _) | (with_reducible refine Kd.C_drewN ?_ _) | (with_reducible refine Kd.C_drew ?_))); (case side2 => exact (Kd.V_reads' HO225.out).2.1); rintro e w62 ⟨rfl, hb⟩; refine ⟨_, rfl, ?_⟩; have n0_ := Aside0.mk (Kd.V_below (by refine vs ?_; exact HO_0.out) hb); have n1_ := Aside0.mk (Kd.R_below (by refine rs ?_; exact HO_4.out) hb); have n2_ := Aside0.mk (Kd.V_below (by refine vs ?_; exact HO225.out) hb); have n3_ := Aside0.mk (blk_below (bo BK232) hb); have n4_ := Aside0.mk (below_step bz hb); clear HO_0; clear HO_4; clear HO225; clear BK232; clear HB; have HO_0 := n0_; have HO_4 := n1_; have HO225 := n2_; have BK232 := n3_; have HB := n4_; clear n0_ n1_ n2_ n3_ n4_; (try clear hb); (try clear hb2); (try clear hk); (try clear hi)))
        (try simp only [Act.put, List.setIfInBounds_toArray, List.set_cons_zero, List.set_cons_succ])
        have H := HC61.out
        clear HC61
        by_cases c63 : t254 = 0
        ·rw [if_pos c63] at H
         have c63b0 : (t254 == 0) = true := beq_iff_eq.mpr c63
         have c63b1 : (t254 != 0) = false := bne_eq_false_iff_eq.mpr c63
         clear c63
         (first | rw [c63b0] | (simp only [i64_w, i32_w]; rw [c63b0]) | skip)
         obtain ⟨y255, hy255⟩ : ∃ y_ : List (S72), y_ = (([] : List (S72))) := ⟨_, rfl⟩
         replace H : (some (y255, false)) = some (r1, r2) := by first | (rw [hy255]; with_reducible exact H) | (have H2_ := (Option.bind_some _ _).symm.trans H; rw [hy255]; with_reducible exact H2_) | (have H2_ := (Option.bind_some _ _).symm.trans H; with_reducible exact H2_) | with_reducible exact H | (rw [hy255]; exact H) | exact H
         have Ny255 := Aside0.mk hy255
         clear hy255
         simp only [Option.some.injEq, Prod.mk.injEq] at H
         obtain ⟨rfl, rfl⟩ := H
         go_wp2_with (first | ((with_reducible refine gate_dst (N := 61) rfl ?_); (try (refine gate_guard (by rfl) ?_; dsimp only)); refine Kd.R_lit k72 _ 72 ?hg (N := 61) ?hd (xs := ([] : List (S72))) (inner := []) (ok := fun _ => True) (okp := fun _ => True) ?hr ?hp (fun _ hk => hk) trivial (Below.refl _ _) (Nat.le_refl _) (by simp) ?_; (case hd => rfl); (case hg => rfl); (case hr => first | (go_simp; done) | (go_simp; rfl)); (case hp => exact (Reps.none _ _)); intro v256 w64 ho65 hb hg_ hnew_; clear hg_ hnew_; (first | rw [← Ny255.out] at ho65 | (simp only [Int.reduceToNat] at ho65; rw [← Ny255.out] at ho65)); have n0_ := Aside0.mk (Kd.V_elder' (by refine vs ?_; exact HO_0.out) (Kd.R_base ho65) hb); have n1_ := Aside0.mk (Kd.R_elder' (by refine rs ?_; exact HO_4.out) (Kd.R_base ho65) hb); have n2_ := Aside0.mk (Kd.V_elder' (by refine vs ?_; exact HO225.out) (Kd.R_base ho65) hb); have n3_ := Aside0.mk (Kd.R_lower (Kd.R_newB (Kd.R_new' (Kd.R_newM (M := fun k_ => (w.heap.size ≤ k_)) ho65 (below_size bz) (fun k_ h_ => h_)) (Kd.R_lt (by refine rs ?_; exact HO_4.out))) (g := gb232) (o := .cells #[.int .i64 0, .string (⟨#[]⟩ : ByteArray), .int .i64 0, .int .i64 0] 72 (0, 0)) (bo BK232)) (below_size bz)); have n4_ := Aside0.mk (blk_below (bo BK232) hb); have n5_ := Aside0.mk (below_step bz hb); clear HO_0; clear HO_4; clear HO225; clear BK232; clear HB; have HO_0 := n0_; have HO_4 := n1_; have HO225 := n2_; have HO257 := n3_; have BK232 := n4_; have HB := n5_; clear n0_ n1_ n2_ n3_ n4_ n5_; clear hb ho65))
         go_ret2
         exact ⟨_, rq, by refine rs ?_; exact Kd.R_mono HO257.out (fun _ hk => hk.1.1.1), bz⟩
        ·rw [if_neg c63] at H
         have c63b0 : (t254 == 0) = false := beq_eq_false_iff_ne.mpr c63
         have c63b1 : (t254 != 0) = true := bne_iff_ne.mpr c63
         (first | rw [c63b0] | (simp only [i64_w, i32_w]; rw [c63b0]) | skip)
         by_cases c66 : 0 ≤ t254
         ·rw [if_pos c66] at H
          have c66b0 := eq_true c66
          have c66b1 : decide (0 ≤ t254) = true := decide_eq_true c66
          clear c66
          by_cases c67 : t254 ≤ (y221.length : Int)
          ·rw [if_pos c67] at H
           have c67b0 := eq_true c67
           have c67b1 : decide (t254 ≤ (y221.length : Int)) = true := decide_eq_true c67
           clear c67
           obtain ⟨y258, hy258⟩ : ∃ y_ : List Int, y_ = (y221.drop (t254 : Int).toNat) := ⟨_, rfl⟩
           replace H : ((spec_TokenOk.f 1 (⟨#[]⟩ : ByteArray) t253 (wrap64 (Int.tdiv t216 2))).bind fun t263 => (if t263 = true then (if t253 > 1000000 then (some ((([] : List (S72))), false)) else (if (wrap64 (Int.tdiv t216 2)) > 1000000 then (some ((([] : List (S72))), false)) else (if x4_1.length < 3518437208883 then (spec_GetTokens.l0 k1 y258 (x4_1 ++ [(⟨1, (⟨#[]⟩ : ByteArray), t253, wrap64 (Int.tdiv t216 2)⟩ : S72)])) else (none)))) else (some ((([] : List (S72))), false)))) = some (r1, r2) := by first | (rw [hy258]; with_reducible exact H) | (have H2_ := (Option.bind_some _ _).symm.trans H; rw [hy258]; with_reducible exact H2_) | (have H2_ := (Option.bind_some _ _).symm.trans H; with_reducible exact H2_) | with_reducible exact H | (rw [hy258]; exact H) | exact H
           have Ny258 := Aside0.mk hy258
           clear hy258
           replace H := Option.bind_eq_some_iff.mp H
           obtain ⟨t263, A680, H⟩ := H
           try dsimp -simprocs only at H
           have A68 := Aside0.mk A680
           clear A680
           by_cases c69 : t263 = true
           ·subst c69
            have H1 : (if t253 > 1000000 then (some ((([] : List (S72))), false)) else (if (wrap64 (Int.tdiv t216 2)) > 1000000 then (some ((([] : List (S72))), false)) else (if x4_1.length < 3518437208883 then (spec_GetTokens.l0 k1 y258 (x4_1 ++ [(⟨1, (⟨#[]⟩ : ByteArray), t253, wrap64 (Int.tdiv t216 2)⟩ : S72)])) else (none)))) = some (r1, r2) := by rw [if_pos rfl] at H; exact H
            clear H
            have H := H1
            clear H1
            by_cases c70 : t253 > 1000000
            ·rw [if_pos c70] at H
             have c70b0 : decide (1000000 < t253) = true := decide_eq_true c70
             clear c70
             obtain ⟨y264, hy264⟩ : ∃ y_ : List (S72), y_ = (([] : List (S72))) := ⟨_, rfl⟩
             replace H : (some (y264, false)) = some (r1, r2) := by first | (rw [hy264]; with_reducible exact H) | (have H2_ := (Option.bind_some _ _).symm.trans H; rw [hy264]; with_reducible exact H2_) | (have H2_ := (Option.bind_some _ _).symm.trans H; with_reducible exact H2_) | with_reducible exact H | (rw [hy264]; exact H) | exact H
             have Ny264 := Aside0.mk hy264
             clear hy264
             simp only [Option.some.injEq, Prod.mk.injEq] at H
             obtain ⟨rfl, rfl⟩ := H
             obtain ⟨hcz71_0, hcz71_1, hcz71_2, hcz71_3, hfz71_0, hfz71_1, hfz71_2, hfz71_3⟩ := bc4 BK232.out
             go_wp2_with (first | ((with_reducible refine gate_store (t := 72) (p := 7) rfl ?_); refine store_event (t := 72) (p := 7) (v := ?vo_w72) (w1 := ((((w62.setCell ⟨gb232, 0, none⟩ (.int .i64 1)).setCell ⟨gb232, 1, none⟩ (.string (⟨#[]⟩ : ByteArray))).setCell ⟨gb232, 2, none⟩ (.int .i64 t253)).setCell ⟨gb232, 3, none⟩ (.int .i64 (wrap64 (Int.tdiv t216 2))))) ?hg ?ho ?hn ?hr ?_; (case ho => rfl); (case hg => rfl); (case hn => rfl); (case hr => first | (go_simp; done) | (go_simp; rfl)); intro w72 hw; have n0_ : Aside0 (Kd.V (Kd.int .u8) 5 w72 w.heap.size (fun k_ => (P0_ k_ ∨ w.heap.size ≤ k_) ∧ some k_ ≠ (u4 : Value).ownBlock ∧ k_ ≠ gb232) (.slice Ao6 x0_1.length co6) x0_1) := ⟨(by rw [hw]; exact (by refine vs ?_; exact Kd.V_mono (Kd.V_far (p := ⟨gb232, 3, none⟩) (Kd.V_far (p := ⟨gb232, 2, none⟩) (Kd.V_far (p := ⟨gb232, 1, none⟩) (Kd.V_far (p := ⟨gb232, 0, none⟩) (Kd.V_mono HO_0.out (fun k_ hk => (⟨hk, hk.2.2⟩ : _ ∧ k_ ≠ gb232))) (fun _ hk => hk.2) (.int .i64 1)) (fun _ hk => hk.2) (.string (⟨#[]⟩ : ByteArray))) (fun _ hk => hk.2) (.int .i64 t253)) (fun _ hk => hk.2) (.int .i64 (wrap64 (Int.tdiv t216 2)))) (fun _ hk => ⟨hk.1.1, ⟨hk.1.2.1, hk.1.2.2⟩⟩)))⟩; have n1_ : Aside0 (Kd.R k72 72 w72 w.heap.size (fun k_ => (w.heap.size ≤ k_) ∧ k_ ≠ gb232) u4 x4_1) := ⟨(by rw [hw]; exact (by refine rs ?_; exact Kd.R_mono (Kd.rf (Kd.rf (Kd.rf (Kd.rf (Kd.R_mono HO_4.out (fun k_ hk => (⟨hk, hk.2⟩ : _ ∧ k_ ≠ gb232))))))) (fun _ hk => ⟨hk.1.1, hk.1.2⟩)))⟩; have n2_ : Aside0 (Kd.V (Kd.int .u8) 5 w72 w.heap.size (fun k_ => (P0_ k_ ∨ w.heap.size ≤ k_) ∧ some k_ ≠ (u4 : Value).ownBlock ∧ k_ ≠ gb232) (.slice A26 y221.length c26) y221) := ⟨(by rw [hw]; exact (by refine vs ?_; exact Kd.V_mono (Kd.V_far (p := ⟨gb232, 3, none⟩) (Kd.V_far (p := ⟨gb232, 2, none⟩) (Kd.V_far (p := ⟨gb232, 1, none⟩) (Kd.V_far (p := ⟨gb232, 0, none⟩) (Kd.V_mono HO225.out (fun k_ hk => (⟨hk, hk.2.2⟩ : _ ∧ k_ ≠ gb232))) (fun _ hk => hk.2) (.int .i64 1)) (fun _ hk => hk.2) (.string (⟨#[]⟩ : ByteArray))) (fun _ hk => hk.2) (.int .i64 t253)) (fun _ hk => hk.2) (.int .i64 (wrap64 (Int.tdiv t216 2)))) (fun _ hk => ⟨hk.1.1, ⟨hk.1.2.1, hk.1.2.2⟩⟩)))⟩; have n3_ : Aside0 (w72.heap[gb232]? = some (.cells #[.int .i64 1, .string (⟨#[]⟩ : ByteArray), .int .i64 t253, .int .i64 (wrap64 (Int.tdiv t216 2))] 72 (0, 0))) := ⟨(by rw [hw]; exact bk)⟩; have n4_ : Aside0 (Below w.heap.size w w72) := ⟨(by rw [hw]; exact bz)⟩; clear hw; clear HO_0; clear HO_4; clear HO225; clear BK232; clear HB; have HO_0 := n0_; have HO_4 := n1_; have HO225 := n2_; have BK232 := n3_; have HB := n4_; clear n0_ n1_ n2_ n3_ n4_; have q73 : (t254 : Int) ≤ ((y221.length : Int) : Int) := of_decide_eq_true am; obtain ⟨i073, hi073, _, hsz73, _⟩ := info_parts info5; have hroom73 : y221.length ≤ c26 := (Kd.V_reads' HO225.out).2.1; have hC73 : Kd.F (Kd.int .u8) _ _ A26 y221.length y221 := (Kd.V_at (base := w.heap.size) HO225.out).2.2; have q073 : (0 : Int) ≤ (t254 : Int) := of_decide_eq_true am; have hcut73 := cut_from (P := Try.prog) 22 5 .i64 Try.underlying22 hi073 1 hsz73 A26 y221.length c26 t254 q073 q73; have hr73 := Kd.F_cut (m := (t254 : Int).toNat) (c := c26) hC73 (by omega) hroom73; obtain ⟨A73, hA73⟩ : ∃ A1, A1 = (if c26 = (t254 : Int).toNat then A26 else (A26 : Option Addr).map (·.add ((t254 : Int).toNat * 1))) := ⟨_, rfl⟩; obtain ⟨c73, hc73⟩ : ∃ c1, c1 = c26 - (t254 : Int).toNat := ⟨_, rfl⟩; have hy73 : y258.length = y221.length - (t254 : Int).toNat := (by rw [Ny258.out, List.length_drop] <;> omega); rw [show (y221).drop (t254 : Int).toNat = y258 from Ny258.out.symm] at hr73; replace hr73 : Kd.F (Kd.int .u8) _ _ A73 y258.length y258 := (by rw [hA73]; exact hr73); rw [← hy73, ← hA73, ← hc73] at hcut73; have HO262 := Aside0.mk (show Kd.V (Kd.int .u8) 5 _ w.heap.size _ (.slice A73 y258.length c73) y258 from Kd.V_mk (by rw [hy73, hc73]; exact Nat.sub_le_sub_right hroom73 _) hr73); have HC262 := Aside0.mk (show y258.length ≤ c73 from by rw [hy73, hc73]; exact Nat.sub_le_sub_right hroom73 _); clear hr73 hC73 hroom73 hi073 hsz73 hc73; have KY73 := Aside0.mk hy73; have KA73 := Aside0.mk hA73; clear hy73 hA73; replace q73 := eq_true q73; obtain ⟨hcz74_0, hcz74_1, hcz74_2, hcz74_3, hfz74_0, hfz74_1, hfz74_2, hfz74_3⟩ := bc4 BK232.out) | ((with_reducible refine gate_callee (f := 46) rfl ?_); refine goesL_ (some 70) rfl rfl Try.func46 (by kernel_rfl) rfl #[.agg #[.int .i64 1, .string (⟨#[]⟩ : ByteArray), .int .i64 t253, .int .i64 (wrap64 (Int.tdiv t216 2))]] rfl mt ?_; (with_reducible refine (spec_TokenOk.calls 1 (⟨#[]⟩ : ByteArray) t253 (wrap64 (Int.tdiv t216 2)) true _ A68.out).mono ?_); rintro e w75 ⟨rfl, hb⟩; refine ⟨_, rfl, ?_⟩; have n0_ := Aside0.mk (Kd.V_below (by refine vs ?_; exact HO_0.out) hb); have n1_ := Aside0.mk (Kd.R_below (by refine rs ?_; exact HO_4.out) hb); have n2_ := Aside0.mk (Kd.V_below (by refine vs ?_; exact HO225.out) hb); have n3_ := Aside0.mk (Kd.V_below (by refine vs ?_; exact HO262.out) hb); have n4_ := Aside0.mk (blk_below (bo BK232) hb); have n5_ := Aside0.mk (below_step bz hb); clear HO_0; clear HO_4; clear HO225; clear HO262; clear BK232; clear HB; have HO_0 := n0_; have HO_4 := n1_; have HO225 := n2_; have HO262 := n3_; have BK232 := n4_; have HB := n5_; clear n0_ n1_ n2_ n3_ n4_ n5_; (try clear hb); (try clear hb2); (try clear hk); (try clear hi); obtain ⟨hcz76_0, hcz76_1, hcz76_2, hcz76_3, hfz76_0, hfz76_1, hfz76_2, hfz76_3⟩ := bc4 BK232.out) | ((with_reducible refine gate_dst (N := 82) rfl ?_); (try (refine gate_guard (by rfl) ?_; dsimp only)); refine Kd.R_lit k72 _ 72 ?hg (N := 82) ?hd (xs := ([] : List (S72))) (inner := []) (ok := fun _ => True) (okp := fun _ => True) ?hr ?hp (fun _ hk => hk) trivial (Below.refl _ _) (Nat.le_refl _) (by simp) ?_; (case hd => rfl); (case hg => rfl); (case hr => first | (go_simp; done) | (go_simp; rfl)); (case hp => exact (Reps.none _ _)); intro v265 w77 ho78 hb hg_ hnew_; clear hg_ hnew_; (first | rw [← Ny264.out] at ho78 | (simp only [Int.reduceToNat] at ho78; rw [← Ny264.out] at ho78)); have n0_ := Aside0.mk (Kd.V_elder' (by refine vs ?_; exact HO_0.out) (Kd.R_base ho78) hb); have n1_ := Aside0.mk (Kd.R_elder' (by refine rs ?_; exact HO_4.out) (Kd.R_base ho78) hb); have n2_ := Aside0.mk (Kd.V_elder' (by refine vs ?_; exact HO225.out) (Kd.R_base ho78) hb); have n3_ := Aside0.mk (Kd.V_elder' (by refine vs ?_; exact HO262.out) (Kd.R_base ho78) hb); have n4_ := Aside0.mk (Kd.R_lower (Kd.R_newB (Kd.R_new' (Kd.R_newM (M := fun k_ => (w.heap.size ≤ k_)) ho78 (below_size bz) (fun k_ h_ => h_)) (Kd.R_lt (by refine rs ?_; exact HO_4.out))) (g := gb232) (o := .cells #[.int .i64 1, .string (⟨#[]⟩ : ByteArray), .int .i64 t253, .int .i64 (wrap64 (Int.tdiv t216 2))] 72 (0, 0)) (bo BK232)) (below_size bz)); have n5_ := Aside0.mk (blk_below (bo BK232) hb); have n6_ := Aside0.mk (below_step bz hb); clear HO_0; clear HO_4; clear HO225; clear HO262; clear BK232; clear HB; have HO_0 := n0_; have HO_4 := n1_; have HO225 := n2_; have HO262 := n3_; have HO266 := n4_; have BK232 := n5_; have HB := n6_; clear n0_ n1_ n2_ n3_ n4_ n5_ n6_; clear hb ho78))
             go_ret2
             exact ⟨_, rq, by refine rs ?_; exact Kd.R_mono HO266.out (fun _ hk => hk.1.1.1), bz⟩
            ·rw [if_neg c70] at H
             have c70b0 : decide (1000000 < t253) = false := decide_eq_false c70
             clear c70
             have HC79 := Aside0.mk H
             clear H
             obtain ⟨hcz80_0, hcz80_1, hcz80_2, hcz80_3, hfz80_0, hfz80_1, hfz80_2, hfz80_3⟩ := bc4 BK232.out
             go_upto_if 81 with (first | ((with_reducible refine gate_store (t := 72) (p := 7) rfl ?_); refine store_event (t := 72) (p := 7) (v := ?vo_w81) (w1 := ((((w62.setCell ⟨gb232, 0, none⟩ (.int .i64 1)).setCell ⟨gb232, 1, none⟩ (.string (⟨#[]⟩ : ByteArray))).setCell ⟨gb232, 2, none⟩ (.int .i64 t253)).setCell ⟨gb232, 3, none⟩ (.int .i64 (wrap64 (Int.tdiv t216 2))))) ?hg ?ho ?hn ?hr ?_; (case ho => rfl); (case hg => rfl); (case hn => rfl); (case hr => first | (go_simp; done) | (go_simp; rfl)); intro w81 hw; have n0_ : Aside0 (Kd.V (Kd.int .u8) 5 w81 w.heap.size (fun k_ => (P0_ k_ ∨ w.heap.size ≤ k_) ∧ some k_ ≠ (u4 : Value).ownBlock ∧ k_ ≠ gb232) (.slice Ao6 x0_1.length co6) x0_1) := ⟨(by rw [hw]; exact (by refine vs ?_; exact Kd.V_mono (Kd.V_far (p := ⟨gb232, 3, none⟩) (Kd.V_far (p := ⟨gb232, 2, none⟩) (Kd.V_far (p := ⟨gb232, 1, none⟩) (Kd.V_far (p := ⟨gb232, 0, none⟩) (Kd.V_mono HO_0.out (fun k_ hk => (⟨hk, hk.2.2⟩ : _ ∧ k_ ≠ gb232))) (fun _ hk => hk.2) (.int .i64 1)) (fun _ hk => hk.2) (.string (⟨#[]⟩ : ByteArray))) (fun _ hk => hk.2) (.int .i64 t253)) (fun _ hk => hk.2) (.int .i64 (wrap64 (Int.tdiv t216 2)))) (fun _ hk => ⟨hk.1.1, ⟨hk.1.2.1, hk.1.2.2⟩⟩)))⟩; have n1_ : Aside0 (Kd.R k72 72 w81 w.heap.size (fun k_ => (w.heap.size ≤ k_) ∧ k_ ≠ gb232) u4 x4_1) := ⟨(by rw [hw]; exact (by refine rs ?_; exact Kd.R_mono (Kd.rf (Kd.rf (Kd.rf (Kd.rf (Kd.R_mono HO_4.out (fun k_ hk => (⟨hk, hk.2⟩ : _ ∧ k_ ≠ gb232))))))) (fun _ hk => ⟨hk.1.1, hk.1.2⟩)))⟩; have n2_ : Aside0 (Kd.V (Kd.int .u8) 5 w81 w.heap.size (fun k_ => (P0_ k_ ∨ w.heap.size ≤ k_) ∧ some k_ ≠ (u4 : Value).ownBlock ∧ k_ ≠ gb232) (.slice A26 y221.length c26) y221) := ⟨(by rw [hw]; exact (by refine vs ?_; exact Kd.V_mono (Kd.V_far (p := ⟨gb232, 3, none⟩) (Kd.V_far (p := ⟨gb232, 2, none⟩) (Kd.V_far (p := ⟨gb232, 1, none⟩) (Kd.V_far (p := ⟨gb232, 0, none⟩) (Kd.V_mono HO225.out (fun k_ hk => (⟨hk, hk.2.2⟩ : _ ∧ k_ ≠ gb232))) (fun _ hk => hk.2) (.int .i64 1)) (fun _ hk => hk.2) (.string (⟨#[]⟩ : ByteArray))) (fun _ hk => hk.2) (.int .i64 t253)) (fun _ hk => hk.2) (.int .i64 (wrap64 (Int.tdiv t216 2)))) (fun _ hk => ⟨hk.1.1, ⟨hk.1.2.1, hk.1.2.2⟩⟩)))⟩; have n3_ : Aside0 (w81.heap[gb232]? = some (.cells #[.int .i64 1, .string (⟨#[]⟩ : ByteArray), .int .i64 t253, .int .i64 (wrap64 (Int.tdiv t216 2))] 72 (0, 0))) := ⟨(by rw [hw]; exact bk)⟩; have n4_ : Aside0 (Below w.heap.size w w81) := ⟨(by rw [hw]; exact bz)⟩; clear hw; clear HO_0; clear HO_4; clear HO225; clear BK232; clear HB; have HO_0 := n0_; have HO_4 := n1_; have HO225 := n2_; have BK232 := n3_; have HB := n4_; clear n0_ n1_ n2_ n3_ n4_; have q82 : (t254 : Int) ≤ ((y221.length : Int) : Int) := of_decide_eq_true am; obtain ⟨i082, hi082, _, hsz82, _⟩ := info_parts info5; have hroom82 : y221.length ≤ c26 := (Kd.V_reads' HO225.out).2.1; have hC82 : Kd.F (Kd.int .u8) _ _ A26 y221.length y221 := (Kd.V_at (base := w.heap.size) HO225.out).2.2; have q082 : (0 : Int) ≤ (t254 : Int) := of_decide_eq_true am; have hcut82 := cut_from (P := Try.prog) 22 5 .i64 Try.underlying22 hi082 1 hsz82 A26 y221.length c26 t254 q082 q82; have hr82 := Kd.F_cut (m := (t254 : Int).toNat) (c := c26) hC82 (by omega) hroom82; obtain ⟨A82, hA82⟩ : ∃ A1, A1 = (if c26 = (t254 : Int).toNat then A26 else (A26 : Option Addr).map (·.add ((t254 : Int).toNat * 1))) := ⟨_, rfl⟩; obtain ⟨c82, hc82⟩ : ∃ c1, c1 = c26 - (t254 : Int).toNat := ⟨_, rfl⟩; have hy82 : y258.length = y221.length - (t254 : Int).toNat := (by rw [Ny258.out, List.length_drop] <;> omega); rw [show (y221).drop (t254 : Int).toNat = y258 from Ny258.out.symm] at hr82; replace hr82 : Kd.F (Kd.int .u8) _ _ A82 y258.length y258 := (by rw [hA82]; exact hr82); rw [← hy82, ← hA82, ← hc82] at hcut82; have HO262 := Aside0.mk (show Kd.V (Kd.int .u8) 5 _ w.heap.size _ (.slice A82 y258.length c82) y258 from Kd.V_mk (by rw [hy82, hc82]; exact Nat.sub_le_sub_right hroom82 _) hr82); have HC262 := Aside0.mk (show y258.length ≤ c82 from by rw [hy82, hc82]; exact Nat.sub_le_sub_right hroom82 _); clear hr82 hC82 hroom82 hi082 hsz82 hc82; have KY82 := Aside0.mk hy82; have KA82 := Aside0.mk hA82; clear hy82 hA82; replace q82 := eq_true q82; obtain ⟨hcz83_0, hcz83_1, hcz83_2, hcz83_3, hfz83_0, hfz83_1, hfz83_2, hfz83_3⟩ := bc4 BK232.out) | ((with_reducible refine gate_callee (f := 46) rfl ?_); refine goesL_ (some 70) rfl rfl Try.func46 (by kernel_rfl) rfl #[.agg #[.int .i64 1, .string (⟨#[]⟩ : ByteArray), .int .i64 t253, .int .i64 (wrap64 (Int.tdiv t216 2))]] rfl mt ?_; (with_reducible refine (spec_TokenOk.calls 1 (⟨#[]⟩ : ByteArray) t253 (wrap64 (Int.tdiv t216 2)) true _ A68.out).mono ?_); rintro e w84 ⟨rfl, hb⟩; refine ⟨_, rfl, ?_⟩; have n0_ := Aside0.mk (Kd.V_below (by refine vs ?_; exact HO_0.out) hb); have n1_ := Aside0.mk (Kd.R_below (by refine rs ?_; exact HO_4.out) hb); have n2_ := Aside0.mk (Kd.V_below (by refine vs ?_; exact HO225.out) hb); have n3_ := Aside0.mk (Kd.V_below (by refine vs ?_; exact HO262.out) hb); have n4_ := Aside0.mk (blk_below (bo BK232) hb); have n5_ := Aside0.mk (below_step bz hb); clear HO_0; clear HO_4; clear HO225; clear HO262; clear BK232; clear HB; have HO_0 := n0_; have HO_4 := n1_; have HO225 := n2_; have HO262 := n3_; have BK232 := n4_; have HB := n5_; clear n0_ n1_ n2_ n3_ n4_ n5_; (try clear hb); (try clear hb2); (try clear hk); (try clear hi); obtain ⟨hcz85_0, hcz85_1, hcz85_2, hcz85_3, hfz85_0, hfz85_1, hfz85_2, hfz85_3⟩ := bc4 BK232.out))
             (try simp only [Act.put, List.setIfInBounds_toArray, List.set_cons_zero, List.set_cons_succ])
             have H := HC79.out
             clear HC79
             by_cases c86 : (wrap64 (Int.tdiv t216 2)) > 1000000
             ·rw [if_pos c86] at H
              have c86b0 : decide (1000000 < (wrap64 (Int.tdiv t216 2))) = true := decide_eq_true c86
              clear c86
              (first | rw [c86b0] | (simp only [i64_w, i32_w]; rw [c86b0]) | skip)
              obtain ⟨y267, hy267⟩ : ∃ y_ : List (S72), y_ = (([] : List (S72))) := ⟨_, rfl⟩
              replace H : (some (y267, false)) = some (r1, r2) := by first | (rw [hy267]; with_reducible exact H) | (have H2_ := (Option.bind_some _ _).symm.trans H; rw [hy267]; with_reducible exact H2_) | (have H2_ := (Option.bind_some _ _).symm.trans H; with_reducible exact H2_) | with_reducible exact H | (rw [hy267]; exact H) | exact H
              have Ny267 := Aside0.mk hy267
              clear hy267
              simp only [Option.some.injEq, Prod.mk.injEq] at H
              obtain ⟨rfl, rfl⟩ := H
              go_wp2_with (first | ((with_reducible refine gate_dst (N := 82) rfl ?_); (try (refine gate_guard (by rfl) ?_; dsimp only)); refine Kd.R_lit k72 _ 72 ?hg (N := 82) ?hd (xs := ([] : List (S72))) (inner := []) (ok := fun _ => True) (okp := fun _ => True) ?hr ?hp (fun _ hk => hk) trivial (Below.refl _ _) (Nat.le_refl _) (by simp) ?_; (case hd => rfl); (case hg => rfl); (case hr => first | (go_simp; done) | (go_simp; rfl)); (case hp => exact (Reps.none _ _)); intro v268 w87 ho88 hb hg_ hnew_; clear hg_ hnew_; (first | rw [← Ny267.out] at ho88 | (simp only [Int.reduceToNat] at ho88; rw [← Ny267.out] at ho88)); have n0_ := Aside0.mk (Kd.V_elder' (by refine vs ?_; exact HO_0.out) (Kd.R_base ho88) hb); have n1_ := Aside0.mk (Kd.R_elder' (by refine rs ?_; exact HO_4.out) (Kd.R_base ho88) hb); have n2_ := Aside0.mk (Kd.V_elder' (by refine vs ?_; exact HO225.out) (Kd.R_base ho88) hb); have n3_ := Aside0.mk (Kd.V_elder' (by refine vs ?_; exact HO262.out) (Kd.R_base ho88) hb); have n4_ := Aside0.mk (Kd.R_lower (Kd.R_newB (Kd.R_new' (Kd.R_newM (M := fun k_ => (w.heap.size ≤ k_)) ho88 (below_size bz) (fun k_ h_ => h_)) (Kd.R_lt (by refine rs ?_; exact HO_4.out))) (g := gb232) (o := .cells #[.int .i64 1, .string (⟨#[]⟩ : ByteArray), .int .i64 t253, .int .i64 (wrap64 (Int.tdiv t216 2))] 72 (0, 0)) (bo BK232)) (below_size bz)); have n5_ := Aside0.mk (blk_below (bo BK232) hb); have n6_ := Aside0.mk (below_step bz hb); clear HO_0; clear HO_4; clear HO225; clear HO262; clear BK232; clear HB; have HO_0 := n0_; have HO_4 := n1_; have HO225 := n2_; have HO262 := n3_; have HO269 := n4_; have BK232 := n5_; have HB := n6_; clear n0_ n1_ n2_ n3_ n4_ n5_ n6_; clear hb ho88))
              go_ret2
              exact ⟨_, rq, by refine rs ?_; exact Kd.R_mono HO269.out (fun _ hk => hk.1.1.1), bz⟩
             ·rw [if_neg c86] at H
              have c86b0 : decide (1000000 < (wrap64 (Int.tdiv t216 2))) = false := decide_eq_false c86
              clear c86
              (first | rw [c86b0] | (simp only [i64_w, i32_w]; rw [c86b0]) | skip)
              by_cases c89 : x4_1.length < 3518437208883
              ·rw [if_pos c89] at H
               have LMc89 := Aside0.mk c89
               clear c89
               obtain ⟨y270, hy270⟩ : ∃ y_ : List (S72), y_ = (x4_1 ++ [(⟨1, (⟨#[]⟩ : ByteArray), t253, wrap64 (Int.tdiv t216 2)⟩ : S72)]) := ⟨_, rfl⟩
               replace H : (spec_GetTokens.l0 k1 y258 y270) = some (r1, r2) := by first | (rw [hy270]; with_reducible exact H) | (have H2_ := (Option.bind_some _ _).symm.trans H; rw [hy270]; with_reducible exact H2_) | (have H2_ := (Option.bind_some _ _).symm.trans H; with_reducible exact H2_) | with_reducible exact H | (rw [hy270]; exact H) | exact H
               have Ny270 := Aside0.mk hy270
               clear hy270
               have H' := Aside0.mk H
               clear H
               obtain ⟨hcz90_0, hcz90_1, hcz90_2, hcz90_3, hfz90_0, hfz90_1, hfz90_2, hfz90_3⟩ := bc4 BK232.out
               go_wp2_with (first | ((with_reducible refine gate_builtin (b := .append) (xs := #[.tmp 83, .tmp 85]) rfl ?_); (try (refine gate_guard (by rfl) ?_; dsimp only)); at_builtin; refine Kd.R_append k72 (w0 := w) w.heap.size rfl (.tmp 83) (.tmp 85) 27 72 (.agg #[(.int .i64 0), (.string ⟨#[]⟩), (.int .i64 0), (.int .i64 0)]) 40 rfl Try.underlying27 info72 rfl (by decide) (by omega) u4 x4_1 (⟨1, (⟨#[]⟩ : ByteArray), t253, wrap64 (Int.tdiv t216 2)⟩ : S72) [.int .i64 1, .string (⟨#[]⟩ : ByteArray), .int .i64 t253, .int .i64 (wrap64 (Int.tdiv t216 2))] (fun k_ => (w.heap.size ≤ k_) ∧ k_ ≠ gb232) (fun _ => False) rfl rfl ?aP (fun _ hk => hk.elim) ?aF ?aO ?aB ?aS ?aL ?_; (case aP => exact k72_mkM _ _ _ (⟨1, (⟨#[]⟩ : ByteArray), t253, wrap64 (Int.tdiv t216 2)⟩ : S72)); (case aB => exact bz); (case aF => exact (fun k_ hk => ⟨(Nat.le_trans (below_size bz) hk), Kd.freshB (g := gb232) (o := .cells #[.int .i64 1, .string (⟨#[]⟩ : ByteArray), .int .i64 t253, .int .i64 (wrap64 (Int.tdiv t216 2))] 72 (0, 0)) (bo BK232) k_ hk⟩)); (case aO => exact (by refine rs ?_; exact HO_4.out)); (case aS => exact (below_size bz)); (case aL => have := LMc89.out; omega); intro v271 w91 ho hb hg hat; rw [← Ny270.out] at ho; have n0_ := Aside0.mk (Kd.V_afterv (ok := (fun k_ => (P0_ k_ ∨ w.heap.size ≤ k_) ∧ k_ ≠ gb232)) (by refine vs ?_; exact Kd.V_mono HO_0.out (fun _ hk => ⟨⟨hk.1, hk.2.2⟩, hk.2.1⟩)) hg hat); have n1_ := Aside0.mk (Kd.V_afterv (ok := (fun k_ => (P0_ k_ ∨ w.heap.size ≤ k_) ∧ k_ ≠ gb232)) (by refine vs ?_; exact Kd.V_mono HO225.out (fun _ hk => ⟨⟨hk.1, hk.2.2⟩, hk.2.1⟩)) hg hat); have n2_ := Aside0.mk (blk_grown (g := gb232) (o := .cells #[.int .i64 1, .string (⟨#[]⟩ : ByteArray), .int .i64 t253, .int .i64 (wrap64 (Int.tdiv t216 2))] 72 (0, 0)) (bo BK232) hg (Kd.R_away HO_4.out (fun _ hk => hk.2))); have n3_ := Aside0.mk (Kd.V_afterv (ok := (fun k_ => (P0_ k_ ∨ w.heap.size ≤ k_) ∧ k_ ≠ gb232)) (by refine vs ?_; exact Kd.V_mono HO262.out (fun _ hk => ⟨⟨hk.1, hk.2.2⟩, hk.2.1⟩)) hg hat); have n4_ := Aside0.mk (hb); have n5_ := Aside0.mk (ho); clear HO_0; clear HO225; clear BK232; clear HO262; clear HB; clear HO_4; have HO_0 := n0_; have HO225 := n1_; have BK232 := n2_; have HO262 := n3_; have HB := n4_; have HO272 := n5_; clear n0_ n1_ n2_ n3_ n4_ n5_; clear ho hb hg hat))
               go_roundg k1
               case measure => have := HK1.out; omega
               case rel => exact ⟨(y258), (y270), H', ⟨by have := HK1.out; omega⟩, ⟨by refine vs ?_; exact Kd.V_mono HO262.out (fun _ hk => ⟨hk.1.1, hk.2⟩)⟩, ⟨by refine rs ?_; exact Kd.R_mono HO272.out (fun _ hk => hk.1)⟩, ⟨bz⟩⟩
              ·rw [if_neg c89] at H
               exact absurd H (by simp)
           ·replace c69 := Bool.eq_false_iff.mpr c69
            subst c69
            have H1 : (some ((([] : List (S72))), false)) = some (r1, r2) := by rw [if_neg (show ¬ (false = true) by decide)] at H; exact H
            clear H
            have H := H1
            clear H1
            obtain ⟨y273, hy273⟩ : ∃ y_ : List (S72), y_ = (([] : List (S72))) := ⟨_, rfl⟩
            replace H : (some (y273, false)) = some (r1, r2) := by first | (rw [hy273]; with_reducible exact H) | (have H2_ := (Option.bind_some _ _).symm.trans H; rw [hy273]; with_reducible exact H2_) | (have H2_ := (Option.bind_some _ _).symm.trans H; with_reducible exact H2_) | with_reducible exact H | (rw [hy273]; exact H) | exact H
            have Ny273 := Aside0.mk hy273
            clear hy273
            simp only [Option.some.injEq, Prod.mk.injEq] at H
            obtain ⟨rfl, rfl⟩ := H
            obtain ⟨hcz92_0, hcz92_1, hcz92_2, hcz92_3, hfz92_0, hfz92_1, hfz92_2, hfz92_3⟩ := bc4 BK232.out
            go_wp2_with (first | ((with_reducible refine gate_store (t := 72) (p := 7) rfl ?_); refine store_event (t := 72) (p := 7) (v := ?vo_w93) (w1 := ((((w62.setCell ⟨gb232, 0, none⟩ (.int .i64 1)).setCell ⟨gb232, 1, none⟩ (.string (⟨#[]⟩ : ByteArray))).setCell ⟨gb232, 2, none⟩ (.int .i64 t253)).setCell ⟨gb232, 3, none⟩ (.int .i64 (wrap64 (Int.tdiv t216 2))))) ?hg ?ho ?hn ?hr ?_; (case ho => rfl); (case hg => rfl); (case hn => rfl); (case hr => first | (go_simp; done) | (go_simp; rfl)); intro w93 hw; have n0_ : Aside0 (Kd.V (Kd.int .u8) 5 w93 w.heap.size (fun k_ => (P0_ k_ ∨ w.heap.size ≤ k_) ∧ some k_ ≠ (u4 : Value).ownBlock ∧ k_ ≠ gb232) (.slice Ao6 x0_1.length co6) x0_1) := ⟨(by rw [hw]; exact (by refine vs ?_; exact Kd.V_mono (Kd.V_far (p := ⟨gb232, 3, none⟩) (Kd.V_far (p := ⟨gb232, 2, none⟩) (Kd.V_far (p := ⟨gb232, 1, none⟩) (Kd.V_far (p := ⟨gb232, 0, none⟩) (Kd.V_mono HO_0.out (fun k_ hk => (⟨hk, hk.2.2⟩ : _ ∧ k_ ≠ gb232))) (fun _ hk => hk.2) (.int .i64 1)) (fun _ hk => hk.2) (.string (⟨#[]⟩ : ByteArray))) (fun _ hk => hk.2) (.int .i64 t253)) (fun _ hk => hk.2) (.int .i64 (wrap64 (Int.tdiv t216 2)))) (fun _ hk => ⟨hk.1.1, ⟨hk.1.2.1, hk.1.2.2⟩⟩)))⟩; have n1_ : Aside0 (Kd.R k72 72 w93 w.heap.size (fun k_ => (w.heap.size ≤ k_) ∧ k_ ≠ gb232) u4 x4_1) := ⟨(by rw [hw]; exact (by refine rs ?_; exact Kd.R_mono (Kd.rf (Kd.rf (Kd.rf (Kd.rf (Kd.R_mono HO_4.out (fun k_ hk => (⟨hk, hk.2⟩ : _ ∧ k_ ≠ gb232))))))) (fun _ hk => ⟨hk.1.1, hk.1.2⟩)))⟩; have n2_ : Aside0 (Kd.V (Kd.int .u8) 5 w93 w.heap.size (fun k_ => (P0_ k_ ∨ w.heap.size ≤ k_) ∧ some k_ ≠ (u4 : Value).ownBlock ∧ k_ ≠ gb232) (.slice A26 y221.length c26) y221) := ⟨(by rw [hw]; exact (by refine vs ?_; exact Kd.V_mono (Kd.V_far (p := ⟨gb232, 3, none⟩) (Kd.V_far (p := ⟨gb232, 2, none⟩) (Kd.V_far (p := ⟨gb232, 1, none⟩) (Kd.V_far (p := ⟨gb232, 0, none⟩) (Kd.V_mono HO225.out (fun k_ hk => (⟨hk, hk.2.2⟩ : _ ∧ k_ ≠ gb232))) (fun _ hk => hk.2) (.int .i64 1)) (fun _ hk => hk.2) (.string (⟨#[]⟩ : ByteArray))) (fun _ hk => hk.2) (.int .i64 t253)) (fun _ hk => hk.2) (.int .i64 (wrap64 (Int.tdiv t216 2)))) (fun _ hk => ⟨hk.1.1, ⟨hk.1.2.1, hk.1.2.2⟩⟩)))⟩; have n3_ : Aside0 (w93.heap[gb232]? = some (.cells #[.int .i64 1, .string (⟨#[]⟩ : ByteArray), .int .i64 t253, .int .i64 (wrap64 (Int.tdiv t216 2))] 72 (0, 0))) := ⟨(by rw [hw]; exact bk)⟩; have n4_ : Aside0 (Below w.heap.size w w93) := ⟨(by rw [hw]; exact bz)⟩; clear hw; clear HO_0; clear HO_4; clear HO225; clear BK232; clear HB; have HO_0 := n0_; have HO_4 := n1_; have HO225 := n2_; have BK232 := n3_; have HB := n4_; clear n0_ n1_ n2_ n3_ n4_; have q94 : (t254 : Int) ≤ ((y221.length : Int) : Int) := of_decide_eq_true am; obtain ⟨i094, hi094, _, hsz94, _⟩ := info_parts info5; have hroom94 : y221.length ≤ c26 := (Kd.V_reads' HO225.out).2.1; have hC94 : Kd.F (Kd.int .u8) _ _ A26 y221.length y221 := (Kd.V_at (base := w.heap.size) HO225.out).2.2; have q094 : (0 : Int) ≤ (t254 : Int) := of_decide_eq_true am; have hcut94 := cut_from (P := Try.prog) 22 5 .i64 Try.underlying22 hi094 1 hsz94 A26 y221.length c26 t254 q094 q94; have hr94 := Kd.F_cut (m := (t254 : Int).toNat) (c := c26) hC94 (by omega) hroom94; obtain ⟨A94, hA94⟩ : ∃ A1, A1 = (if c26 = (t254 : Int).toNat then A26 else (A26 : Option Addr).map (·.add ((t254 : Int).toNat * 1))) := ⟨_, rfl⟩; obtain ⟨c94, hc94⟩ : ∃ c1, c1 = c26 - (t254 : Int).toNat := ⟨_, rfl⟩; have hy94 : y258.length = y221.length - (t254 : Int).toNat := (by rw [Ny258.out, List.length_drop] <;> omega); rw [show (y221).drop (t254 : Int).toNat = y258 from Ny258.out.symm] at hr94; replace hr94 : Kd.F (Kd.int .u8) _ _ A94 y258.length y258 := (by rw [hA94]; exact hr94); rw [← hy94, ← hA94, ← hc94] at hcut94; have HO262 := Aside0.mk (show Kd.V (Kd.int .u8) 5 _ w.heap.size _ (.slice A94 y258.length c94) y258 from Kd.V_mk (by rw [hy94, hc94]; exact Nat.sub_le_sub_right hroom94 _) hr94); have HC262 := Aside0.mk (show y258.length ≤ c94 from by rw [hy94, hc94]; exact Nat.sub_le_sub_right hroom94 _); clear hr94 hC94 hroom94 hi094 hsz94 hc94; have KY94 := Aside0.mk hy94; have KA94 := Aside0.mk hA94; clear hy94 hA94; replace q94 := eq_true q94; obtain ⟨hcz95_0, hcz95_1, hcz95_2, hcz95_3, hfz95_0, hfz95_1, hfz95_2, hfz95_3⟩ := bc4 BK232.out) | ((with_reducible refine gate_callee (f := 46) rfl ?_); refine goesL_ (some 70) rfl rfl Try.func46 (by kernel_rfl) rfl #[.agg #[.int .i64 1, .string (⟨#[]⟩ : ByteArray), .int .i64 t253, .int .i64 (wrap64 (Int.tdiv t216 2))]] rfl mt ?_; (with_reducible refine (spec_TokenOk.calls 1 (⟨#[]⟩ : ByteArray) t253 (wrap64 (Int.tdiv t216 2)) false _ A68.out).mono ?_); rintro e w96 ⟨rfl, hb⟩; refine ⟨_, rfl, ?_⟩; have n0_ := Aside0.mk (Kd.V_below (by refine vs ?_; exact HO_0.out) hb); have n1_ := Aside0.mk (Kd.R_below (by refine rs ?_; exact HO_4.out) hb); have n2_ := Aside0.mk (Kd.V_below (by refine vs ?_; exact HO225.out) hb); have n3_ := Aside0.mk (Kd.V_below (by refine vs ?_; exact HO262.out) hb); have n4_ := Aside0.mk (blk_below (bo BK232) hb); have n5_ := Aside0.mk (below_step bz hb); clear HO_0; clear HO_4; clear HO225; clear HO262; clear BK232; clear HB; have HO_0 := n0_; have HO_4 := n1_; have HO225 := n2_; have HO262 := n3_; have BK232 := n4_; have HB := n5_; clear n0_ n1_ n2_ n3_ n4_ n5_; (try clear hb); (try clear hb2); (try clear hk); (try clear hi)) | ((with_reducible refine gate_dst (N := 82) rfl ?_); (try (refine gate_guard (by rfl) ?_; dsimp only)); refine Kd.R_lit k72 _ 72 ?hg (N := 82) ?hd (xs := ([] : List (S72))) (inner := []) (ok := fun _ => True) (okp := fun _ => True) ?hr ?hp (fun _ hk => hk) trivial (Below.refl _ _) (Nat.le_refl _) (by simp) ?_; (case hd => rfl); (case hg => rfl); (case hr => first | (go_simp; done) | (go_simp; rfl)); (case hp => exact (Reps.none _ _)); intro v274 w97 ho98 hb hg_ hnew_; clear hg_ hnew_; (first | rw [← Ny273.out] at ho98 | (simp only [Int.reduceToNat] at ho98; rw [← Ny273.out] at ho98)); have n0_ := Aside0.mk (Kd.V_elder' (by refine vs ?_; exact HO_0.out) (Kd.R_base ho98) hb); have n1_ := Aside0.mk (Kd.R_elder' (by refine rs ?_; exact HO_4.out) (Kd.R_base ho98) hb); have n2_ := Aside0.mk (Kd.V_elder' (by refine vs ?_; exact HO225.out) (Kd.R_base ho98) hb); have n3_ := Aside0.mk (Kd.V_elder' (by refine vs ?_; exact HO262.out) (Kd.R_base ho98) hb); have n4_ := Aside0.mk (Kd.R_lower (Kd.R_newB (Kd.R_new' (Kd.R_newM (M := fun k_ => (w.heap.size ≤ k_)) ho98 (below_size bz) (fun k_ h_ => h_)) (Kd.R_lt (by refine rs ?_; exact HO_4.out))) (g := gb232) (o := .cells #[.int .i64 1, .string (⟨#[]⟩ : ByteArray), .int .i64 t253, .int .i64 (wrap64 (Int.tdiv t216 2))] 72 (0, 0)) (bo BK232)) (below_size bz)); have n5_ := Aside0.mk (blk_below (bo BK232) hb); have n6_ := Aside0.mk (below_step bz hb); clear HO_0; clear HO_4; clear HO225; clear HO262; clear BK232; clear HB; have HO_0 := n0_; have HO_4 := n1_; have HO225 := n2_; have HO262 := n3_; have HO275 := n4_; have BK232 := n5_; have HB := n6_; clear n0_ n1_ n2_ n3_ n4_ n5_ n6_; clear hb ho98))
            go_ret2
            exact ⟨_, rq, by refine rs ?_; exact Kd.R_mono HO275.out (fun _ hk => hk.1.1.1), bz⟩
          ·rw [if_neg c67] at H
           exact absurd H (by simp)
         ·rw [if_neg c66] at H
          exact absurd H (by simp)
     ·rw [if_neg c12] at H
      exact absurd H (by simp)
    ·rw [if_neg c11] at H
     exact absurd H (by simp)

end Go.Proofs.Ytjiaigjmihmdjaa.PFnExactGetMsg
