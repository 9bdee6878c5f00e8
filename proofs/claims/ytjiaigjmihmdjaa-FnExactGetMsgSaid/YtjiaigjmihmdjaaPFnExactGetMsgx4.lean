
/- The machine's side, written by a program of this session (a turned print): each function as a plain Lean function, and that the call comes to it. -/
import Derived.Test.YtjiaigjmihmdjaaPFnExactGetMsgx0
import Derived.Test.YtjiaigjmihmdjaaPFnExactGetMsgx1
import Derived.Test.YtjiaigjmihmdjaaPFnExactGetMsgx3
namespace Go.Proofs.Ytjiaigjmihmdjaa.PFnExactGetMsg
open Go.RowKit Go.Proofs.YtjiaigjmihmdjaaW.PrintWords Go.Proofs.YtjiaigjmihmdjaaW.PrintLast Go.Proofs.YtjiaigjmihmdjaaW.PrintMore
attribute [local go_sem] max2_int min2_int max_two min_two max_three min_three max_four min_four   -- for this text's walks alone
set_option linter.unusedVariables false
set_option linter.unusedSimpArgs false

/-! ### spec_GetSig: function 21 -/
mutual
def spec_GetSig.l0 : Nat → List Int → List Int → Option (Int × Int × List Int × List ByteArray × Bool)
 | 0, _, _ => none
 | k + 1, x0, x5 => if (x5.length : Int) < 3 then ((spec_GetVar.f k x0).bind fun bt180 => (if bt180.2 = 0 then (some (0, 0, ([] : List Int), ([] : List ByteArray), false)) else (if x5.length < 17592186044416 then (if 0 ≤ bt180.2 then (if bt180.2 ≤ (x0.length : Int) then (spec_GetSig.l0 k (x0.drop (bt180.2 : Int).toNat) (x5 ++ [bt180.1])) else (none)) else (none)) else (none)))) else (if 2 < (x5.length : Int) then (if (rd x5 2) > 2500 then (spec_GetSig.j1 k x0 x5 true) else (spec_GetSig.j1 k x0 x5 ((x0.length : Int) != (wrap64 (8 * (rd x5 2)))))) else (none))
def spec_GetSig.j1 : Nat → List Int → List Int → Bool → Option (Int × Int × List Int × List ByteArray × Bool)
 | 0, _, _, _ => none
 | k + 1, x0, x5, x43 => if x43 = true then (some (0, 0, ([] : List Int), ([] : List ByteArray), false)) else (if 0 < (x5.length : Int) then (if 1 < (x5.length : Int) then (spec_GetSig.l1 k x0 0 (rd x5 0) (rd x5 1) ([] : List Int) ([] : List ByteArray)) else (none)) else (none))
def spec_GetSig.l1 : Nat → List Int → Int → Int → Int → List Int → List ByteArray → Option (Int × Int × List Int × List ByteArray × Bool)
 | 0, _, _, _, _, _, _ => none
 | k + 1, x0, x8, x177000, x177001, x177002, x177003 => if x8 < (x0.length : Int) then (if 0 ≤ x8 then (if x8 ≤ (wrap64 (x8 + 4)) then (if (wrap64 (x8 + 4)) ≤ (x0.length : Int) then ((spec_GetWord.f ((x0.take ((wrap64 (x8 + 4)) : Int).toNat).drop (x8 : Int).toNat)).bind fun bt199 => (if x177002.length < 35184372088832 then (if 0 ≤ (wrap64 (x8 + 4)) then (if (wrap64 (x8 + 4)) ≤ (wrap64 (x8 + 8)) then (if (wrap64 (x8 + 8)) ≤ (x0.length : Int) then (if x177003.length < 8796093022208 then (spec_GetSig.l1 k x0 (wrap64 (x8 + 8)) x177000 x177001 (x177002 ++ [bt199.1]) (x177003 ++ [strOfNums ((x0.take ((wrap64 (x8 + 8)) : Int).toNat).drop ((wrap64 (x8 + 4)) : Int).toNat)])) else (none)) else (none)) else (none)) else (none)) else (none))) else (none)) else (none)) else (none)) else ((spec_SigOk.f k x177000 x177001 x177002 x177003).bind fun t212 => (if t212 = true then (some (x177000, x177001, x177002, x177003, true)) else (some (0, 0, ([] : List Int), ([] : List ByteArray), false))))
end
def spec_GetSig.f (k : Nat) (l0 : List Int) : Option (Int × Int × List Int × List ByteArray × Bool) := spec_GetSig.l0 k l0 (([] : List Int))
theorem spec_GetSig.mono_l : ∀ k, (∀ y0 y1, LeO (spec_GetSig.l0 k y0 y1) (spec_GetSig.l0 (k + 1) y0 y1)) ∧ (∀ y0 y1 y2, LeO (spec_GetSig.j1 k y0 y1 y2) (spec_GetSig.j1 (k + 1) y0 y1 y2)) ∧ (∀ y0 y1 y2 y3 y4 y5, LeO (spec_GetSig.l1 k y0 y1 y2 y3 y4 y5) (spec_GetSig.l1 (k + 1) y0 y1 y2 y3 y4 y5))
 | 0 => ⟨fun _ _ r h => by simp [spec_GetSig.l0] at h, fun _ _ _ r h => by simp [spec_GetSig.j1] at h, fun _ _ _ _ _ _ r h => by simp [spec_GetSig.l1] at h⟩
 | k + 1 => by
  obtain ⟨ih0, ih1, ih2⟩ := spec_GetSig.mono_l k
  refine ⟨?_, ?_, ?_⟩
  ·intro y0 y1
   unfold spec_GetSig.l0
   repeat' first | (with_reducible first | exact ih0 _ _ | exact ih1 _ _ _ | exact ih2 _ _ _ _ _ _ | exact spec_GetVar.mono _ _ | exact spec_SigOk.mono _ _ _ _ _ | exact LeO.refl _ | exact LeO.none _ | refine LeO.ite ?_ ?_ | refine LeO.bind ?_ (fun _ => ?_)) | exact ih0 _ _ | exact ih1 _ _ _ | exact ih2 _ _ _ _ _ _ | exact spec_GetVar.mono _ _ | exact spec_SigOk.mono _ _ _ _ _ | exact LeO.none _ | refine LeO.ite ?_ ?_ | refine LeO.bind ?_ (fun _ => ?_)
  ·intro y0 y1 y2
   unfold spec_GetSig.j1
   repeat' first | (with_reducible first | exact ih0 _ _ | exact ih1 _ _ _ | exact ih2 _ _ _ _ _ _ | exact spec_GetVar.mono _ _ | exact spec_SigOk.mono _ _ _ _ _ | exact LeO.refl _ | exact LeO.none _ | refine LeO.ite ?_ ?_ | refine LeO.bind ?_ (fun _ => ?_)) | exact ih0 _ _ | exact ih1 _ _ _ | exact ih2 _ _ _ _ _ _ | exact spec_GetVar.mono _ _ | exact spec_SigOk.mono _ _ _ _ _ | exact LeO.none _ | refine LeO.ite ?_ ?_ | refine LeO.bind ?_ (fun _ => ?_)
  ·intro y0 y1 y2 y3 y4 y5
   unfold spec_GetSig.l1
   repeat' first | (with_reducible first | exact ih0 _ _ | exact ih1 _ _ _ | exact ih2 _ _ _ _ _ _ | exact spec_GetVar.mono _ _ | exact spec_SigOk.mono _ _ _ _ _ | exact LeO.refl _ | exact LeO.none _ | refine LeO.ite ?_ ?_ | refine LeO.bind ?_ (fun _ => ?_)) | exact ih0 _ _ | exact ih1 _ _ _ | exact ih2 _ _ _ _ _ _ | exact spec_GetVar.mono _ _ | exact spec_SigOk.mono _ _ _ _ _ | exact LeO.none _ | refine LeO.ite ?_ ?_ | refine LeO.bind ?_ (fun _ => ?_)
theorem spec_GetSig.mono : ∀ a0 k, LeO (spec_GetSig.f k a0) (spec_GetSig.f (k + 1) a0) := by
 intro a0 k
 obtain ⟨ih0, ih1, ih2⟩ := spec_GetSig.mono_l k
 unfold spec_GetSig.f
 repeat' first | (with_reducible first | exact ih0 _ _ | exact ih1 _ _ _ | exact ih2 _ _ _ _ _ _ | exact spec_GetVar.mono _ _ | exact spec_SigOk.mono _ _ _ _ _ | exact LeO.refl _ | exact LeO.none _ | refine LeO.ite ?_ ?_ | refine LeO.bind ?_ (fun _ => ?_)) | exact ih0 _ _ | exact ih1 _ _ _ | exact ih2 _ _ _ _ _ _ | exact spec_GetVar.mono _ _ | exact spec_SigOk.mono _ _ _ _ _ | exact LeO.none _ | refine LeO.ite ?_ ?_ | refine LeO.bind ?_ (fun _ => ?_)
def spec_GetSig.T18 : Bool × List (List Nat × List Nat) := (true, [([], []), ([0], [0]), ([], []), ([], []), ([3], [3]), ([], []), ([5], [5]), ([2, 4, 6], [2, 4, 6]), ([7], [7]), ([8], [8]), ([1, 9], [1, 9]), ([0, 1, 2, 3, 4, 5, 6, 7, 8, 9, 10], []), ([11, 10, 10, 0, 1, 2, 3, 4, 5, 6, 7, 8, 9, 10], [10, 11])])
def spec_GetSig.B18 : List Nat := [0, 1, 0, 0, 8, 0, 32, 124, 252, 508, 1023, 2047, 4095]
theorem spec_GetSig.tab18 : rtab .any (opsOf Try.f21 18) = spec_GetSig.T18 := by kernel_rfl
theorem spec_GetSig.bits18 : waitsOk spec_GetSig.T18.2 spec_GetSig.B18 = true := by kernel_rfl
set_option maxHeartbeats 8000000 in
set_option maxRecDepth 100000 in
theorem spec_GetSig.calls (k : Nat) (P0_ : Nat → Prop) (A0 : Option Addr) (c0 : Nat) (l0 : List Int) (r1 : Int) (r2 : Int) (r3 : List Int) (r4 : List ByteArray) (r5 : Bool) (w : World) (hs0 : Kd.V (Kd.int .u8) 5 w w.heap.size (fun k_ => P0_ k_) (.slice A0 l0.length c0) l0) (h : spec_GetSig.f k l0 = some (r1, r2, r3, r4, r5)) :
  Calls Try.prog 21 #[.slice A0 l0.length c0] w fun e w' => ∃ v2_ v3_ : Value, e = .returned (.tuple #[.agg #[.int .i64 r1, .int .i64 r2, v2_, v3_], .bool r5]) ∧ Kd.R (Kd.int .u32) 60 w' w.heap.size (fun k_ => (w.heap.size ≤ k_)) v2_ r3 ∧ Kd.R Kd.string 9 w' w.heap.size (fun k_ => (w.heap.size ≤ k_)) v3_ r4 ∧ Below w.heap.size w w' := by
 have hu26 := Try.underlying26
 have HO0 := Aside0.mk (show Kd.V (Kd.int .u8) 5 w w.heap.size (fun k_ => (P0_ k_ ∨ w.heap.size ≤ k_)) (.slice A0 l0.length c0) l0 from Kd.V_mono hs0 (fun k_ hk => .inl hk))
 have HB := Aside0.mk (Below.refl w.heap.size w)
 have H : (spec_GetSig.l0 k l0 (([] : List Int))) = some (r1, r2, r3, r4, r5) := h
 clear h
 obtain ⟨y177, hy177⟩ : ∃ y_ : List Int, y_ = (([] : List Int)) := ⟨_, rfl⟩
 replace H : (spec_GetSig.l0 k l0 y177) = some (r1, r2, r3, r4, r5) := by first | (rw [hy177]; with_reducible exact H) | (have H2_ := (Option.bind_some _ _).symm.trans H; rw [hy177]; with_reducible exact H2_) | (have H2_ := (Option.bind_some _ _).symm.trans H; with_reducible exact H2_) | with_reducible exact H | (rw [hy177]; exact H) | exact H
 have Ny177 := Aside0.mk hy177
 clear hy177
 have H' := Aside0.mk H
 clear H
 go_enter Try.func21, Try.ntmps21
 go_wp2_with (first | ((with_reducible refine gate_dst (N := 2) rfl ?_); (try (refine gate_guard (by rfl) ?_; dsimp only)); refine box_event ?hg (N := 2) ?hd (cs := #[.int .i64 0, .int .i64 0, .slice none 0 0, .slice none 0 0]) (t := 26) ?hr ?_; (case hd => rfl); (case hg => rfl); (case hr => first | (go_simp; done) | (go_simp; rfl)); intro gb175 hg w2 hbox hb; have n0_ := Aside0.mk (Kd.V_below (Kd.V_elderB (by refine vs ?_; exact HO0.out) gb175 (Nat.le_of_eq hg.symm)) hb); have n1_ := Aside0.mk (below_step bz hb); have n2_ := Aside0.mk (hbox); have n3_ := Aside0.mk (bg : w.heap.size ≤ gb175); have n4_ := Aside0.mk (bg : w.heap.size ≤ gb175); clear HO0; clear HB; have HO0 := n0_; have HB := n1_; have BK175 := n2_; have GW175 := n3_; have GE175 := n4_; clear n0_ n1_ n2_ n3_ n4_; clear hb hbox hg) | ((with_reducible refine gate_dst (N := 4) rfl ?_); (try (refine gate_guard (by rfl) ?_; dsimp only)); refine box_event ?hg (N := 4) ?hd (cs := #[.int .i64 0, .int .i64 0, .slice none 0 0, .slice none 0 0]) (t := 26) ?hr ?_; (case hd => rfl); (case hg => rfl); (case hr => first | (go_simp; done) | (go_simp; rfl)); intro gb176 hg w3 hbox hb; have n0_ := Aside0.mk (Kd.V_below (Kd.V_elderB (by refine vs ?_; exact HO0.out) gb176 (Nat.le_of_eq hg.symm)) hb); have n1_ := Aside0.mk (blk_below (bo BK175) hb); have n2_ := Aside0.mk (below_step bz hb); have n3_ := Aside0.mk (hbox); have n4_ := Aside0.mk (bg : w.heap.size ≤ gb176); have n5_ := Aside0.mk (bg : w.heap.size ≤ gb176); have n6_ := Aside0.mk ((by rw [hg]; exact Nat.ne_of_lt (blk_lt (bo BK175)) : gb175 ≠ gb176)); have n7_ := Aside0.mk ((by rw [hg]; exact Nat.ne_of_gt (blk_lt (bo BK175)) : gb176 ≠ gb175)); clear HO0; clear BK175; clear HB; have HO0 := n0_; have BK175 := n1_; have HB := n2_; have BK176 := n3_; have GW176 := n4_; have GE176 := n5_; have NB175_176 := n6_; have NB176_175 := n7_; clear n0_ n1_ n2_ n3_ n4_ n5_ n6_ n7_; clear hb hbox hg; have hnb4 := NB176_175.out; have hnc4 := NB175_176.out; obtain ⟨hcz5_0, hcz5_1, hcz5_2, hcz5_3, hfz5_0, hfz5_1, hfz5_2, hfz5_3⟩ := bc4 BK176.out) | ((with_reducible refine gate_dst (N := 12) rfl ?_); (try (refine gate_guard (by rfl) ?_; dsimp only)); refine Kd.R_lit (Kd.int .i64) _ 3 ?hg (N := 12) ?hd (xs := ([] : List Int)) (inner := []) (ok := fun _ => True) (okp := fun _ => True) ?hr ?hp (fun _ hk => hk) trivial (Below.refl _ _) (Nat.le_refl _) (by simp) ?_; (case hd => rfl); (case hg => rfl); (case hr => first | (go_simp; done) | (go_simp; rfl)); (case hp => exact (Reps.none _ _)); intro v178 w6 ho7 hb hg_ hnew_; clear hg_ hnew_; (first | rw [← Ny177.out] at ho7 | (simp only [Int.reduceToNat] at ho7; rw [← Ny177.out] at ho7)); have n0_ := Aside0.mk (Kd.V_elder' (by refine vs ?_; exact (Kd.V_mono (Kd.V_far (p := ⟨gb176, 3, none⟩) (Kd.V_far (p := ⟨gb176, 2, none⟩) (Kd.V_far (p := ⟨gb176, 1, none⟩) (Kd.V_far (p := ⟨gb176, 0, none⟩) (Kd.V_mono HO0.out (fun k_ hk => (⟨hk, hk.2⟩ : _ ∧ k_ ≠ gb176))) (fun _ hk => hk.2) (.int .i64 0)) (fun _ hk => hk.2) (.int .i64 0)) (fun _ hk => hk.2) (.slice none 0 0)) (fun _ hk => hk.2) (.slice none 0 0)) (fun _ h_ => h_.1))) (Kd.R_base ho7) hb); have n1_ := Aside0.mk (Kd.R_lower (Kd.R_newM (M := fun k_ => (w.heap.size ≤ k_)) ho7 (below_size bz) (fun k_ h_ => h_)) (below_size bz)); have n2_ := Aside0.mk (blk_below (bo BK175) hb); have n3_ := Aside0.mk (blk_below (g := gb176) (o := .cells #[.int .i64 0, .int .i64 0, .slice none 0 0, .slice none 0 0] 26 (0, 0)) bk hb); have n4_ := Aside0.mk (below_step bz hb); clear HO0; clear BK175; clear BK176; clear HB; have HO0 := n0_; have HO179 := n1_; have BK175 := n2_; have BK176 := n3_; have HB := n4_; clear n0_ n1_ n2_ n3_ n4_; clear hb ho7))
 go_loopg [0, 5] k (fun kq v0 v5 w' => ∃ (x0_1 : List Int) (x5_1 : List Int) (x176000_1 : Int) (x176001_1 : Int), Aside0 (spec_GetSig.l0 kq x0_1 x5_1 = some (r1, r2, r3, r4, r5)) ∧ Aside0 (kq ≤ k) ∧ Aside0 (Kd.V (Kd.int .u8) 5 w' w.heap.size (fun k_ => (P0_ k_ ∨ w.heap.size ≤ k_) ∧ some k_ ≠ (v5 : Value).ownBlock ∧ k_ ≠ gb175 ∧ k_ ≠ gb176) v0 x0_1) ∧ Aside0 (Kd.R (Kd.int .i64) 3 w' w.heap.size (fun k_ => (w.heap.size ≤ k_)) v5 x5_1) ∧ Aside0 (w'.heap[gb175]? = some (.cells #[.int .i64 x176000_1, .int .i64 x176001_1, (.slice none 0 0), (.slice none 0 0)] 26 (0, 0))) ∧ Aside0 (w'.heap[gb176]? = some (.cells #[.int .i64 0, .int .i64 0, (.slice none 0 0), (.slice none 0 0)] 26 (0, 0))) ∧ Aside0 (Below w.heap.size w w'))
 case atStart => exact ⟨(l0), (y177), (0), (0), H', ⟨Nat.le_refl _⟩, ⟨by refine vs ?_; exact Kd.V_mono HO0.out (fun _ hk => ⟨hk.1.1.1, ⟨hk.2, ⟨hk.1.1.2, hk.1.2⟩⟩⟩)⟩, ⟨by refine rs ?_; exact Kd.R_mono HO179.out (fun _ hk => hk.1)⟩, ⟨(bo BK175)⟩, ⟨(bo BK176)⟩, ⟨bz⟩⟩
 case round =>
  clear H'
  try clear c2
  try clear p2
  try clear c4
  try clear hcz5_0 hcz5_1 hcz5_2 hcz5_3 hfz5_0 hfz5_1 hfz5_2 hfz5_3
  obtain ⟨x0_1, x5_1, x176000_1, x176001_1, HA, HK1, HO_0, HO_5, BK175, BK176, HB⟩ := hrel
  cases gk with
  | zero => exact absurd HA.out (by simp [spec_GetSig.l0])
  | succ k1 =>
   have H := HA.out
   clear HA
   simp only [spec_GetSig.l0] at H
   by_cases c8 : (x5_1.length : Int) < 3
   ·rw [if_pos c8] at H
    have c8b0 : decide ((x5_1.length : Int) < 3) = true := decide_eq_true c8
    have c8b1 : decide (x5_1.length < 3) = true := decide_eq_true (by omega)
    clear c8
    replace H := Option.bind_eq_some_iff.mp H
    obtain ⟨⟨t180, t181⟩, A90, H⟩ := H
    try dsimp -simprocs only at H
    have A9 := Aside0.mk A90
    clear A90
    have HC10 := Aside0.mk H
    clear H
    obtain ⟨Ao11, co11, eo11⟩ := Kd.R_slice HO_5.out
    subst eo11
    obtain ⟨Ao12, co12, eo12⟩ := Kd.V_slice HO_0.out
    subst eo12
    go_upto_if 22 with (first | ((with_reducible refine gate_callee (f := 20) rfl ?_); refine goesL_ (some 18) rfl rfl Try.func20 (by kernel_rfl) rfl #[.slice Ao12 x0_1.length co12] rfl mt ?_; (with_reducible refine (spec_GetVar.calls k1 _ _ x0_1 t180 t181 _ ?side1 ?side2 A9.out).mono ?_); (case side1 => repeat (first | exact (Kd.V_reads' HO_0.out).2.2 | (with_reducible refine Kd.C_alloc ?_ _) | (with_reducible refine Kd.C_drewN ?_ _) | (with_reducible refine Kd.C_drew ?_))); (case side2 => exact (Kd.V_reads' HO_0.out).2.1); rintro e w13 ⟨rfl, hb⟩; refine ⟨_, rfl, ?_⟩; have n0_ := Aside0.mk (Kd.V_below (by refine vs ?_; exact HO_0.out) hb); have n1_ := Aside0.mk (Kd.R_below (by refine rs ?_; exact HO_5.out) hb); have n2_ := Aside0.mk (blk_below (bo BK175) hb); have n3_ := Aside0.mk (blk_below (bo BK176) hb); have n4_ := Aside0.mk (below_step bz hb); clear HO_0; clear HO_5; clear BK175; clear BK176; clear HB; have HO_0 := n0_; have HO_5 := n1_; have BK175 := n2_; have BK176 := n3_; have HB := n4_; clear n0_ n1_ n2_ n3_ n4_; (try clear hb); (try clear hb2); (try clear hk); (try clear hi)))
    (try simp only [Act.put, List.setIfInBounds_toArray, List.set_cons_zero, List.set_cons_succ])
    have H := HC10.out
    clear HC10
    by_cases c14 : t181 = 0
    ·rw [if_pos c14] at H
     have c14b0 : (t181 == 0) = true := beq_iff_eq.mpr c14
     have c14b1 : (t181 != 0) = false := bne_eq_false_iff_eq.mpr c14
     clear c14
     (first | rw [c14b0] | (simp only [i64_w, i32_w]; rw [c14b0]) | skip)
     simp only [Option.some.injEq, Prod.mk.injEq] at H
     obtain ⟨rfl, rfl, rfl, rfl, rfl⟩ := H
     have hnb15 := NB175_176.out
     have hnc15 := NB176_175.out
     obtain ⟨hcz16_0, hcz16_1, hcz16_2, hcz16_3, hfz16_0, hfz16_1, hfz16_2, hfz16_3⟩ := bc4 BK175.out
     go_wp2
     refine bodyPost_ret (results_ct rfl _ _ gb175 26 #[.int .i64 0, .int .i64 0, .slice none 0 0, .slice none 0 0] (0, 0) _ rfl bk Try.underlying26 rfl (by kernel_rfl)) rfl ?_
     exact ⟨_, _, rq, nz, nz, bz⟩
    ·rw [if_neg c14] at H
     have c14b0 : (t181 == 0) = false := beq_eq_false_iff_ne.mpr c14
     have c14b1 : (t181 != 0) = true := bne_iff_ne.mpr c14
     (first | rw [c14b0] | (simp only [i64_w, i32_w]; rw [c14b0]) | skip)
     by_cases c17 : x5_1.length < 17592186044416
     ·rw [if_pos c17] at H
      have LMc17 := Aside0.mk c17
      clear c17
      obtain ⟨y182, hy182⟩ : ∃ y_ : List Int, y_ = (x5_1 ++ [t180]) := ⟨_, rfl⟩
      replace H : (if 0 ≤ t181 then (if t181 ≤ (x0_1.length : Int) then (spec_GetSig.l0 k1 (x0_1.drop (t181 : Int).toNat) y182) else (none)) else (none)) = some (r1, r2, r3, r4, r5) := by first | (rw [hy182]; with_reducible exact H) | (have H2_ := (Option.bind_some _ _).symm.trans H; rw [hy182]; with_reducible exact H2_) | (have H2_ := (Option.bind_some _ _).symm.trans H; with_reducible exact H2_) | with_reducible exact H | (rw [hy182]; exact H) | exact H
      have Ny182 := Aside0.mk hy182
      clear hy182
      by_cases c18 : 0 ≤ t181
      ·rw [if_pos c18] at H
       have c18b0 := eq_true c18
       have c18b1 : decide (0 ≤ t181) = true := decide_eq_true c18
       clear c18
       by_cases c19 : t181 ≤ (x0_1.length : Int)
       ·rw [if_pos c19] at H
        have c19b0 := eq_true c19
        have c19b1 : decide (t181 ≤ (x0_1.length : Int)) = true := decide_eq_true c19
        clear c19
        obtain ⟨y185, hy185⟩ : ∃ y_ : List Int, y_ = (x0_1.drop (t181 : Int).toNat) := ⟨_, rfl⟩
        replace H : (spec_GetSig.l0 k1 y185 y182) = some (r1, r2, r3, r4, r5) := by first | (rw [hy185]; with_reducible exact H) | (have H2_ := (Option.bind_some _ _).symm.trans H; rw [hy185]; with_reducible exact H2_) | (have H2_ := (Option.bind_some _ _).symm.trans H; with_reducible exact H2_) | with_reducible exact H | (rw [hy185]; exact H) | exact H
        have Ny185 := Aside0.mk hy185
        clear hy185
        have H' := Aside0.mk H
        clear H
        go_wp2_with (first | ((with_reducible refine gate_builtin (b := .append) (xs := #[.tmp 24, .tmp 26]) rfl ?_); (try (refine gate_guard (by rfl) ?_; dsimp only)); at_builtin; refine Kd.R_append (Kd.int .i64) (w0 := w) w.heap.size rfl (.tmp 24) (.tmp 26) 74 3 (.int .i64 0) 8 rfl Try.underlying74 info3 rfl (by decide) (by omega) (.slice Ao11 x5_1.length co11) x5_1 t180 [.int .i64 t180] (fun k_ => (w.heap.size ≤ k_)) (fun _ => False) rfl rfl ?aP (fun _ hk => hk.elim) ?aF ?aO ?aB ?aS ?aL ?_; (case aP => exact rfl); (case aB => exact bz); (case aF => exact (fun k_ hk => (Nat.le_trans (below_size bz) hk))); (case aO => exact (by refine rs ?_; exact HO_5.out)); (case aS => exact (below_size bz)); (case aL => have := LMc17.out; omega); intro v183 w20 ho hb hg hat; rw [← Ny182.out] at ho; have n0_ := Aside0.mk (Kd.V_afterv (ok := (fun k_ => (P0_ k_ ∨ w.heap.size ≤ k_) ∧ k_ ≠ gb175 ∧ k_ ≠ gb176)) (by refine vs ?_; exact Kd.V_mono HO_0.out (fun _ hk => ⟨⟨hk.1, ⟨hk.2.2.1, hk.2.2.2⟩⟩, hk.2.1⟩)) hg hat); have n1_ := Aside0.mk (blk_grown (g := gb175) (o := .cells #[.int .i64 x176000_1, .int .i64 x176001_1, .slice none 0 0, .slice none 0 0] 26 (0, 0)) (bo BK175) hg (Kd.R_ne HO_5.out BK175.out (by decide))); have n2_ := Aside0.mk (blk_grown (g := gb176) (o := .cells #[.int .i64 0, .int .i64 0, .slice none 0 0, .slice none 0 0] 26 (0, 0)) (bo BK176) hg (Kd.R_ne HO_5.out BK176.out (by decide))); have n3_ := Aside0.mk (hb); have n4_ := Aside0.mk (ho); clear HO_0; clear BK175; clear BK176; clear HB; clear HO_5; have HO_0 := n0_; have BK175 := n1_; have BK176 := n2_; have HB := n3_; have HO184 := n4_; clear n0_ n1_ n2_ n3_ n4_; clear ho hb hg hat; have q21 : (t181 : Int) ≤ ((x0_1.length : Int) : Int) := of_decide_eq_true am; obtain ⟨i021, hi021, _, hsz21, _⟩ := info_parts info5; have hroom21 : x0_1.length ≤ co12 := (Kd.V_reads' HO_0.out).2.1; have hC21 : Kd.F (Kd.int .u8) _ _ Ao12 x0_1.length x0_1 := (Kd.V_at (base := w.heap.size) HO_0.out).2.2; have q021 : (0 : Int) ≤ (t181 : Int) := of_decide_eq_true am; have hcut21 := cut_from (P := Try.prog) 22 5 .i64 Try.underlying22 hi021 1 hsz21 Ao12 x0_1.length co12 t181 q021 q21; have hr21 := Kd.F_cut (m := (t181 : Int).toNat) (c := co12) hC21 (by omega) hroom21; obtain ⟨A21, hA21⟩ : ∃ A1, A1 = (if co12 = (t181 : Int).toNat then Ao12 else (Ao12 : Option Addr).map (·.add ((t181 : Int).toNat * 1))) := ⟨_, rfl⟩; obtain ⟨c21, hc21⟩ : ∃ c1, c1 = co12 - (t181 : Int).toNat := ⟨_, rfl⟩; have hy21 : y185.length = x0_1.length - (t181 : Int).toNat := (by rw [Ny185.out, List.length_drop] <;> omega); rw [show (x0_1).drop (t181 : Int).toNat = y185 from Ny185.out.symm] at hr21; replace hr21 : Kd.F (Kd.int .u8) _ _ A21 y185.length y185 := (by rw [hA21]; exact hr21); rw [← hy21, ← hA21, ← hc21] at hcut21; have HO189 := Aside0.mk (show Kd.V (Kd.int .u8) 5 _ w.heap.size _ (.slice A21 y185.length c21) y185 from Kd.V_mk (by rw [hy21, hc21]; exact Nat.sub_le_sub_right hroom21 _) hr21); have HC189 := Aside0.mk (show y185.length ≤ c21 from by rw [hy21, hc21]; exact Nat.sub_le_sub_right hroom21 _); clear hr21 hC21 hroom21 hi021 hsz21 hc21; have KY21 := Aside0.mk hy21; have KA21 := Aside0.mk hA21; clear hy21 hA21; replace q21 := eq_true q21))
        go_roundg k1
        case measure => have := HK1.out; omega
        case rel => exact ⟨(y185), (y182), (x176000_1), (x176001_1), H', ⟨by have := HK1.out; omega⟩, ⟨by refine vs ?_; exact Kd.V_mono HO189.out (fun _ hk => ⟨hk.1.1, ⟨hk.2, ⟨hk.1.2.1, hk.1.2.2⟩⟩⟩)⟩, ⟨by refine rs ?_; exact HO184.out⟩, ⟨(bo BK175)⟩, ⟨(bo BK176)⟩, ⟨bz⟩⟩
       ·rw [if_neg c19] at H
        exact absurd H (by simp)
      ·rw [if_neg c18] at H
       exact absurd H (by simp)
     ·rw [if_neg c17] at H
      exact absurd H (by simp)
   ·rw [if_neg c8] at H
    have c8b0 : decide ((x5_1.length : Int) < 3) = false := decide_eq_false c8
    have c8b1 : decide (x5_1.length < 3) = false := decide_eq_false (by omega)
    clear c8
    have HC22 := Aside0.mk H
    clear H
    obtain ⟨Ao23, co23, eo23⟩ := Kd.R_slice HO_5.out
    subst eo23
    go_upto_region 9 with (fail)
    go_cut [43] (fun v43 wc => ∃ (kq : Nat) (x43_21 : Bool), v43 = .bool x43_21 ∧ Aside0 (spec_GetSig.j1 kq x0_1 x5_1 x43_21 = some (r1, r2, r3, r4, r5)) ∧ Aside0 (kq ≤ k1) ∧ Aside0 (Kd.V (Kd.int .u8) 5 wc w.heap.size (fun k_ => (P0_ k_ ∨ w.heap.size ≤ k_) ∧ some k_ ≠ ((.slice Ao23 x5_1.length co23) : Value).ownBlock ∧ k_ ≠ gb175 ∧ k_ ≠ gb176) u0 x0_1) ∧ Aside0 (Kd.R (Kd.int .i64) 3 wc w.heap.size (fun k_ => (w.heap.size ≤ k_)) (.slice Ao23 x5_1.length co23) x5_1) ∧ Aside0 (wc.heap[gb175]? = some (.cells #[.int .i64 x176000_1, .int .i64 x176001_1, (.slice none 0 0), (.slice none 0 0)] 26 (0, 0))) ∧ Aside0 (wc.heap[gb176]? = some (.cells #[.int .i64 0, .int .i64 0, (.slice none 0 0), (.slice none 0 0)] 26 (0, 0))) ∧ Aside0 (Below w.heap.size w wc))
    case first =>
     have H := HC22.out
     clear HC22
     by_cases c24 : 2 < (x5_1.length : Int)
     ·rw [if_pos c24] at H
      have c24b0 : decide (2 < (x5_1.length : Int)) = true := decide_eq_true c24
      have c24b1 : decide (2 < x5_1.length) = true := decide_eq_true (by omega)
      clear c24
      (first | rw [c24b0] | (simp only [i64_w, i32_w]; rw [c24b0]) | skip)
      by_cases c25 : (rd x5_1 2) > 2500
      ·rw [if_pos c25] at H
       have c25b0 : decide (2500 < (rd x5_1 2)) = true := decide_eq_true c25
       clear c25
       have H' := Aside0.mk H
       clear H
       have p190 : 0 ≤ (2 : Int) := (by omega)
       have q190 : 2 < (x5_1.length : Int) := of_decide_eq_true am
       obtain ⟨ad190, e190, hx190_0⟩ := Kd.at_int (Kd.R_reads' HO_5.out).2.2 2 p190 q190
       cases e190
       (try simp only [show (2 : Int).toNat = 2 from rfl, Nat.reduceMul, Nat.reduceEqDiff, Go.Addr.add, ↓reduceIte] at hx190_0)
       have qi190 : (2 < x5_1.length) = True := eq_true (by omega)
       (try rw [show ((2 : Int)).toNat = 2 from rfl] at hx190_0)
       replace p190 := eq_true p190
       replace q190 := eq_true q190
       go_wp2
       go_meet
       case rel => exact ⟨_, (true), sd, H', ⟨by have := HK1.out; first | omega | exact Nat.le_refl _⟩, ⟨by refine vs ?_; exact HO_0.out⟩, ⟨by refine rs ?_; exact HO_5.out⟩, ⟨(bo BK175)⟩, ⟨(bo BK176)⟩, ⟨bz⟩⟩
      ·rw [if_neg c25] at H
       have c25b0 : decide (2500 < (rd x5_1 2)) = false := decide_eq_false c25
       clear c25
       have H' := Aside0.mk H
       clear H
       have p190 : 0 ≤ (2 : Int) := (by omega)
       have q190 : 2 < (x5_1.length : Int) := of_decide_eq_true am
       obtain ⟨ad190, e190, hx190_0⟩ := Kd.at_int (Kd.R_reads' HO_5.out).2.2 2 p190 q190
       cases e190
       (try simp only [show (2 : Int).toNat = 2 from rfl, Nat.reduceMul, Nat.reduceEqDiff, Go.Addr.add, ↓reduceIte] at hx190_0)
       have qi190 : (2 < x5_1.length) = True := eq_true (by omega)
       (try rw [show ((2 : Int)).toNat = 2 from rfl] at hx190_0)
       replace p190 := eq_true p190
       replace q190 := eq_true q190
       obtain ⟨Ao26, co26, eo26⟩ := Kd.V_slice HO_0.out
       subst eo26
       have p191 : 0 ≤ (2 : Int) := (by omega)
       have q191 : 2 < (x5_1.length : Int) := of_decide_eq_true am
       obtain ⟨ad191, e191, hx191_0⟩ := Kd.at_int (Kd.R_reads' HO_5.out).2.2 2 p191 q191
       obtain rfl : ad190 = ad191 := (by injection e191)
       (try simp only [show (2 : Int).toNat = 2 from rfl, Nat.reduceMul, Nat.reduceEqDiff, Go.Addr.add, ↓reduceIte] at hx191_0)
       have qi191 : (2 < x5_1.length) = True := eq_true (by omega)
       (try rw [show ((2 : Int)).toNat = 2 from rfl] at hx191_0)
       replace p191 := eq_true p191
       replace q191 := eq_true q191
       go_wp2
       go_meet
       case rel => exact ⟨_, (((x0_1.length : Int) != (wrap64 (8 * (rd x5_1 2))))), sd, H', ⟨by have := HK1.out; first | omega | exact Nat.le_refl _⟩, ⟨by refine vs ?_; exact HO_0.out⟩, ⟨by refine rs ?_; exact HO_5.out⟩, ⟨(bo BK175)⟩, ⟨(bo BK176)⟩, ⟨bz⟩⟩
     ·rw [if_neg c24] at H
      exact absurd H (by simp)
    case rest =>
     clear HC22
     try clear c1
     try clear p1
     try clear q1
     try clear hx1
     try clear qi1
     try clear c2
     try clear p2
     try clear q2
     try clear c4
     try clear p6
     try clear c8
     try clear c8b0
     try clear c8b1
     try clear c14
     try clear c14b0
     try clear c14b1
     try clear c15
     try clear c17
     try clear c18
     try clear c18b0
     try clear c18b1
     try clear c19
     try clear c19b0
     try clear c19b1
     try clear p19
     try clear q19
     try clear hx19
     try clear qi19
     try clear c20
     try clear c21
     try clear q21
     try clear c24
     try clear c24b0
     try clear c24b1
     try clear c25
     try clear c25b0
     try clear hcz16_0 hcz16_1 hcz16_2 hcz16_3 hfz16_0 hfz16_1 hfz16_2 hfz16_3
     try clear hcz5_0 hcz5_1 hcz5_2 hcz5_3 hfz5_0 hfz5_1 hfz5_2 hfz5_3
     try clear hx190_0
     try clear hx191_0
     try clear p190
     try clear p191
     try clear p2
     try clear q021
     try clear q190
     try clear q191
     try clear q21
     obtain ⟨kq, x43_21, rfl, HA, HJ21, HO_0, HO_5, BK175, BK176, HB⟩ := hcut
     cases kq with
     | zero => exact absurd HA.out (by simp [spec_GetSig.j1])
     | succ kj21 =>
      have H := HA.out
      clear HA
      simp only [spec_GetSig.j1] at H
      by_cases c27 : x43_21 = true
      ·subst c27
       have H1 : (some (0, 0, ([] : List Int), ([] : List ByteArray), false)) = some (r1, r2, r3, r4, r5) := by rw [if_pos rfl] at H; exact H
       clear H
       have H := H1
       clear H1
       simp only [Option.some.injEq, Prod.mk.injEq] at H
       obtain ⟨rfl, rfl, rfl, rfl, rfl⟩ := H
       have hnb28 := NB175_176.out
       have hnc28 := NB176_175.out
       obtain ⟨hcz29_0, hcz29_1, hcz29_2, hcz29_3, hfz29_0, hfz29_1, hfz29_2, hfz29_3⟩ := bc4 BK175.out
       go_wp2
       refine bodyPost_ret (results_ct rfl _ _ gb175 26 #[.int .i64 0, .int .i64 0, .slice none 0 0, .slice none 0 0] (0, 0) _ rfl bk Try.underlying26 rfl (by kernel_rfl)) rfl ?_
       exact ⟨_, _, rq, nz, nz, bz⟩
      ·replace c27 := Bool.eq_false_iff.mpr c27
       subst c27
       have H1 : (if 0 < (x5_1.length : Int) then (if 1 < (x5_1.length : Int) then (spec_GetSig.l1 kj21 x0_1 0 (rd x5_1 0) (rd x5_1 1) ([] : List Int) ([] : List ByteArray)) else (none)) else (none)) = some (r1, r2, r3, r4, r5) := by rw [if_neg (show ¬ (false = true) by decide)] at H; exact H
       clear H
       have H := H1
       clear H1
       by_cases c30 : 0 < (x5_1.length : Int)
       ·rw [if_pos c30] at H
        have c30b0 : decide (0 < (x5_1.length : Int)) = true := decide_eq_true c30
        have c30b1 : decide (0 < x5_1.length) = true := decide_eq_true (by omega)
        clear c30
        by_cases c31 : 1 < (x5_1.length : Int)
        ·rw [if_pos c31] at H
         have c31b0 : decide (1 < (x5_1.length : Int)) = true := decide_eq_true c31
         have c31b1 : decide (1 < x5_1.length) = true := decide_eq_true (by omega)
         clear c31
         have H' := Aside0.mk H
         clear H
         have p192 : 0 ≤ (0 : Int) := (by omega)
         have q192 : 0 < (x5_1.length : Int) := of_decide_eq_true am
         obtain ⟨ad192, e192, hx192_0⟩ := Kd.at_int (Kd.R_reads' HO_5.out).2.2 0 p192 q192
         cases e192
         have qi192 : (0 < x5_1.length) = True := eq_true (by omega)
         (try rw [show ((0 : Int)).toNat = 0 from rfl] at hx192_0)
         (try rw [Addr.add_zero'] at hx192_0)
         replace p192 := eq_true p192
         replace q192 := eq_true q192
         have hnb32 := NB176_175.out
         have hnc32 := NB175_176.out
         obtain ⟨hcz33_0, hcz33_1, hcz33_2, hcz33_3, hfz33_0, hfz33_1, hfz33_2, hfz33_3⟩ := bc4 BK176.out
         have p193 : 0 ≤ (1 : Int) := (by omega)
         have q193 : 1 < (x5_1.length : Int) := of_decide_eq_true am
         obtain ⟨ad193, e193, hx193_0⟩ := Kd.at_int (Kd.R_reads' HO_5.out).2.2 1 p193 q193
         obtain rfl : ad192 = ad193 := (by injection e193)
         (try simp only [show (1 : Int).toNat = 1 from rfl, Nat.reduceMul, Nat.reduceEqDiff, Go.Addr.add, ↓reduceIte] at hx193_0)
         have qi193 : (1 < x5_1.length) = True := eq_true (by omega)
         (try rw [show ((1 : Int)).toNat = 1 from rfl] at hx193_0)
         have hn193_0 : ad192.block ≠ gb176 := Kd.own_blk (Kd.R_ne HO_5.out BK176.out (by decide))
         replace hx193_0 := (cell_far (p := ⟨gb176, 0, none⟩) (by first | (rw [add_block]; exact hn193_0) | (show (Addr.add _ _).block ≠ _; rw [add_block]; exact hn193_0) | exact hn193_0) (.int .i64 (rd x5_1 0))).trans hx193_0
         clear hn193_0
         replace p193 := eq_true p193
         replace q193 := eq_true q193
         go_wp2
         go_loopg [8] kj21 (fun kq v8 w' => ∃ (x8_3 : Int) (x177002_3 : List Int) (x177003_3 : List ByteArray) (u177002 : Value) (u177003 : Value), v8 = .int .i64 x8_3 ∧ Aside0 (spec_GetSig.l1 kq x0_1 x8_3 (rd x5_1 0) (rd x5_1 1) x177002_3 x177003_3 = some (r1, r2, r3, r4, r5)) ∧ Aside0 (kq ≤ kj21) ∧ Aside0 (Kd.V (Kd.int .u8) 5 w' w.heap.size (fun k_ => (P0_ k_ ∨ w.heap.size ≤ k_) ∧ some k_ ≠ (u177002 : Value).ownBlock ∧ some k_ ≠ (u177003 : Value).ownBlock ∧ k_ ≠ gb175 ∧ k_ ≠ gb176) u0 x0_1) ∧ Aside0 (Kd.R (Kd.int .u32) 60 w' w.heap.size (fun k_ => (w.heap.size ≤ k_)) u177002 x177002_3) ∧ Aside0 (Kd.R Kd.string 9 w' w.heap.size (fun k_ => (w.heap.size ≤ k_)) u177003 x177003_3) ∧ Aside0 (w'.heap[gb175]? = some (.cells #[.int .i64 x176000_1, .int .i64 x176001_1, (.slice none 0 0), (.slice none 0 0)] 26 (0, 0))) ∧ Aside0 (w'.heap[gb176]? = some (.cells #[.int .i64 (rd x5_1 0), .int .i64 (rd x5_1 1), u177002, u177003] 26 (0, 0))) ∧ Aside0 (Below w.heap.size w w'))
         case atStart => exact ⟨(0), (([] : List Int)), (([] : List ByteArray)), (.slice none 0 0), (.slice none 0 0), sd, H', ⟨Nat.le_refl _⟩, ⟨by refine vs ?_; exact Kd.V_mono (Kd.V_far (p := ⟨gb176, 1, none⟩) (Kd.V_far (p := ⟨gb176, 0, none⟩) (Kd.V_mono HO_0.out (fun k_ hk => (⟨hk, hk.2.2.2⟩ : _ ∧ k_ ≠ gb176))) (fun _ hk => hk.2) (.int .i64 (rd x5_1 0))) (fun _ hk => hk.2) (.int .i64 (rd x5_1 1))) (fun _ hk => ⟨hk.1.1, ⟨(by simp [Value.ownBlock]), ⟨(by simp [Value.ownBlock]), ⟨hk.1.2.2.1, hk.1.2.2.2⟩⟩⟩⟩)⟩, ⟨nz⟩, ⟨nz⟩, ⟨(bo BK175)⟩, ⟨bk⟩, ⟨bz⟩⟩
         case round =>
          clear H'
          try clear c1
          try clear p1
          try clear q1
          try clear hx1
          try clear qi1
          try clear c2
          try clear p2
          try clear q2
          try clear c3
          try clear c4
          try clear p6
          try clear c8
          try clear c8b0
          try clear c8b1
          try clear c14
          try clear c14b0
          try clear c14b1
          try clear c15
          try clear c17
          try clear c18
          try clear c18b0
          try clear c18b1
          try clear c19
          try clear c19b0
          try clear c19b1
          try clear p19
          try clear q19
          try clear hx19
          try clear qi19
          try clear c20
          try clear c21
          try clear q21
          try clear c24
          try clear c24b0
          try clear c24b1
          try clear c25
          try clear c25b0
          try clear c27
          try clear c28
          try clear c30
          try clear c30b0
          try clear c30b1
          try clear c31
          try clear c31b0
          try clear c31b1
          try clear c32
          try clear hcz16_0 hcz16_1 hcz16_2 hcz16_3 hfz16_0 hfz16_1 hfz16_2 hfz16_3
          try clear hcz29_0 hcz29_1 hcz29_2 hcz29_3 hfz29_0 hfz29_1 hfz29_2 hfz29_3
          try clear hcz33_0 hcz33_1 hcz33_2 hcz33_3 hfz33_0 hfz33_1 hfz33_2 hfz33_3
          try clear hcz5_0 hcz5_1 hcz5_2 hcz5_3 hfz5_0 hfz5_1 hfz5_2 hfz5_3
          try clear hx190_0
          try clear hx191_0
          try clear hx192_0
          try clear hx193_0
          try clear p1
          try clear p19
          try clear p190
          try clear p191
          try clear p192
          try clear p193
          try clear p2
          try clear p6
          try clear q021
          try clear q1
          try clear q19
          try clear q190
          try clear q191
          try clear q192
          try clear q193
          try clear q2
          try clear q21
          obtain ⟨x8_3, x177002_3, x177003_3, u177002, u177003, rfl, HA, HK3, HO_0, HO_177002, HO_177003, BK175, BK176, HB⟩ := hrel
          cases gk with
          | zero => exact absurd HA.out (by simp [spec_GetSig.l1])
          | succ k3 =>
           have H := HA.out
           clear HA
           simp only [spec_GetSig.l1] at H
           by_cases c34 : x8_3 < (x0_1.length : Int)
           ·rw [if_pos c34] at H
            have c34b0 : decide (x8_3 < (x0_1.length : Int)) = true := decide_eq_true c34
            clear c34
            by_cases c35 : 0 ≤ x8_3
            ·rw [if_pos c35] at H
             have c35b0 := eq_true c35
             have c35b1 : decide (0 ≤ x8_3) = true := decide_eq_true c35
             clear c35
             by_cases c36 : x8_3 ≤ (wrap64 (x8_3 + 4))
             ·rw [if_pos c36] at H
              have c36b0 := eq_true c36
              have c36b1 : decide (x8_3 ≤ (wrap64 (x8_3 + 4))) = true := decide_eq_true c36
              by_cases c37 : (wrap64 (x8_3 + 4)) ≤ (x0_1.length : Int)
              ·rw [if_pos c37] at H
               have c37b0 := eq_true c37
               have c37b1 : decide ((wrap64 (x8_3 + 4)) ≤ (x0_1.length : Int)) = true := decide_eq_true c37
               obtain ⟨y194, hy194⟩ : ∃ y_ : List Int, y_ = ((x0_1.take ((wrap64 (x8_3 + 4)) : Int).toNat).drop (x8_3 : Int).toNat) := ⟨_, rfl⟩
               replace H : ((spec_GetWord.f y194).bind fun bt199 => (if x177002_3.length < 35184372088832 then (if 0 ≤ (wrap64 (x8_3 + 4)) then (if (wrap64 (x8_3 + 4)) ≤ (wrap64 (x8_3 + 8)) then (if (wrap64 (x8_3 + 8)) ≤ (x0_1.length : Int) then (if x177003_3.length < 8796093022208 then (spec_GetSig.l1 k3 x0_1 (wrap64 (x8_3 + 8)) (rd x5_1 0) (rd x5_1 1) (x177002_3 ++ [bt199.1]) (x177003_3 ++ [strOfNums ((x0_1.take ((wrap64 (x8_3 + 8)) : Int).toNat).drop ((wrap64 (x8_3 + 4)) : Int).toNat)])) else (none)) else (none)) else (none)) else (none)) else (none))) = some (r1, r2, r3, r4, r5) := by first | (rw [hy194]; with_reducible exact H) | (have H2_ := (Option.bind_some _ _).symm.trans H; rw [hy194]; with_reducible exact H2_) | (have H2_ := (Option.bind_some _ _).symm.trans H; with_reducible exact H2_) | with_reducible exact H | (rw [hy194]; exact H) | exact H
               have Ny194 := Aside0.mk hy194
               clear hy194
               replace H := Option.bind_eq_some_iff.mp H
               obtain ⟨⟨t199, t200⟩, A380, H⟩ := H
               try dsimp -simprocs only at H
               have A38 := Aside0.mk A380
               clear A380
               by_cases c39 : x177002_3.length < 35184372088832
               ·rw [if_pos c39] at H
                have LMc39 := Aside0.mk c39
                clear c39
                obtain ⟨y201, hy201⟩ : ∃ y_ : List Int, y_ = (x177002_3 ++ [t199]) := ⟨_, rfl⟩
                replace H : (if 0 ≤ (wrap64 (x8_3 + 4)) then (if (wrap64 (x8_3 + 4)) ≤ (wrap64 (x8_3 + 8)) then (if (wrap64 (x8_3 + 8)) ≤ (x0_1.length : Int) then (if x177003_3.length < 8796093022208 then (spec_GetSig.l1 k3 x0_1 (wrap64 (x8_3 + 8)) (rd x5_1 0) (rd x5_1 1) y201 (x177003_3 ++ [strOfNums ((x0_1.take ((wrap64 (x8_3 + 8)) : Int).toNat).drop ((wrap64 (x8_3 + 4)) : Int).toNat)])) else (none)) else (none)) else (none)) else (none)) = some (r1, r2, r3, r4, r5) := by first | (rw [hy201]; with_reducible exact H) | (have H2_ := (Option.bind_some _ _).symm.trans H; rw [hy201]; with_reducible exact H2_) | (have H2_ := (Option.bind_some _ _).symm.trans H; with_reducible exact H2_) | with_reducible exact H | (rw [hy201]; exact H) | exact H
                have Ny201 := Aside0.mk hy201
                clear hy201
                obtain ⟨ji40, hji40⟩ : ∃ j_ : Int, (wrap64 (x8_3 + 4)) = j_ := ⟨_, rfl⟩
                replace H : (if 0 ≤ (ji40) then (if (ji40) ≤ (wrap64 (x8_3 + 8)) then (if (wrap64 (x8_3 + 8)) ≤ (x0_1.length : Int) then (if x177003_3.length < 8796093022208 then (spec_GetSig.l1 k3 x0_1 (wrap64 (x8_3 + 8)) (rd x5_1 0) (rd x5_1 1) y201 (x177003_3 ++ [strOfNums ((x0_1.take ((wrap64 (x8_3 + 8)) : Int).toNat).drop ((ji40) : Int).toNat)])) else (none)) else (none)) else (none)) else (none)) = some (r1, r2, r3, r4, r5) := by first | (rw [hji40] at H; exact H) | (simp only [hji40] at H ⊢; exact H)
                (try rw [hji40] at c36b0)
                (try rw [hji40] at c36b1)
                (try rw [hji40] at c36)
                (try rw [hji40] at c37b0)
                (try rw [hji40] at c37b1)
                (try rw [hji40] at c37)
                (try rw [hji40] at Ny194)
                (try rw [hji40] at A38)
                have hji40w : (IntKind.i64.wrap (x8_3 + 4)) = ji40 := (i64_w _).trans hji40
                by_cases c41 : 0 ≤ (ji40)
                ·rw [if_pos c41] at H
                 have c41b0 := eq_true c41
                 have c41b1 : decide (0 ≤ (ji40)) = true := decide_eq_true c41
                 clear c41
                 by_cases c42 : (ji40) ≤ (wrap64 (x8_3 + 8))
                 ·rw [if_pos c42] at H
                  have c42b0 := eq_true c42
                  have c42b1 : decide ((ji40) ≤ (wrap64 (x8_3 + 8))) = true := decide_eq_true c42
                  by_cases c43 : (wrap64 (x8_3 + 8)) ≤ (x0_1.length : Int)
                  ·rw [if_pos c43] at H
                   have c43b0 := eq_true c43
                   have c43b1 : decide ((wrap64 (x8_3 + 8)) ≤ (x0_1.length : Int)) = true := decide_eq_true c43
                   obtain ⟨y204, hy204⟩ : ∃ y_ : List Int, y_ = ((x0_1.take ((wrap64 (x8_3 + 8)) : Int).toNat).drop ((ji40) : Int).toNat) := ⟨_, rfl⟩
                   replace H : (if x177003_3.length < 8796093022208 then (spec_GetSig.l1 k3 x0_1 (wrap64 (x8_3 + 8)) (rd x5_1 0) (rd x5_1 1) y201 (x177003_3 ++ [strOfNums y204])) else (none)) = some (r1, r2, r3, r4, r5) := by first | (rw [hy204]; with_reducible exact H) | (have H2_ := (Option.bind_some _ _).symm.trans H; rw [hy204]; with_reducible exact H2_) | (have H2_ := (Option.bind_some _ _).symm.trans H; with_reducible exact H2_) | with_reducible exact H | (rw [hy204]; exact H) | exact H
                   have Ny204 := Aside0.mk hy204
                   clear hy204
                   by_cases c44 : x177003_3.length < 8796093022208
                   ·rw [if_pos c44] at H
                    have LMc44 := Aside0.mk c44
                    clear c44
                    obtain ⟨y209, hy209⟩ : ∃ y_ : List ByteArray, y_ = (x177003_3 ++ [strOfNums y204]) := ⟨_, rfl⟩
                    replace H : (spec_GetSig.l1 k3 x0_1 (wrap64 (x8_3 + 8)) (rd x5_1 0) (rd x5_1 1) y201 y209) = some (r1, r2, r3, r4, r5) := by first | (rw [hy209]; with_reducible exact H) | (have H2_ := (Option.bind_some _ _).symm.trans H; rw [hy209]; with_reducible exact H2_) | (have H2_ := (Option.bind_some _ _).symm.trans H; with_reducible exact H2_) | with_reducible exact H | (rw [hy209]; exact H) | exact H
                    have Ny209 := Aside0.mk hy209
                    clear hy209
                    have H' := Aside0.mk H
                    clear H
                    obtain ⟨Ao45, co45, eo45⟩ := Kd.V_slice HO_0.out
                    subst eo45
                    have q46 : ((ji40) : Int) ≤ ((x0_1.length : Int) : Int) := of_decide_eq_true am
                    obtain ⟨i046, hi046, _, hsz46, _⟩ := info_parts info5
                    have hroom46 : x0_1.length ≤ co45 := (Kd.V_reads' HO_0.out).2.1
                    have hC46 : Kd.F (Kd.int .u8) _ _ Ao45 x0_1.length x0_1 := (Kd.V_at (base := w.heap.size) HO_0.out).2.2
                    have ql46 : (x8_3 : Int) ≤ ((ji40) : Int) := of_decide_eq_true am
                    have q046 : (0 : Int) ≤ (x8_3 : Int) := of_decide_eq_true am
                    have hcut46 := cut_mid (P := Try.prog) 22 5 .i64 .i64 Try.underlying22 hi046 1 hsz46 Ao45 x0_1.length co45 x8_3 (ji40) q046 ql46 q46 hroom46
                    have hr46 := Kd.F_mid (lo := (x8_3 : Int).toNat) (hi := ((ji40) : Int).toNat) (c := co45) hC46 (by omega) (by omega) hroom46
                    obtain ⟨A46, hA46⟩ : ∃ A1, A1 = (if co45 = (x8_3 : Int).toNat then Ao45 else (Ao45 : Option Addr).map (·.add ((x8_3 : Int).toNat * 1))) := ⟨_, rfl⟩
                    obtain ⟨c46, hc46⟩ : ∃ c1, c1 = co45 - (x8_3 : Int).toNat := ⟨_, rfl⟩
                    have hy46 : y194.length = ((ji40) : Int).toNat - (x8_3 : Int).toNat := (by rw [Ny194.out, List.length_drop, List.length_take] <;> omega)
                    rw [show ((x0_1).take ((ji40) : Int).toNat).drop (x8_3 : Int).toNat = y194 from Ny194.out.symm] at hr46
                    replace hr46 : Kd.F (Kd.int .u8) _ _ A46 y194.length y194 := (by rw [hA46]; exact hr46)
                    rw [← hy46, ← hA46, ← hc46] at hcut46
                    have HO198 := Aside0.mk (show Kd.V (Kd.int .u8) 5 _ w.heap.size _ (.slice A46 y194.length c46) y194 from Kd.V_mk (by rw [hy46, hc46]; exact Nat.sub_le_sub_right (Nat.le_trans (by omega) hroom46) _) hr46)
                    have HC198 := Aside0.mk (show y194.length ≤ c46 from by rw [hy46, hc46]; exact Nat.sub_le_sub_right (Nat.le_trans (by omega) hroom46) _)
                    clear hr46 hC46 hroom46 hi046 hsz46 hc46
                    have KY46 := Aside0.mk hy46
                    have KA46 := Aside0.mk hA46
                    clear hy46 hA46
                    replace q46 := eq_true q46
                    try go_wp2_with (first | ((with_reducible refine gate_callee (f := 45) rfl ?_); refine goesL_ (some 65) rfl rfl Try.func45 (by kernel_rfl) rfl #[.slice A46 y194.length c46] rfl mt ?_; (with_reducible refine (spec_GetWord.calls _ _ y194 t199 t200 _ ?side1 ?side2 A38.out).mono ?_); (case side1 => repeat (first | exact (Kd.V_reads' HO198.out).2.2 | (with_reducible refine Kd.C_alloc ?_ _) | (with_reducible refine Kd.C_drewN ?_ _) | (with_reducible refine Kd.C_drew ?_))); (case side2 => exact (Kd.V_reads' HO198.out).2.1); rintro e w' ⟨rfl, ⟨nd, rfl⟩⟩; refine ⟨_, rfl, ?_⟩; (try (rw [drewN_self wr]; generalize hq_ : World.drewN wr _ = wr; have n0_ : Aside0 (Kd.V (Kd.int .u8) 5 wr w.heap.size (fun k_ => (P0_ k_ ∨ w.heap.size ≤ k_) ∧ some k_ ≠ (u177002 : Value).ownBlock ∧ some k_ ≠ (u177003 : Value).ownBlock ∧ k_ ≠ gb175 ∧ k_ ≠ gb176) (.slice A46 y194.length c46) y194) := ⟨by rw [← hq_]; exact (by refine vs ?_; exact HO198.out)⟩; have n1_ : Aside0 (Kd.V (Kd.int .u8) 5 wr w.heap.size (fun k_ => (P0_ k_ ∨ w.heap.size ≤ k_) ∧ some k_ ≠ (u177002 : Value).ownBlock ∧ some k_ ≠ (u177003 : Value).ownBlock ∧ k_ ≠ gb175 ∧ k_ ≠ gb176) (.slice Ao45 x0_1.length co45) x0_1) := ⟨by rw [← hq_]; exact (by refine vs ?_; exact HO_0.out)⟩; have n2_ : Aside0 (Kd.R (Kd.int .u32) 60 wr w.heap.size (fun k_ => (w.heap.size ≤ k_)) u177002 x177002_3) := ⟨by rw [← hq_]; exact (by refine rs ?_; exact HO_177002.out)⟩; have n3_ : Aside0 (Kd.R Kd.string 9 wr w.heap.size (fun k_ => (w.heap.size ≤ k_)) u177003 x177003_3) := ⟨by rw [← hq_]; exact (by refine rs ?_; exact HO_177003.out)⟩; have n4_ : Aside0 (wr.heap[gb175]? = some (.cells #[.int .i64 x176000_1, .int .i64 x176001_1, .slice none 0 0, .slice none 0 0] 26 (0, 0))) := ⟨by rw [← hq_]; exact (bo BK175)⟩; have n5_ : Aside0 (wr.heap[gb176]? = some (.cells #[.int .i64 (rd x5_1 0), .int .i64 (rd x5_1 1), u177002, u177003] 26 (0, 0))) := ⟨by rw [← hq_]; exact (bo BK176)⟩; have n6_ : Aside0 (Below w.heap.size w wr) := ⟨by rw [← hq_]; exact bz⟩; clear HO198 HO_0 HO_177002 HO_177003 BK175 BK176 HB hq_; have HO198 := n0_; have HO_0 := n1_; have HO_177002 := n2_; have HO_177003 := n3_; have BK175 := n4_; have BK176 := n5_; have HB := n6_; clear n0_ n1_ n2_ n3_ n4_ n5_ n6_)); have hnb47 := NB176_175.out; have hnc47 := NB175_176.out; obtain ⟨hcz48_0, hcz48_1, hcz48_2, hcz48_3, hfz48_0, hfz48_1, hfz48_2, hfz48_3⟩ := bc4 BK176.out) | ((with_reducible refine gate_builtin (b := .append) (xs := #[.tmp 69, .tmp 71]) rfl ?_); (try (refine gate_guard (by rfl) ?_; dsimp only)); at_builtin; refine Kd.R_append (Kd.int .u32) (w0 := w) w.heap.size rfl (.tmp 69) (.tmp 71) 23 60 (.int .u32 0) 4 rfl Try.underlying23 info60 rfl (by decide) (by omega) u177002 x177002_3 t199 [.int .u32 t199] (fun k_ => (w.heap.size ≤ k_)) (fun _ => False) rfl rfl ?aP (fun _ hk => hk.elim) ?aF ?aO ?aB ?aS ?aL ?_; (case aP => exact rfl); (case aB => exact bz); (case aF => exact (fun k_ hk => (Nat.le_trans (below_size bz) hk))); (case aO => exact (by refine rs ?_; exact HO_177002.out)); (case aS => exact (below_size bz)); (case aL => have := LMc39.out; omega); intro v202 w49 ho hb hg hat; rw [← Ny201.out] at ho; have n0_ := Aside0.mk (Kd.V_afterv (ok := (fun k_ => (P0_ k_ ∨ w.heap.size ≤ k_) ∧ some k_ ≠ (u177003 : Value).ownBlock ∧ k_ ≠ gb175 ∧ k_ ≠ gb176)) (by refine vs ?_; exact Kd.V_mono HO_0.out (fun _ hk => ⟨⟨hk.1, ⟨hk.2.2.1, ⟨hk.2.2.2.1, hk.2.2.2.2⟩⟩⟩, hk.2.1⟩)) hg hat); have n1_ := Aside0.mk (Kd.R_over' (by refine rs ?_; exact HO_177003.out) (Kd.R_typed (by refine rs ?_; exact HO_177002.out)) (by decide) hg); have n2_ := Aside0.mk (blk_grown (g := gb175) (o := .cells #[.int .i64 x176000_1, .int .i64 x176001_1, .slice none 0 0, .slice none 0 0] 26 (0, 0)) (bo BK175) hg (Kd.R_ne HO_177002.out BK175.out (by decide))); have n3_ := Aside0.mk (blk_grown (g := gb176) (o := .cells #[.int .i64 (rd x5_1 0), .int .i64 (rd x5_1 1), u177002, u177003] 26 (0, 0)) (bo BK176) hg (Kd.R_ne HO_177002.out BK176.out (by decide))); have n4_ := Aside0.mk (Kd.V_afterv (ok := (fun k_ => (P0_ k_ ∨ w.heap.size ≤ k_) ∧ some k_ ≠ (u177003 : Value).ownBlock ∧ k_ ≠ gb175 ∧ k_ ≠ gb176)) (by refine vs ?_; exact Kd.V_mono HO198.out (fun _ hk => ⟨⟨hk.1, ⟨hk.2.2.1, ⟨hk.2.2.2.1, hk.2.2.2.2⟩⟩⟩, hk.2.1⟩)) hg hat); have n5_ := Aside0.mk (hb); have n6_ := Aside0.mk (ho); clear HO_0; clear HO_177003; clear BK175; clear BK176; clear HO198; clear HB; clear HO_177002; have HO_0 := n0_; have HO_177003 := n1_; have BK175 := n2_; have BK176 := n3_; have HO198 := n4_; have HB := n5_; have HO203 := n6_; clear n0_ n1_ n2_ n3_ n4_ n5_ n6_; clear ho hb hg hat; obtain ⟨Ao50, co50, eo50⟩ := Kd.R_slice HO203.out; subst eo50; obtain ⟨hcz51_0, hcz51_1, hcz51_2, hcz51_3, hfz51_0, hfz51_1, hfz51_2, hfz51_3⟩ := bc4 BK176.out))
                    have n0_ : Aside0 (Kd.V (Kd.int .u8) 5 (w49.setCell ⟨gb176, 2, none⟩ (.slice Ao50 y201.length co50)) w.heap.size (fun k_ => (P0_ k_ ∨ w.heap.size ≤ k_) ∧ some k_ ≠ (u177003 : Value).ownBlock ∧ some k_ ≠ (.slice Ao50 y201.length co50 : Value).ownBlock ∧ k_ ≠ gb175 ∧ k_ ≠ gb176) (.slice Ao45 x0_1.length co45) x0_1) := ⟨by refine vs ?_; exact Kd.V_mono (Kd.V_far (p := ⟨gb176, 2, none⟩) (Kd.V_mono HO_0.out (fun k_ hk => (⟨hk, hk.1.2.2.2⟩ : _ ∧ k_ ≠ gb176))) (fun _ hk => hk.2) (.slice Ao50 y201.length co50)) (fun _ hk => ⟨hk.1.1.1, ⟨hk.1.1.2.1, ⟨hk.1.2, ⟨hk.1.1.2.2.1, hk.1.1.2.2.2⟩⟩⟩⟩)⟩
                    have n1_ : Aside0 (Kd.R Kd.string 9 (w49.setCell ⟨gb176, 2, none⟩ (.slice Ao50 y201.length co50)) w.heap.size (fun k_ => (w.heap.size ≤ k_)) u177003 x177003_3) := ⟨by refine rs ?_; exact Kd.R_mono (Kd.rf (Kd.R_types HO_177003.out BK176.out (by decide))) (fun _ hk => hk.1)⟩
                    have n2_ : Aside0 (Kd.V (Kd.int .u8) 5 (w49.setCell ⟨gb176, 2, none⟩ (.slice Ao50 y201.length co50)) w.heap.size (fun k_ => (P0_ k_ ∨ w.heap.size ≤ k_) ∧ some k_ ≠ (u177003 : Value).ownBlock ∧ some k_ ≠ (.slice Ao50 y201.length co50 : Value).ownBlock ∧ k_ ≠ gb175 ∧ k_ ≠ gb176) (.slice A46 y194.length c46) y194) := ⟨by refine vs ?_; exact Kd.V_mono (Kd.V_far (p := ⟨gb176, 2, none⟩) (Kd.V_mono HO198.out (fun k_ hk => (⟨hk, hk.1.2.2.2⟩ : _ ∧ k_ ≠ gb176))) (fun _ hk => hk.2) (.slice Ao50 y201.length co50)) (fun _ hk => ⟨hk.1.1.1, ⟨hk.1.1.2.1, ⟨hk.1.2, ⟨hk.1.1.2.2.1, hk.1.1.2.2.2⟩⟩⟩⟩)⟩
                    have n3_ : Aside0 (Kd.R (Kd.int .u32) 60 (w49.setCell ⟨gb176, 2, none⟩ (.slice Ao50 y201.length co50)) w.heap.size (fun k_ => (w.heap.size ≤ k_)) (.slice Ao50 y201.length co50) y201) := ⟨by refine rs ?_; exact Kd.R_mono (Kd.rf (Kd.R_types HO203.out BK176.out (by decide))) (fun _ hk => hk.1)⟩
                    have n4_ : Aside0 ((w49.setCell ⟨gb176, 2, none⟩ (.slice Ao50 y201.length co50)).heap[gb175]? = some (.cells #[.int .i64 x176000_1, .int .i64 x176001_1, .slice none 0 0, .slice none 0 0] 26 (0, 0))) := ⟨(bo BK175)⟩
                    have n5_ : Aside0 ((w49.setCell ⟨gb176, 2, none⟩ (.slice Ao50 y201.length co50)).heap[gb176]? = some (.cells #[.int .i64 (rd x5_1 0), .int .i64 (rd x5_1 1), .slice Ao50 y201.length co50, u177003] 26 (0, 0))) := ⟨bk⟩
                    have n6_ : Aside0 (Below w.heap.size w (w49.setCell ⟨gb176, 2, none⟩ (.slice Ao50 y201.length co50))) := ⟨bz⟩
                    (try clear HO_0)
                    (try clear HO_177003)
                    (try clear HO198)
                    (try clear HO203)
                    (try clear BK175)
                    (try clear BK176)
                    (try clear HB)
                    generalize (w49.setCell ⟨gb176, 2, none⟩ (.slice Ao50 y201.length co50)) = w52 at n0_ n1_ n2_ n3_ n4_ n5_ n6_ ⊢
                    have HO_0 := n0_
                    have HO_177003 := n1_
                    have HO198 := n2_
                    have HO203 := n3_
                    have BK175 := n4_
                    have BK176 := n5_
                    have HB := n6_
                    clear n0_ n1_ n2_ n3_ n4_ n5_ n6_
                    have n0_ := Aside0.mk (Kd.V_drew HO_0.out)
                    have n1_ := Aside0.mk (Kd.R_drew HO_177003.out)
                    have n2_ := Aside0.mk (Kd.V_drew HO198.out)
                    have n3_ := Aside0.mk (Kd.R_drew HO203.out)
                    have n4_ := Aside0.mk (blk_drew BK175.out)
                    have n5_ := Aside0.mk (blk_drew BK176.out)
                    have n6_ := Aside0.mk (below_drew1 HB.out)
                    clear HO_0
                    clear HO_177003
                    clear HO198
                    clear HO203
                    clear BK175
                    clear BK176
                    clear HB
                    have HO_0 := n0_
                    have HO_177003 := n1_
                    have HO198 := n2_
                    have HO203 := n3_
                    have BK175 := n4_
                    have BK176 := n5_
                    have HB := n6_
                    clear n0_ n1_ n2_ n3_ n4_ n5_ n6_
                    have q54 : ((wrap64 (x8_3 + 8)) : Int) ≤ ((x0_1.length : Int) : Int) := of_decide_eq_true am
                    obtain ⟨i054, hi054, _, hsz54, _⟩ := info_parts info5
                    have hroom54 : x0_1.length ≤ co45 := (Kd.V_reads' HO_0.out).2.1
                    have hC54 : Kd.F (Kd.int .u8) _ _ Ao45 x0_1.length x0_1 := (Kd.V_at (base := w.heap.size) HO_0.out).2.2
                    have ql54 : ((ji40) : Int) ≤ ((wrap64 (x8_3 + 8)) : Int) := of_decide_eq_true am
                    have q054 : (0 : Int) ≤ ((ji40) : Int) := of_decide_eq_true am
                    have hcut54 := cut_mid (P := Try.prog) 22 5 .i64 .i64 Try.underlying22 hi054 1 hsz54 Ao45 x0_1.length co45 (ji40) (wrap64 (x8_3 + 8)) q054 ql54 q54 hroom54
                    have hr54 := Kd.F_mid (lo := ((ji40) : Int).toNat) (hi := ((wrap64 (x8_3 + 8)) : Int).toNat) (c := co45) hC54 (by omega) (by omega) hroom54
                    obtain ⟨A54, hA54⟩ : ∃ A1, A1 = (if co45 = ((ji40) : Int).toNat then Ao45 else (Ao45 : Option Addr).map (·.add (((ji40) : Int).toNat * 1))) := ⟨_, rfl⟩
                    obtain ⟨c54, hc54⟩ : ∃ c1, c1 = co45 - ((ji40) : Int).toNat := ⟨_, rfl⟩
                    have hy54 : y204.length = ((wrap64 (x8_3 + 8)) : Int).toNat - ((ji40) : Int).toNat := (by rw [Ny204.out, List.length_drop, List.length_take] <;> omega)
                    rw [show ((x0_1).take ((wrap64 (x8_3 + 8)) : Int).toNat).drop ((ji40) : Int).toNat = y204 from Ny204.out.symm] at hr54
                    replace hr54 : Kd.F (Kd.int .u8) _ _ A54 y204.length y204 := (by rw [hA54]; exact hr54)
                    rw [← hy54, ← hA54, ← hc54] at hcut54
                    have HO208 := Aside0.mk (show Kd.V (Kd.int .u8) 5 _ w.heap.size _ (.slice A54 y204.length c54) y204 from Kd.V_mk (by rw [hy54, hc54]; exact Nat.sub_le_sub_right (Nat.le_trans (by omega) hroom54) _) hr54)
                    have HC208 := Aside0.mk (show y204.length ≤ c54 from by rw [hy54, hc54]; exact Nat.sub_le_sub_right (Nat.le_trans (by omega) hroom54) _)
                    clear hr54 hC54 hroom54 hi054 hsz54 hc54
                    have KY54 := Aside0.mk hy54
                    have KA54 := Aside0.mk hA54
                    clear hy54 hA54
                    replace q54 := eq_true q54
                    refine start_ (n := 13) (S := fun w' => w'.cell? ⟨gb176, 0, none⟩ = some (.int .i64 (rd x5_1 0)) ∧ w'.cell? ⟨gb176, 1, none⟩ = some (.int .i64 (rd x5_1 1)) ∧ w'.cell? ⟨gb176, 2, none⟩ = some (.slice Ao50 y201.length co50) ∧ w'.cell? ⟨gb176, 3, none⟩ = some (u177003)) (ds := [12]) #[false, false, false, false, false, false, false, false, false, false, false, false, false] (by kernel_rfl) rfl rfl ⟨(blk_cell BK176.out 0).trans rfl, (blk_cell BK176.out 1).trans rfl, (blk_cell BK176.out 2).trans rfl, (blk_cell BK176.out 3).trans rfl⟩ (fun hHeld => ?_); refine with_tabW spec_GetSig.tab18 spec_GetSig.bits18 (fun HT_ HW_ => ?_)
                    generalize w52.drew = w53 at HO_0 HO_177003 HO198 HO203 BK175 BK176 HB HO208 hHeld ⊢
                    refine pure_ (i := 0) (N := some 74) (v := ?_) (a' := ?_) #[true, false, false, false, false, false, false, false, false, false, false, false, false] rfl rfl (any_of HT_.out (by kernel_rfl)) (fun _ _ _ h => h) (Or.inl ⟨by rfl, ?_⟩) ?_ ?_
                    rotate_left
                    ·intro w'
                     go_simp
                     with_reducible rfl
                    rotate_left
                    ·simp only [Act.put, List.setIfInBounds_toArray, List.set_cons_zero, List.set_cons_succ, i64_w, i32_w]
                     rfl
                    refine pure_ (i := 2) (N := some 76) (v := ?_) (a' := ?_) #[true, false, true, false, false, false, false, false, false, false, false, false, false] rfl rfl (any_of HT_.out (by kernel_rfl)) (fun _ _ _ h => h) (Or.inl ⟨by rfl, ?_⟩) ?_ ?_
                    rotate_left
                    ·intro w'
                     go_simp
                     with_reducible rfl
                    rotate_left
                    ·simp only [Act.put, List.setIfInBounds_toArray, List.set_cons_zero, List.set_cons_succ, i64_w, i32_w]
                     rfl
                    refine pure_ (i := 3) (N := some 77) (v := ?_) (a' := ?_) #[true, false, true, true, false, false, false, false, false, false, false, false, false] rfl rfl (any_of HT_.out (by kernel_rfl)) (fun _ _ _ h => h) (Or.inl ⟨by rfl, ?_⟩) ?_ ?_
                    rotate_left
                    ·intro w'
                     go_simp
                     with_reducible rfl
                    rotate_left
                    ·simp only [Act.put, List.setIfInBounds_toArray, List.set_cons_zero, List.set_cons_succ, i64_w, i32_w]
                     rfl
                    refine pure_ (i := 4) (N := some 78) (v := ?_) (a' := ?_) #[true, false, true, true, true, false, false, false, false, false, false, false, false] rfl rfl (any_of HT_.out (by kernel_rfl)) (fun _ _ _ h => h) (Or.inl ⟨by rfl, ?_⟩) ?_ ?_
                    rotate_left
                    ·intro w'
                     go_simp
                     with_reducible rfl
                    rotate_left
                    ·simp only [Act.put, List.setIfInBounds_toArray, List.set_cons_zero, List.set_cons_succ, i64_w, i32_w]
                     rfl
                    refine pure_ (i := 5) (N := some 79) (v := ?_) (a' := ?_) #[true, false, true, true, true, true, false, false, false, false, false, false, false] rfl rfl (any_of HT_.out (by kernel_rfl)) (fun _ _ _ h => h) (Or.inl ⟨by rfl, ?_⟩) ?_ ?_
                    rotate_left
                    ·intro w'
                     go_simp
                     with_reducible rfl
                    rotate_left
                    ·simp only [Act.put, List.setIfInBounds_toArray, List.set_cons_zero, List.set_cons_succ, i64_w, i32_w]
                     rfl
                    refine pure_ (i := 6) (N := some 80) (v := ?_) (a' := ?_) #[true, false, true, true, true, true, true, false, false, false, false, false, false] rfl rfl (any_of HT_.out (by kernel_rfl)) (fun _ _ _ h => h) (Or.inl ⟨by rfl, ?_⟩) ?_ ?_
                    rotate_left
                    ·intro w'
                     go_simp
                     with_reducible rfl
                    rotate_left
                    ·simp only [Act.put, List.setIfInBounds_toArray, List.set_cons_zero, List.set_cons_succ, i64_w, i32_w]
                     rfl
                    refine pure_ (i := 7) (N := some 81) (v := ?_) (a' := ?_) #[true, false, true, true, true, true, true, true, false, false, false, false, false] rfl rfl (any_of HT_.out (by kernel_rfl)) (fun _ _ _ h => h) (Or.inl ⟨by rfl, ?_⟩) ?_ ?_
                    rotate_left
                    ·intro w'
                     go_simp
                     with_reducible rfl
                    rotate_left
                    ·simp only [Act.put, List.setIfInBounds_toArray, List.set_cons_zero, List.set_cons_succ, i64_w, i32_w]
                     rfl
                    refine take_ (i := 1) (N := some 75) (v := ?_) (a' := ?_) #[true, true, true, true, true, true, true, true, false, false, false, false, false] rfl rfl (take_ofW HT_.out HW_.out (by kernel_rfl)) (fun _ _ _ h => h) (Or.inl ⟨by rfl, ?_⟩) hHeld ?_ ?_
                    rotate_left
                    ·rintro w' ⟨s0, s1, s2, s3⟩
                     go_simp
                     with_reducible rfl
                    rotate_left
                    ·simp only [Act.put, List.setIfInBounds_toArray, List.set_cons_zero, List.set_cons_succ, i64_w, i32_w]
                     rfl
                    refine one_ (i := 8) (N := some 82) #[true, true, true, true, true, true, true, true, true, false, false, false, false] rfl rfl (one_of HT_.out (by kernel_rfl)) (by decide) (fun K hK => ?_)
                    have hcv55 := Kd.V_string (P := Try.prog) Try.underlying22 Try.underlying5 Try.underlying9 (HO208.out)
                    refine value_ (w1 := ?_) (v := ?_) (by rfl) rfl ?_ ?_
                    rotate_left 2
                    ·go_simp
                     constructor
                     ·rfl
                     ·rfl
                    clear hcv55
                    refine hK.out _ _ ⟨(blk_cell BK176.out 0).trans rfl, (blk_cell BK176.out 1).trans rfl, (blk_cell BK176.out 2).trans rfl, (blk_cell BK176.out 3).trans rfl⟩ (fun hHeld => ?_)
                    clear hK K
                    refine norm_ (a' := ?_) ?_ ?_
                    rotate_left
                    ·show Act.put _ (some 82) _ = _
                     simp only [Act.put, List.setIfInBounds_toArray, List.set_cons_zero, List.set_cons_succ, i64_w, i32_w]
                     rfl
                    refine one_ (i := 9) (N := some 83) #[true, true, true, true, true, true, true, true, true, true, false, false, false] rfl rfl (one_of HT_.out (by kernel_rfl)) (by decide) (fun K hK => ?_)
                    refine value_ (w1 := ?_) (v := ?_) (by rfl) rfl ?_ ?_
                    rotate_left 2
                    ·go_simp
                     constructor
                     ·rfl
                     ·rfl
                    refine hK.out _ _ ⟨(blk_cell (blk_alloc BK176.out _) 0).trans rfl, (blk_cell (blk_alloc BK176.out _) 1).trans rfl, (blk_cell (blk_alloc BK176.out _) 2).trans rfl, (blk_cell (blk_alloc BK176.out _) 3).trans rfl⟩ (fun hHeld => ?_)
                    clear hK K
                    refine norm_ (a' := ?_) ?_ ?_
                    rotate_left
                    ·show Act.put _ (some 83) _ = _
                     simp only [Act.put, List.setIfInBounds_toArray, List.set_cons_zero, List.set_cons_succ, i64_w, i32_w]
                     rfl
                    refine one_ (i := 10) (N := some 84) #[true, true, true, true, true, true, true, true, true, true, true, false, false] rfl rfl (one_of HT_.out (by kernel_rfl)) (by decide) (fun K hK => ?_)
                    refine Kd.R_append_step Kd.string (w0 := w) w.heap.size (by rfl) (.tmp 75) (.tmp 83) 24 9 (.string ⟨#[]⟩) 16 rfl Try.underlying24 info9 rfl (by decide) (by omega) u177003 x177003_3 (strOfNums y204) [.string (strOfNums y204)] (fun k_ => (w.heap.size ≤ k_)) (fun _ => False) rfl rfl ?aP (fun _ hk => hk.elim) ?aF ?aO ?aB ?aS ?aL ?_
                    (case aP => exact rfl)
                    (case aB => exact bz)
                    (case aF => exact (fun k_ hk => (Nat.le_trans (below_size bz) hk)))
                    (case aO => exact (by refine rs ?_; exact HO_177003.out))
                    (case aS => exact (below_size bz))
                    (case aL => have := LMc44.out; omega)
                    intro v210 w56 ho hb hg hat
                    rw [← Ny209.out] at ho
                    have n0_ := Aside0.mk (Kd.V_afterv (ok := (fun k_ => (P0_ k_ ∨ w.heap.size ≤ k_) ∧ some k_ ≠ (.slice Ao50 y201.length co50 : Value).ownBlock ∧ k_ ≠ gb175 ∧ k_ ≠ gb176)) (by refine vs ?_; exact Kd.V_mono HO_0.out (fun _ hk => ⟨⟨hk.1, ⟨hk.2.2.1, ⟨hk.2.2.2.1, hk.2.2.2.2⟩⟩⟩, hk.2.1⟩)) hg hat)
                    have n1_ := Aside0.mk (blk_grown (g := gb175) (o := .cells #[.int .i64 x176000_1, .int .i64 x176001_1, .slice none 0 0, .slice none 0 0] 26 (0, 0)) (bo BK175) hg (Kd.R_ne HO_177003.out BK175.out (by decide)))
                    have n2_ := Aside0.mk (blk_grown (g := gb176) (o := .cells #[.int .i64 (rd x5_1 0), .int .i64 (rd x5_1 1), .slice Ao50 y201.length co50, u177003] 26 (0, 0)) (bo BK176) hg (Kd.R_ne HO_177003.out BK176.out (by decide)))
                    have n3_ := Aside0.mk (Kd.V_afterv (ok := (fun k_ => (P0_ k_ ∨ w.heap.size ≤ k_) ∧ some k_ ≠ (.slice Ao50 y201.length co50 : Value).ownBlock ∧ k_ ≠ gb175 ∧ k_ ≠ gb176)) (by refine vs ?_; exact Kd.V_mono HO198.out (fun _ hk => ⟨⟨hk.1, ⟨hk.2.2.1, ⟨hk.2.2.2.1, hk.2.2.2.2⟩⟩⟩, hk.2.1⟩)) hg hat)
                    have n4_ := Aside0.mk (Kd.R_over' (by refine rs ?_; exact HO203.out) (Kd.R_typed (by refine rs ?_; exact HO_177003.out)) (by decide) hg)
                    have n5_ := Aside0.mk (Kd.V_afterv (ok := (fun k_ => (P0_ k_ ∨ w.heap.size ≤ k_) ∧ some k_ ≠ (.slice Ao50 y201.length co50 : Value).ownBlock ∧ k_ ≠ gb175 ∧ k_ ≠ gb176)) (by refine vs ?_; exact Kd.V_mono HO208.out (fun _ hk => ⟨⟨hk.1, ⟨hk.2.2.1, ⟨hk.2.2.2.1, hk.2.2.2.2⟩⟩⟩, hk.2.1⟩)) hg hat)
                    have n6_ := Aside0.mk (hb)
                    have n7_ := Aside0.mk (ho)
                    clear HO_0
                    clear BK175
                    clear BK176
                    clear HO198
                    clear HO203
                    clear HO208
                    clear HB
                    clear HO_177003
                    have HO_0 := n0_
                    have BK175 := n1_
                    have BK176 := n2_
                    have HO198 := n3_
                    have HO203 := n4_
                    have HO208 := n5_
                    have HB := n6_
                    have HO211 := n7_
                    clear n0_ n1_ n2_ n3_ n4_ n5_ n6_ n7_
                    clear ho hb hg hat
                    obtain ⟨Ao57, co57, eo57⟩ := Kd.R_slice HO211.out
                    (first | subst eo57 | (injection eo57 with f1_ f2_ f3_; have f4_ := f1_.symm; have f5_ := f3_.symm; clear f1_ f2_ f3_; subst f4_; subst f5_))
                    refine hK.out _ _ ⟨(blk_cell BK176.out 0).trans rfl, (blk_cell BK176.out 1).trans rfl, (blk_cell BK176.out 2).trans rfl, (blk_cell BK176.out 3).trans rfl⟩ (fun hHeld => ?_)
                    clear hK K
                    refine norm_ (a' := ?_) ?_ ?_
                    rotate_left
                    ·show Act.put _ (some 84) _ = _
                     simp only [Act.put, List.setIfInBounds_toArray, List.set_cons_zero, List.set_cons_succ, i64_w, i32_w]
                     rfl
                    refine pure_ (i := 11) (N := some 85) (v := ?_) (a' := ?_) #[true, true, true, true, true, true, true, true, true, true, true, true, false] rfl rfl (any_of HT_.out (by kernel_rfl)) (fun _ _ _ h => h) (Or.inl ⟨by rfl, ?_⟩) ?_ ?_
                    rotate_left
                    ·intro w'
                     go_simp
                     with_reducible rfl
                    rotate_left
                    ·simp only [Act.put, List.setIfInBounds_toArray, List.set_cons_zero, List.set_cons_succ, i64_w, i32_w]
                     rfl
                    refine last_ (i := 12) (N := none) #[true, true, true, true, true, true, true, true, true, true, true, true, true] rfl rfl (one_of HT_.out (by kernel_rfl)) (by decide) (fun K hK => ?_)
                    have hs58 : w56.cell? ⟨gb176, 3, none⟩ = some (u177003) := (blk_cell BK176.out 3).trans rfl
                    have hfs58 := blk_frozen BK176.out 3
                    have hns58_0 := NB175_176.out
                    have hms58_0 := NB176_175.out
                    refine skip_ (w1 := ?_) (by rfl) rfl ?_ ?_
                    rotate_left
                    ·go_simp
                     rfl
                    refine hK.out _ _ ?_
                    clear hK K
                    refine done_ (done_of HT_.out (by kernel_rfl)) ?_
                    try go_wp2
                    go_roundg k3
                    case measure => have := HK1.out; have := HJ21.out; have := HK3.out; omega
                    case rel => exact ⟨(wrap64 (x8_3 + 8)), (y201), (y209), (.slice Ao50 y201.length co50), (.slice Ao57 y209.length co57), sd, H', ⟨by have := HK1.out; have := HJ21.out; have := HK3.out; omega⟩, ⟨by refine vs ?_; exact Kd.V_mono (Kd.V_far (p := ⟨gb176, 3, none⟩) (Kd.V_mono HO_0.out (fun k_ hk => (⟨hk, hk.1.2.2.2⟩ : _ ∧ k_ ≠ gb176))) (fun _ hk => hk.2) (.slice Ao57 y209.length co57)) (fun _ hk => ⟨hk.1.1.1, ⟨hk.1.1.2.1, ⟨hk.1.2, ⟨hk.1.1.2.2.1, hk.1.1.2.2.2⟩⟩⟩⟩)⟩, ⟨by refine rs ?_; exact Kd.R_mono (Kd.rf (Kd.R_types HO203.out BK176.out (by decide))) (fun _ hk => hk.1)⟩, ⟨by refine rs ?_; exact Kd.R_mono (Kd.rf (Kd.R_types HO211.out BK176.out (by decide))) (fun _ hk => hk.1)⟩, ⟨(bo BK175)⟩, ⟨bk⟩, ⟨bz⟩⟩
                   ·rw [if_neg c44] at H
                    exact absurd H (by simp)
                  ·rw [if_neg c43] at H
                   exact absurd H (by simp)
                 ·rw [if_neg c42] at H
                  exact absurd H (by simp)
                ·rw [if_neg c41] at H
                 exact absurd H (by simp)
               ·rw [if_neg c39] at H
                exact absurd H (by simp)
              ·rw [if_neg c37] at H
               exact absurd H (by simp)
             ·rw [if_neg c36] at H
              exact absurd H (by simp)
            ·rw [if_neg c35] at H
             exact absurd H (by simp)
           ·rw [if_neg c34] at H
            have c34b0 : decide (x8_3 < (x0_1.length : Int)) = false := decide_eq_false c34
            clear c34
            replace H := Option.bind_eq_some_iff.mp H
            obtain ⟨t212, A590, H⟩ := H
            try dsimp -simprocs only at H
            have A59 := Aside0.mk A590
            clear A590
            have HC60 := Aside0.mk H
            clear H
            obtain ⟨Ao61, co61, eo61⟩ := Kd.V_slice HO_0.out
            subst eo61
            have hnb62 := NB176_175.out
            have hnc62 := NB175_176.out
            obtain ⟨hcz63_0, hcz63_1, hcz63_2, hcz63_3, hfz63_0, hfz63_1, hfz63_2, hfz63_3⟩ := bc4 BK176.out
            obtain ⟨Ao64, co64, eo64⟩ := Kd.R_slice HO_177002.out
            subst eo64
            obtain ⟨Ao65, co65, eo65⟩ := Kd.R_slice HO_177003.out
            subst eo65
            go_upto_if 88 with (first | ((with_reducible refine gate_callee (f := 37) rfl ?_); refine goesL_ (some 87) rfl rfl Try.func37 (by kernel_rfl) rfl #[.agg #[.int .i64 (rd x5_1 0), .int .i64 (rd x5_1 1), .slice Ao64 x177002_3.length co64, .slice Ao65 x177003_3.length co65]] rfl mt ?_; (with_reducible refine (spec_SigOk.calls k3 (rd x5_1 0) (rd x5_1 1) _ _ x177002_3 _ _ x177003_3 t212 _ ?side1 ?side2 ?side3 ?side4 A59.out).mono ?_); (case side1 => repeat (first | exact (Kd.R_reads' HO_177002.out).2.2 | (with_reducible refine Kd.C_alloc ?_ _) | (with_reducible refine Kd.C_drewN ?_ _) | (with_reducible refine Kd.C_drew ?_))); (case side2 => exact (Kd.R_reads' HO_177002.out).2.1); (case side3 => repeat (first | exact (Kd.R_reads' HO_177003.out).2.2 | (with_reducible refine Kd.C_alloc ?_ _) | (with_reducible refine Kd.C_drewN ?_ _) | (with_reducible refine Kd.C_drew ?_))); (case side4 => exact (Kd.R_reads' HO_177003.out).2.1); rintro e w66 ⟨rfl, hb⟩; refine ⟨_, rfl, ?_⟩; have n0_ := Aside0.mk (Kd.V_below (by refine vs ?_; exact HO_0.out) hb); have n1_ := Aside0.mk (Kd.R_below (by refine rs ?_; exact HO_177002.out) hb); have n2_ := Aside0.mk (Kd.R_below (by refine rs ?_; exact HO_177003.out) hb); have n3_ := Aside0.mk (blk_below (bo BK175) hb); have n4_ := Aside0.mk (blk_below (bo BK176) hb); have n5_ := Aside0.mk (below_step bz hb); clear HO_0; clear HO_177002; clear HO_177003; clear BK175; clear BK176; clear HB; have HO_0 := n0_; have HO_177002 := n1_; have HO_177003 := n2_; have BK175 := n3_; have BK176 := n4_; have HB := n5_; clear n0_ n1_ n2_ n3_ n4_ n5_; (try clear hb); (try clear hb2); (try clear hk); (try clear hi)))
            (try simp only [Act.put, List.setIfInBounds_toArray, List.set_cons_zero, List.set_cons_succ])
            have H := HC60.out
            clear HC60
            by_cases c67 : t212 = true
            ·subst c67
             have H1 : (some ((rd x5_1 0), (rd x5_1 1), x177002_3, x177003_3, true)) = some (r1, r2, r3, r4, r5) := by rw [if_pos rfl] at H; exact H
             clear H
             have H := H1
             clear H1
             simp only [Option.some.injEq, Prod.mk.injEq] at H
             obtain ⟨rfl, rfl, rfl, rfl, rfl⟩ := H
             have hnb68 := NB176_175.out
             have hnc68 := NB175_176.out
             obtain ⟨hcz69_0, hcz69_1, hcz69_2, hcz69_3, hfz69_0, hfz69_1, hfz69_2, hfz69_3⟩ := bc4 BK176.out
             obtain ⟨hcz70_0, hcz70_1, hcz70_2, hcz70_3, hfz70_0, hfz70_1, hfz70_2, hfz70_3⟩ := bc4 BK175.out
             go_wp2
             refine bodyPost_ret (results_ct rfl _ _ gb175 26 #[.int .i64 (rd x5_1 0), .int .i64 (rd x5_1 1), .slice Ao64 x177002_3.length co64, .slice Ao65 x177003_3.length co65] (0, 0) _ rfl bk Try.underlying26 rfl (by kernel_rfl)) rfl ?_
             exact ⟨_, _, rq, by refine rs ?_; exact Kd.R_mono (Kd.rf (Kd.rf (Kd.rf (Kd.rf (Kd.R_types HO_177002.out BK175.out (by decide)))))) (fun _ hk => hk.1), by refine rs ?_; exact Kd.R_mono (Kd.rf (Kd.rf (Kd.rf (Kd.rf (Kd.R_types HO_177003.out BK175.out (by decide)))))) (fun _ hk => hk.1), bz⟩
            ·replace c67 := Bool.eq_false_iff.mpr c67
             subst c67
             have H1 : (some (0, 0, ([] : List Int), ([] : List ByteArray), false)) = some (r1, r2, r3, r4, r5) := by rw [if_neg (show ¬ (false = true) by decide)] at H; exact H
             clear H
             have H := H1
             clear H1
             simp only [Option.some.injEq, Prod.mk.injEq] at H
             obtain ⟨rfl, rfl, rfl, rfl, rfl⟩ := H
             have hnb71 := NB175_176.out
             have hnc71 := NB176_175.out
             obtain ⟨hcz72_0, hcz72_1, hcz72_2, hcz72_3, hfz72_0, hfz72_1, hfz72_2, hfz72_3⟩ := bc4 BK175.out
             go_wp2
             refine bodyPost_ret (results_ct rfl _ _ gb175 26 #[.int .i64 0, .int .i64 0, .slice none 0 0, .slice none 0 0] (0, 0) _ rfl bk Try.underlying26 rfl (by kernel_rfl)) rfl ?_
             exact ⟨_, _, rq, nz, nz, bz⟩
        ·rw [if_neg c31] at H
         exact absurd H (by simp)
       ·rw [if_neg c30] at H
        exact absurd H (by simp)

end Go.Proofs.Ytjiaigjmihmdjaa.PFnExactGetMsg
