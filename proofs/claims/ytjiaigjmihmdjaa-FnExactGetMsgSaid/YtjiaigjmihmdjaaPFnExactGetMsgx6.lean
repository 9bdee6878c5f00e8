
/- The machine's side, written by a program of this session (a turned print): each function as a plain Lean function, and that the call comes to it. -/
import Derived.Test.YtjiaigjmihmdjaaPFnExactGetMsgx0
import Derived.Test.YtjiaigjmihmdjaaPFnExactGetMsgx3
import Derived.Test.YtjiaigjmihmdjaaPFnExactGetMsgx4
import Derived.Test.YtjiaigjmihmdjaaPFnExactGetMsgx5
namespace Go.Proofs.Ytjiaigjmihmdjaa.PFnExactGetMsg
open Go.RowKit Go.Proofs.YtjiaigjmihmdjaaW.PrintWords Go.Proofs.YtjiaigjmihmdjaaW.PrintLast Go.Proofs.YtjiaigjmihmdjaaW.PrintMore
attribute [local go_sem] max2_int min2_int max_two min_two max_three min_three max_four min_four   -- for this text's walks alone
set_option linter.unusedVariables false
set_option linter.unusedSimpArgs false

/-! ### spec_GetMsg: function 5 -/
def spec_GetMsg.j0 : Nat → Int → List Int → Bool → Int → Int → Int → Int → ByteArray → Option (Int × Int × Int × Int × List Int × List ByteArray × (List (S72)) × ByteArray × Bool)
 | 0, _, _, _, _, _, _, _, _ => none
 | k + 1, x4, x8, x52, x284000, x284001, x284002, x284003, x284007 => if x52 = true then (if 16 ≤ (x8.length : Int) then ((spec_GetTokens.f k (x8.drop 16)).bind fun bt297 => (if bt297.2 = true then ((spec_MsgOk.f k x284000 x284001 x284002 x284003 ([] : List Int) ([] : List ByteArray) bt297.1 (strOfNums (x8.take 16))).bind fun t301 => (if t301 = true then (some (x284000, x284001, x284002, x284003, ([] : List Int), ([] : List ByteArray), bt297.1, strOfNums (x8.take 16), true)) else (some (0, 0, 0, 0, ([] : List Int), ([] : List ByteArray), ([] : List (S72)), (⟨#[]⟩ : ByteArray), false)))) else (some (0, 0, 0, 0, ([] : List Int), ([] : List ByteArray), ([] : List (S72)), (⟨#[]⟩ : ByteArray), false)))) else (none)) else (if x4 = 2 then (if ((x8.length : Int) = 0) then ((spec_MsgOk.f k x284000 x284001 x284002 x284003 ([] : List Int) ([] : List ByteArray) ([] : List (S72)) x284007).bind fun t302 => (if t302 = true then (some (x284000, x284001, x284002, x284003, ([] : List Int), ([] : List ByteArray), ([] : List (S72)), x284007, true)) else (some (0, 0, 0, 0, ([] : List Int), ([] : List ByteArray), ([] : List (S72)), (⟨#[]⟩ : ByteArray), false)))) else (some (0, 0, 0, 0, ([] : List Int), ([] : List ByteArray), ([] : List (S72)), (⟨#[]⟩ : ByteArray), false))) else (some (0, 0, 0, 0, ([] : List Int), ([] : List ByteArray), ([] : List (S72)), (⟨#[]⟩ : ByteArray), false)))
def spec_GetMsg.f (k : Nat) (l0 : List Int) : Option (Int × Int × Int × Int × List Int × List ByteArray × (List (S72)) × ByteArray × Bool) := (spec_GetVar.f k l0).bind fun bt277 => (if bt277.2 = 0 then (some (0, 0, 0, 0, ([] : List Int), ([] : List ByteArray), ([] : List (S72)), (⟨#[]⟩ : ByteArray), false)) else (if 0 ≤ bt277.2 then (if bt277.2 ≤ (l0.length : Int) then ((spec_GetVar.f k (l0.drop (bt277.2 : Int).toNat)).bind fun bt280 => (if bt280.2 = 0 then (some (0, 0, 0, 0, ([] : List Int), ([] : List ByteArray), ([] : List (S72)), (⟨#[]⟩ : ByteArray), false)) else (if 0 ≤ (wrap64 (bt277.2 + bt280.2)) then (if (wrap64 (bt277.2 + bt280.2)) ≤ (l0.length : Int) then (if bt277.1 = 0 then ((spec_GetSig.f k (l0.drop ((wrap64 (bt277.2 + bt280.2)) : Int).toNat)).bind fun bt284 => (if bt284.2.2.2.2 = true then ((spec_MsgOk.f k bt277.1 bt280.1 bt284.1 bt284.2.1 bt284.2.2.1 bt284.2.2.2.1 ([] : List (S72)) (⟨#[]⟩ : ByteArray)).bind fun t294 => (if t294 = true then (some (bt277.1, bt280.1, bt284.1, bt284.2.1, bt284.2.2.1, bt284.2.2.2.1, ([] : List (S72)), (⟨#[]⟩ : ByteArray), true)) else (some (0, 0, 0, 0, ([] : List Int), ([] : List ByteArray), ([] : List (S72)), (⟨#[]⟩ : ByteArray), false)))) else (some (0, 0, 0, 0, ([] : List Int), ([] : List ByteArray), ([] : List (S72)), (⟨#[]⟩ : ByteArray), false)))) else (if bt277.1 = 1 then (spec_GetMsg.j0 k bt277.1 (l0.drop ((wrap64 (bt277.2 + bt280.2)) : Int).toNat) (decide (((l0.drop ((wrap64 (bt277.2 + bt280.2)) : Int).toNat).length : Int) ≥ 16)) bt277.1 bt280.1 0 0 (⟨#[]⟩ : ByteArray)) else (spec_GetMsg.j0 k bt277.1 (l0.drop ((wrap64 (bt277.2 + bt280.2)) : Int).toNat) false bt277.1 bt280.1 0 0 (⟨#[]⟩ : ByteArray)))) else (none)) else (none)))) else (none)) else (none)))
theorem spec_GetMsg.mono_l : ∀ k, (∀ y0 y1 y2 y3 y4 y5 y6 y7, LeO (spec_GetMsg.j0 k y0 y1 y2 y3 y4 y5 y6 y7) (spec_GetMsg.j0 (k + 1) y0 y1 y2 y3 y4 y5 y6 y7))
 | 0 => fun _ _ _ _ _ _ _ _ r h => by simp [spec_GetMsg.j0] at h
 | k + 1 => by
  have ih0 := spec_GetMsg.mono_l k
  ·intro y0 y1 y2 y3 y4 y5 y6 y7
   unfold spec_GetMsg.j0
   repeat' first | (with_reducible first | exact ih0 _ _ _ _ _ _ _ _ | exact spec_GetSig.mono _ _ | exact spec_GetTokens.mono _ _ | exact spec_GetVar.mono _ _ | exact spec_MsgOk.mono _ _ _ _ _ _ _ _ _ | exact LeO.refl _ | exact LeO.none _ | refine LeO.ite ?_ ?_ | refine LeO.bind ?_ (fun _ => ?_)) | exact ih0 _ _ _ _ _ _ _ _ | exact spec_GetSig.mono _ _ | exact spec_GetTokens.mono _ _ | exact spec_GetVar.mono _ _ | exact spec_MsgOk.mono _ _ _ _ _ _ _ _ _ | exact LeO.none _ | refine LeO.ite ?_ ?_ | refine LeO.bind ?_ (fun _ => ?_)
theorem spec_GetMsg.mono : ∀ a0 k, LeO (spec_GetMsg.f k a0) (spec_GetMsg.f (k + 1) a0) := by
 intro a0 k
 have ih0 := spec_GetMsg.mono_l k
 unfold spec_GetMsg.f
 repeat' first | (with_reducible first | exact ih0 _ _ _ _ _ _ _ _ | exact spec_GetSig.mono _ _ | exact spec_GetTokens.mono _ _ | exact spec_GetVar.mono _ _ | exact spec_MsgOk.mono _ _ _ _ _ _ _ _ _ | exact LeO.refl _ | exact LeO.none _ | refine LeO.ite ?_ ?_ | refine LeO.bind ?_ (fun _ => ?_)) | exact ih0 _ _ _ _ _ _ _ _ | exact spec_GetSig.mono _ _ | exact spec_GetTokens.mono _ _ | exact spec_GetVar.mono _ _ | exact spec_MsgOk.mono _ _ _ _ _ _ _ _ _ | exact LeO.none _ | refine LeO.ite ?_ ?_ | refine LeO.bind ?_ (fun _ => ?_)
set_option maxHeartbeats 8000000 in
set_option maxRecDepth 100000 in
theorem spec_GetMsg.calls (k : Nat) (A0 : Option Addr) (c0 : Nat) (l0 : List Int) (r1 : Int) (r2 : Int) (r3 : Int) (r4 : Int) (r5 : List Int) (r6 : List ByteArray) (r7 : List (S72)) (r8 : ByteArray) (r9 : Bool) (w : World) (hr0 : Kd.C (Kd.int .u8) w A0 l0.length l0) (hc0 : l0.length ≤ c0) (h : spec_GetMsg.f k l0 = some (r1, r2, r3, r4, r5, r6, r7, r8, r9)) :
  Calls Try.prog 5 #[.slice A0 l0.length c0] w fun e w' => ∃ v4_ v5_ v6_ : Value, e = .returned (.tuple #[.agg #[.int .i64 r1, .int .i64 r2, .int .i64 r3, .int .i64 r4, v4_, v5_, v6_, .string r8], .bool r9]) ∧ Kd.R (Kd.int .u32) 60 w' w.heap.size (fun _ => True) v4_ r5 ∧ Kd.R Kd.string 9 w' w.heap.size (fun _ => True) v5_ r6 ∧ Kd.R k72 72 w' w.heap.size (fun _ => True) v6_ r7 ∧ Below w.heap.size w w' := by
 have hu29 := Try.underlying29
 have hu26 := Try.underlying26
 have HR0 := Aside0.mk hr0
 have HC0 := Aside0.mk hc0
 clear hr0 hc0
 have HB := Aside0.mk (Below.refl w.heap.size w)
 have H : ((spec_GetVar.f k l0).bind fun bt277 => (if bt277.2 = 0 then (some (0, 0, 0, 0, ([] : List Int), ([] : List ByteArray), ([] : List (S72)), (⟨#[]⟩ : ByteArray), false)) else (if 0 ≤ bt277.2 then (if bt277.2 ≤ (l0.length : Int) then ((spec_GetVar.f k (l0.drop (bt277.2 : Int).toNat)).bind fun bt280 => (if bt280.2 = 0 then (some (0, 0, 0, 0, ([] : List Int), ([] : List ByteArray), ([] : List (S72)), (⟨#[]⟩ : ByteArray), false)) else (if 0 ≤ (wrap64 (bt277.2 + bt280.2)) then (if (wrap64 (bt277.2 + bt280.2)) ≤ (l0.length : Int) then (if bt277.1 = 0 then ((spec_GetSig.f k (l0.drop ((wrap64 (bt277.2 + bt280.2)) : Int).toNat)).bind fun bt284 => (if bt284.2.2.2.2 = true then ((spec_MsgOk.f k bt277.1 bt280.1 bt284.1 bt284.2.1 bt284.2.2.1 bt284.2.2.2.1 ([] : List (S72)) (⟨#[]⟩ : ByteArray)).bind fun t294 => (if t294 = true then (some (bt277.1, bt280.1, bt284.1, bt284.2.1, bt284.2.2.1, bt284.2.2.2.1, ([] : List (S72)), (⟨#[]⟩ : ByteArray), true)) else (some (0, 0, 0, 0, ([] : List Int), ([] : List ByteArray), ([] : List (S72)), (⟨#[]⟩ : ByteArray), false)))) else (some (0, 0, 0, 0, ([] : List Int), ([] : List ByteArray), ([] : List (S72)), (⟨#[]⟩ : ByteArray), false)))) else (if bt277.1 = 1 then (spec_GetMsg.j0 k bt277.1 (l0.drop ((wrap64 (bt277.2 + bt280.2)) : Int).toNat) (decide (((l0.drop ((wrap64 (bt277.2 + bt280.2)) : Int).toNat).length : Int) ≥ 16)) bt277.1 bt280.1 0 0 (⟨#[]⟩ : ByteArray)) else (spec_GetMsg.j0 k bt277.1 (l0.drop ((wrap64 (bt277.2 + bt280.2)) : Int).toNat) false bt277.1 bt280.1 0 0 (⟨#[]⟩ : ByteArray)))) else (none)) else (none)))) else (none)) else (none)))) = some (r1, r2, r3, r4, r5, r6, r7, r8, r9) := h
 clear h
 replace H := Option.bind_eq_some_iff.mp H
 obtain ⟨⟨t277, t278⟩, A20, H⟩ := H
 try dsimp -simprocs only at H
 have A2 := Aside0.mk A20
 clear A20
 have HC3 := Aside0.mk H
 clear H
 go_enter Try.func5, Try.ntmps5
 go_upto_if 21 with (first | ((with_reducible refine gate_dst (N := 2) rfl ?_); (try (refine gate_guard (by rfl) ?_; dsimp only)); refine box_event ?hg (N := 2) ?hd (cs := #[.int .i64 0, .int .i64 0, .int .i64 0, .int .i64 0, .slice none 0 0, .slice none 0 0, .slice none 0 0, .string (⟨#[]⟩ : ByteArray)]) (t := 29) ?hr ?_; (case hd => rfl); (case hg => rfl); (case hr => first | (go_simp; done) | (go_simp; rfl)); intro gb276 hg w4 hbox hb; have n0_ := Aside0.mk (below_step bz hb); have n1_ := Aside0.mk (hbox); have n2_ := Aside0.mk (bg : w.heap.size ≤ gb276); have n3_ := Aside0.mk (bg : w.heap.size ≤ gb276); clear HB; have HB := n0_; have BK276 := n1_; have GW276 := n2_; have GE276 := n3_; clear n0_ n1_ n2_ n3_; clear hb hbox hg) | ((with_reducible refine gate_callee (f := 20) rfl ?_); refine goesL_ (some 17) rfl rfl Try.func20 (by kernel_rfl) rfl #[.slice A0 l0.length c0] rfl mt ?_; (with_reducible refine (spec_GetVar.calls k _ _ l0 t277 t278 _ ?side1 ?side2 A2.out).mono ?_); (case side1 => exact cz HR0); (case side2 => exact HC0.out); rintro e w5 ⟨rfl, hb⟩; refine ⟨_, rfl, ?_⟩; have n0_ := Aside0.mk (blk_below (bo BK276) hb); have n1_ := Aside0.mk (below_step bz hb); clear BK276; clear HB; have BK276 := n0_; have HB := n1_; clear n0_ n1_; (try clear hb); (try clear hb2); (try clear hk); (try clear hi)))
 (try simp only [Act.put, List.setIfInBounds_toArray, List.set_cons_zero, List.set_cons_succ])
 have H := HC3.out
 clear HC3
 by_cases c6 : t278 = 0
 ·rw [if_pos c6] at H
  have c6b0 : (t278 == 0) = true := beq_iff_eq.mpr c6
  have c6b1 : (t278 != 0) = false := bne_eq_false_iff_eq.mpr c6
  clear c6
  (first | rw [c6b0] | (simp only [i64_w, i32_w]; rw [c6b0]) | skip)
  simp only [Option.some.injEq, Prod.mk.injEq] at H
  obtain ⟨rfl, rfl, rfl, rfl, rfl, rfl, rfl, rfl, rfl⟩ := H
  obtain ⟨hcz7_0, hcz7_1, hcz7_2, hcz7_3, hcz7_4, hcz7_5, hcz7_6, hcz7_7, hfz7_0, hfz7_1, hfz7_2, hfz7_3, hfz7_4, hfz7_5, hfz7_6, hfz7_7⟩ := bc8 BK276.out
  go_wp2
  refine bodyPost_ret (results_ct rfl _ _ gb276 29 #[.int .i64 0, .int .i64 0, .int .i64 0, .int .i64 0, .slice none 0 0, .slice none 0 0, .slice none 0 0, .string (⟨#[]⟩ : ByteArray)] (0, 0) _ rfl bk Try.underlying29 rfl (by kernel_rfl)) rfl ?_
  exact ⟨_, _, _, rq, nz, nz, nz, bz⟩
 ·rw [if_neg c6] at H
  have c6b0 : (t278 == 0) = false := beq_eq_false_iff_ne.mpr c6
  have c6b1 : (t278 != 0) = true := bne_iff_ne.mpr c6
  (first | rw [c6b0] | (simp only [i64_w, i32_w]; rw [c6b0]) | skip)
  by_cases c8 : 0 ≤ t278
  ·rw [if_pos c8] at H
   have c8b0 := eq_true c8
   have c8b1 : decide (0 ≤ t278) = true := decide_eq_true c8
   clear c8
   by_cases c9 : t278 ≤ (l0.length : Int)
   ·rw [if_pos c9] at H
    have c9b0 := eq_true c9
    have c9b1 : decide (t278 ≤ (l0.length : Int)) = true := decide_eq_true c9
    clear c9
    replace H := Option.bind_eq_some_iff.mp H
    obtain ⟨⟨t280, t281⟩, A100, H⟩ := H
    try dsimp -simprocs only at H
    have A10 := Aside0.mk A100
    clear A100
    have HC11 := Aside0.mk H
    clear H
    obtain ⟨i012, hi012, _, hsz12, _⟩ := info_parts info5
    obtain ⟨A12, hcut12, hA12, hC12⟩ := print_drop_of (P := Try.prog) (Value.int .u8) 0 22 5 .i64 Try.underlying22 hi012 hsz12 A0 c0 l0 t278 od od HC0.out
    have HR279 := Aside0.mk (Kd.C_of_reads (h1 := fun _ => rfl) (hA12 _ (Kd.reads_of_C HR0.out)))
    have HC279 := Aside0.mk hC12
    clear hA12 hC12 hi012 hsz12
    go_upto_if 31 with (first | ((with_reducible refine gate_callee (f := 20) rfl ?_); refine goesL_ (some 27) rfl rfl Try.func20 (by kernel_rfl) rfl #[.slice A12 (l0.drop (t278 : Int).toNat).length (c0 - t278.toNat)] rfl (by (try simp only [List.map_toArray, List.map_cons, List.map_nil]); first | done | (rw [show (l0.drop (t278 : Int).toNat).length = (l0.length - t278.toNat) from List.length_drop] <;> rfl) | rfl | (simp only [List.length_drop, List.length_take]; rfl)) ?_; (with_reducible refine (spec_GetVar.calls k _ _ (l0.drop (t278 : Int).toNat) t280 t281 _ ?side1 ?side2 A10.out).mono ?_); (case side1 => exact cz HR279); (case side2 => exact HC279.out); rintro e w13 ⟨rfl, hb⟩; refine ⟨_, rfl, ?_⟩; have n0_ := Aside0.mk (blk_below (bo BK276) hb); have n1_ := Aside0.mk (below_step bz hb); clear BK276; clear HB; have BK276 := n0_; have HB := n1_; clear n0_ n1_; (try clear hb); (try clear hb2); (try clear hk); (try clear hi)))
    (try simp only [Act.put, List.setIfInBounds_toArray, List.set_cons_zero, List.set_cons_succ])
    have H := HC11.out
    clear HC11
    by_cases c14 : t281 = 0
    ·rw [if_pos c14] at H
     have c14b0 : (t281 == 0) = true := beq_iff_eq.mpr c14
     have c14b1 : (t281 != 0) = false := bne_eq_false_iff_eq.mpr c14
     clear c14
     (first | rw [c14b0] | (simp only [i64_w, i32_w]; rw [c14b0]) | skip)
     simp only [Option.some.injEq, Prod.mk.injEq] at H
     obtain ⟨rfl, rfl, rfl, rfl, rfl, rfl, rfl, rfl, rfl⟩ := H
     obtain ⟨hcz15_0, hcz15_1, hcz15_2, hcz15_3, hcz15_4, hcz15_5, hcz15_6, hcz15_7, hfz15_0, hfz15_1, hfz15_2, hfz15_3, hfz15_4, hfz15_5, hfz15_6, hfz15_7⟩ := bc8 BK276.out
     go_wp2
     refine bodyPost_ret (results_ct rfl _ _ gb276 29 #[.int .i64 0, .int .i64 0, .int .i64 0, .int .i64 0, .slice none 0 0, .slice none 0 0, .slice none 0 0, .string (⟨#[]⟩ : ByteArray)] (0, 0) _ rfl bk Try.underlying29 rfl (by kernel_rfl)) rfl ?_
     exact ⟨_, _, _, rq, nz, nz, nz, bz⟩
    ·rw [if_neg c14] at H
     have c14b0 : (t281 == 0) = false := beq_eq_false_iff_ne.mpr c14
     have c14b1 : (t281 != 0) = true := bne_iff_ne.mpr c14
     (first | rw [c14b0] | (simp only [i64_w, i32_w]; rw [c14b0]) | skip)
     obtain ⟨ji16, hji16⟩ : ∃ j_ : Int, (wrap64 (t278 + t281)) = j_ := ⟨_, rfl⟩
     replace H : (if 0 ≤ (ji16) then (if (ji16) ≤ (l0.length : Int) then (if t277 = 0 then ((spec_GetSig.f k (l0.drop ((ji16) : Int).toNat)).bind fun bt284 => (if bt284.2.2.2.2 = true then ((spec_MsgOk.f k t277 t280 bt284.1 bt284.2.1 bt284.2.2.1 bt284.2.2.2.1 ([] : List (S72)) (⟨#[]⟩ : ByteArray)).bind fun t294 => (if t294 = true then (some (t277, t280, bt284.1, bt284.2.1, bt284.2.2.1, bt284.2.2.2.1, ([] : List (S72)), (⟨#[]⟩ : ByteArray), true)) else (some (0, 0, 0, 0, ([] : List Int), ([] : List ByteArray), ([] : List (S72)), (⟨#[]⟩ : ByteArray), false)))) else (some (0, 0, 0, 0, ([] : List Int), ([] : List ByteArray), ([] : List (S72)), (⟨#[]⟩ : ByteArray), false)))) else (if t277 = 1 then (spec_GetMsg.j0 k t277 (l0.drop ((ji16) : Int).toNat) (decide (((l0.drop ((ji16) : Int).toNat).length : Int) ≥ 16)) t277 t280 0 0 (⟨#[]⟩ : ByteArray)) else (spec_GetMsg.j0 k t277 (l0.drop ((ji16) : Int).toNat) false t277 t280 0 0 (⟨#[]⟩ : ByteArray)))) else (none)) else (none)) = some (r1, r2, r3, r4, r5, r6, r7, r8, r9) := by first | (rw [hji16] at H; exact H) | (simp only [hji16] at H ⊢; exact H)
     have hji16w : (IntKind.i64.wrap (t278 + t281)) = ji16 := (i64_w _).trans hji16
     by_cases c17 : 0 ≤ (ji16)
     ·rw [if_pos c17] at H
      have c17b0 := eq_true c17
      have c17b1 : decide (0 ≤ (ji16)) = true := decide_eq_true c17
      clear c17
      by_cases c18 : (ji16) ≤ (l0.length : Int)
      ·rw [if_pos c18] at H
       have c18b0 := eq_true c18
       have c18b1 : decide ((ji16) ≤ (l0.length : Int)) = true := decide_eq_true c18
       clear c18
       have HC19 := Aside0.mk H
       clear H
       obtain ⟨i020, hi020, _, hsz20, _⟩ := info_parts info5
       obtain ⟨A20, hcut20, hA20, hC20⟩ := print_drop_of (P := Try.prog) (Value.int .u8) 0 22 5 .i64 Try.underlying22 hi020 hsz20 A0 c0 l0 (ji16) od od HC0.out
       have HR282 := Aside0.mk (Kd.C_of_reads (h1 := fun _ => rfl) (hA20 _ (Kd.reads_of_C HR0.out)))
       have HC282 := Aside0.mk hC20
       clear hA20 hC20 hi020 hsz20
       go_upto_if 41 with (first | ((with_reducible refine gate_dst (N := 9) rfl ?_); (try (refine gate_guard (by rfl) ?_; dsimp only)); refine box_event ?hg (N := 9) ?hd (cs := #[.int .i64 0, .int .i64 0, .int .i64 0, .int .i64 0, .slice none 0 0, .slice none 0 0, .slice none 0 0, .string (⟨#[]⟩ : ByteArray)]) (t := 29) ?hr ?_; (case hd => rfl); (case hg => rfl); (case hr => first | (go_simp; done) | (go_simp; rfl)); intro gb283 hg w21 hbox hb; have n0_ := Aside0.mk (blk_below (bo BK276) hb); have n1_ := Aside0.mk (below_step bz hb); have n2_ := Aside0.mk (hbox); have n3_ := Aside0.mk (bg : w.heap.size ≤ gb283); have n4_ := Aside0.mk (bg : w.heap.size ≤ gb283); have n5_ := Aside0.mk ((by rw [hg]; exact Nat.ne_of_lt (blk_lt (bo BK276)) : gb276 ≠ gb283)); have n6_ := Aside0.mk ((by rw [hg]; exact Nat.ne_of_gt (blk_lt (bo BK276)) : gb283 ≠ gb276)); clear BK276; clear HB; have BK276 := n0_; have HB := n1_; have BK283 := n2_; have GW283 := n3_; have GE283 := n4_; have NB276_283 := n5_; have NB283_276 := n6_; clear n0_ n1_ n2_ n3_ n4_ n5_ n6_; clear hb hbox hg; have hnb22 := NB283_276.out; have hnc22 := NB276_283.out; obtain ⟨hcz23_0, hcz23_1, hcz23_2, hcz23_3, hcz23_4, hcz23_5, hcz23_6, hcz23_7, hfz23_0, hfz23_1, hfz23_2, hfz23_3, hfz23_4, hfz23_5, hfz23_6, hfz23_7⟩ := bc8 BK283.out) | ((with_reducible refine gate_store (t := 29) (p := 9) rfl ?_); refine store_event (t := 29) (p := 9) (v := ?vo_w24) (w1 := ((((((((w21.setCell ⟨gb283, 0, none⟩ (.int .i64 t277)).setCell ⟨gb283, 1, none⟩ (.int .i64 t280)).setCell ⟨gb283, 2, none⟩ (.int .i64 0)).setCell ⟨gb283, 3, none⟩ (.int .i64 0)).setCell ⟨gb283, 4, none⟩ (.slice none 0 0)).setCell ⟨gb283, 5, none⟩ (.slice none 0 0)).setCell ⟨gb283, 6, none⟩ (.slice none 0 0)).setCell ⟨gb283, 7, none⟩ (.string (⟨#[]⟩ : ByteArray)))) ?hg ?ho ?hn ?hr ?_; (case ho => rfl); (case hg => rfl); (case hn => rfl); (case hr => first | (go_simp; done) | (go_simp; rfl)); intro w24 hw; have n0_ : Aside0 (w24.heap[gb276]? = some (.cells #[.int .i64 0, .int .i64 0, .int .i64 0, .int .i64 0, .slice none 0 0, .slice none 0 0, .slice none 0 0, .string (⟨#[]⟩ : ByteArray)] 29 (0, 0))) := ⟨(by rw [hw]; exact (bo BK276))⟩; have n1_ : Aside0 (w24.heap[gb283]? = some (.cells #[.int .i64 t277, .int .i64 t280, .int .i64 0, .int .i64 0, .slice none 0 0, .slice none 0 0, .slice none 0 0, .string (⟨#[]⟩ : ByteArray)] 29 (0, 0))) := ⟨(by rw [hw]; exact bk)⟩; have n2_ : Aside0 (Below w.heap.size w w24) := ⟨(by rw [hw]; exact bz)⟩; clear hw; clear BK276; clear BK283; clear HB; have BK276 := n0_; have BK283 := n1_; have HB := n2_; clear n0_ n1_ n2_))
       (try simp only [Act.put, List.setIfInBounds_toArray, List.set_cons_zero, List.set_cons_succ])
       have H := HC19.out
       clear HC19
       by_cases c25 : t277 = 0
       ·rw [if_pos c25] at H
        have c25b0 : (t277 == 0) = true := beq_iff_eq.mpr c25
        have c25b1 : (t277 != 0) = false := bne_eq_false_iff_eq.mpr c25
        clear c25
        (first | rw [c25b0] | (simp only [i64_w, i32_w]; rw [c25b0]) | skip)
        replace H := Option.bind_eq_some_iff.mp H
        obtain ⟨⟨t284, t285, t286, t289, t292⟩, A260, H⟩ := H
        try dsimp -simprocs only at H
        have A26 := Aside0.mk A260
        clear A260
        by_cases c27 : t292 = true
        ·subst c27
         have H1 : ((spec_MsgOk.f k t277 t280 t284 t285 t286 t289 ([] : List (S72)) (⟨#[]⟩ : ByteArray)).bind fun t294 => (if t294 = true then (some (t277, t280, t284, t285, t286, t289, ([] : List (S72)), (⟨#[]⟩ : ByteArray), true)) else (some (0, 0, 0, 0, ([] : List Int), ([] : List ByteArray), ([] : List (S72)), (⟨#[]⟩ : ByteArray), false)))) = some (r1, r2, r3, r4, r5, r6, r7, r8, r9) := by rw [if_pos rfl] at H; exact H
         clear H
         have H := H1
         clear H1
         replace H := Option.bind_eq_some_iff.mp H
         obtain ⟨t294, A280, H⟩ := H
         try dsimp -simprocs only at H
         have A28 := Aside0.mk A280
         clear A280
         have HC29 := Aside0.mk H
         clear H
         go_upto_if 85 with (first | ((with_reducible refine gate_callee (f := 21) rfl ?_); refine goesL_ (some 46) rfl rfl Try.func21 (by kernel_rfl) rfl #[.slice A20 (l0.drop ((ji16) : Int).toNat).length (c0 - (ji16).toNat)] rfl (by (try simp only [List.map_toArray, List.map_cons, List.map_nil]); first | done | (rw [show (l0.drop ((ji16) : Int).toNat).length = (l0.length - (ji16).toNat) from List.length_drop] <;> rfl) | (simp only [hji16]; rfl) | rfl | (simp only [List.length_drop, List.length_take]; rfl)) ?_; (with_reducible refine (spec_GetSig.calls k (fun k_ => k_ < w.heap.size) _ _ (l0.drop ((ji16) : Int).toNat) t284 t285 t286 t289 true _ ?side1 A26.out).mono ?_); (case side1 => exact Kd.V_mk HC282.out (Kd.F_below (Kd.C_F (Kd.heap_int .u8) HR282.out) bz)); rintro e w30 ⟨v287, v290, rfl, ho0, ho1, hb⟩; refine ⟨_, rfl, ?_⟩; have n0_ := Aside0.mk (Kd.R_lower (Kd.R_mono (ok' := fun k_ => True) ho0 (fun _ hk_ => trivial)) (below_size bz)); have n1_ := Aside0.mk (Kd.R_lower (Kd.R_mono (ok' := fun k_ => True) ho1 (fun _ hk_ => trivial)) (below_size bz)); have n2_ := Aside0.mk (blk_below (bo BK276) hb); have n3_ := Aside0.mk (blk_below (bo BK283) hb); have n4_ := Aside0.mk (below_step bz hb); clear BK276; clear BK283; clear HB; have HO288 := n0_; have HO291 := n1_; have BK276 := n2_; have BK283 := n3_; have HB := n4_; clear n0_ n1_ n2_ n3_ n4_; (try clear hb); (try clear hb2); (try clear hk); (try clear hi); (try clear ho0); (try clear ho1)) | ((with_reducible refine gate_dst (N := 11) rfl ?_); (try (refine gate_guard (by rfl) ?_; dsimp only)); refine box_event ?hg (N := 11) ?hd (cs := #[.int .i64 0, .int .i64 0, .slice none 0 0, .slice none 0 0]) (t := 26) ?hr ?_; (case hd => rfl); (case hg => rfl); (case hr => first | (go_simp; done) | (go_simp; rfl)); intro gb293 hg w31 hbox hb; have n0_ := Aside0.mk (Kd.R_below (by refine rs ?_; exact HO288.out) hb); have n1_ := Aside0.mk (Kd.R_below (by refine rs ?_; exact HO291.out) hb); have n2_ := Aside0.mk (blk_below (bo BK276) hb); have n3_ := Aside0.mk (blk_below (bo BK283) hb); have n4_ := Aside0.mk (below_step bz hb); have n5_ := Aside0.mk (hbox); have n6_ := Aside0.mk (bg : w.heap.size ≤ gb293); have n7_ := Aside0.mk (bg : w.heap.size ≤ gb293); have n8_ := Aside0.mk ((by rw [hg]; exact Nat.ne_of_lt (blk_lt (bo BK276)) : gb276 ≠ gb293)); have n9_ := Aside0.mk ((by rw [hg]; exact Nat.ne_of_gt (blk_lt (bo BK276)) : gb293 ≠ gb276)); have n10_ := Aside0.mk ((by rw [hg]; exact Nat.ne_of_lt (blk_lt (bo BK283)) : gb283 ≠ gb293)); have n11_ := Aside0.mk ((by rw [hg]; exact Nat.ne_of_gt (blk_lt (bo BK283)) : gb293 ≠ gb283)); clear HO288; clear HO291; clear BK276; clear BK283; clear HB; have HO288 := n0_; have HO291 := n1_; have BK276 := n2_; have BK283 := n3_; have HB := n4_; have BK293 := n5_; have GW293 := n6_; have GE293 := n7_; have NB276_293 := n8_; have NB293_276 := n9_; have NB283_293 := n10_; have NB293_283 := n11_; clear n0_ n1_ n2_ n3_ n4_ n5_ n6_ n7_ n8_ n9_ n10_ n11_; clear hb hbox hg; have hnb32 := NB293_276.out; have hnc32 := NB276_293.out; have hnb33 := NB293_283.out; have hnc33 := NB283_293.out; obtain ⟨hcz34_0, hcz34_1, hcz34_2, hcz34_3, hfz34_0, hfz34_1, hfz34_2, hfz34_3⟩ := bc4 BK293.out; obtain ⟨Ao35, co35, eo35⟩ := Kd.R_slice HO288.out; subst eo35; obtain ⟨Ao36, co36, eo36⟩ := Kd.R_slice HO291.out; subst eo36; have hnb37 := NB283_276.out; have hnc37 := NB276_283.out; obtain ⟨hcz38_0, hcz38_1, hcz38_2, hcz38_3, hcz38_4, hcz38_5, hcz38_6, hcz38_7, hfz38_0, hfz38_1, hfz38_2, hfz38_3, hfz38_4, hfz38_5, hfz38_6, hfz38_7⟩ := bc8 BK283.out) | (go_at_call 16; (refine (spec_MsgOk.calls k t277 t280 t284 t285 _ _ t286 _ _ t289 _ _ ([] : List (S72)) (⟨#[]⟩ : ByteArray) t294 _ ?side1 ?side2 ?side3 ?side4 ?side5 ?side6 A28.out).mono ?_); (case side1 => refine (Kd.R_reads' (e := 60) (base := w.heap.size) (ok := fun k_ => True) (n := t286.length) (c := co35) ?_).2.2; exact (by refine rs ?_; exact (Kd.R_mono (Kd.R_mono (Kd.rf (Kd.rf (Kd.rf (Kd.rf (Kd.R_far (p := ⟨gb293, 3, none⟩) (Kd.R_far (p := ⟨gb293, 2, none⟩) (Kd.R_far (p := ⟨gb293, 1, none⟩) (Kd.R_far (p := ⟨gb293, 0, none⟩) (Kd.R_types (Kd.R_types HO288.out BK293.out (by decide)) BK283.out (by decide)) (fun _ hk => hk.1.2) (.int .i64 t284)) (fun _ hk => hk.1.2) (.int .i64 t285)) (fun _ hk => hk.1.2) (.slice Ao35 t286.length co35)) (fun _ hk => hk.1.2) (.slice Ao36 t289.length co36)))))) (fun _ h_ => h_.1)) (fun _ h_ => h_.1)))); (case side2 => exact (Kd.R_reads' HO288.out).2.1); (case side3 => refine (Kd.R_reads' (e := 9) (base := w.heap.size) (ok := fun k_ => True) (n := t289.length) (c := co36) ?_).2.2; exact (by refine rs ?_; exact (Kd.R_mono (Kd.R_mono (Kd.rf (Kd.rf (Kd.rf (Kd.rf (Kd.R_far (p := ⟨gb293, 3, none⟩) (Kd.R_far (p := ⟨gb293, 2, none⟩) (Kd.R_far (p := ⟨gb293, 1, none⟩) (Kd.R_far (p := ⟨gb293, 0, none⟩) (Kd.R_types (Kd.R_types HO291.out BK293.out (by decide)) BK283.out (by decide)) (fun _ hk => hk.1.2) (.int .i64 t284)) (fun _ hk => hk.1.2) (.int .i64 t285)) (fun _ hk => hk.1.2) (.slice Ao35 t286.length co35)) (fun _ hk => hk.1.2) (.slice Ao36 t289.length co36)))))) (fun _ h_ => h_.1)) (fun _ h_ => h_.1)))); (case side4 => exact (Kd.R_reads' HO291.out).2.1); (case side5 => exact Kd.C_nil _ _); (case side6 => exact Nat.le_refl _); rintro e w39 ⟨rfl, hb⟩; have n0_ := Aside0.mk (Kd.R_below (by refine rs ?_; exact (Kd.R_mono (Kd.R_mono (Kd.rf (Kd.rf (Kd.rf (Kd.rf (Kd.R_far (p := ⟨gb293, 3, none⟩) (Kd.R_far (p := ⟨gb293, 2, none⟩) (Kd.R_far (p := ⟨gb293, 1, none⟩) (Kd.R_far (p := ⟨gb293, 0, none⟩) (Kd.R_types (Kd.R_types HO288.out BK293.out (by decide)) BK283.out (by decide)) (fun _ hk => hk.1.2) (.int .i64 t284)) (fun _ hk => hk.1.2) (.int .i64 t285)) (fun _ hk => hk.1.2) (.slice Ao35 t286.length co35)) (fun _ hk => hk.1.2) (.slice Ao36 t289.length co36)))))) (fun _ h_ => h_.1)) (fun _ h_ => h_.1))) hb); have n1_ := Aside0.mk (Kd.R_below (by refine rs ?_; exact (Kd.R_mono (Kd.R_mono (Kd.rf (Kd.rf (Kd.rf (Kd.rf (Kd.R_far (p := ⟨gb293, 3, none⟩) (Kd.R_far (p := ⟨gb293, 2, none⟩) (Kd.R_far (p := ⟨gb293, 1, none⟩) (Kd.R_far (p := ⟨gb293, 0, none⟩) (Kd.R_types (Kd.R_types HO291.out BK293.out (by decide)) BK283.out (by decide)) (fun _ hk => hk.1.2) (.int .i64 t284)) (fun _ hk => hk.1.2) (.int .i64 t285)) (fun _ hk => hk.1.2) (.slice Ao35 t286.length co35)) (fun _ hk => hk.1.2) (.slice Ao36 t289.length co36)))))) (fun _ h_ => h_.1)) (fun _ h_ => h_.1))) hb); have n2_ := Aside0.mk (blk_below (bo BK276) hb); have n3_ := Aside0.mk (blk_below (g := gb283) (o := .cells #[.int .i64 t277, .int .i64 t280, .int .i64 t284, .int .i64 t285, .slice Ao35 t286.length co35, .slice Ao36 t289.length co36, .slice none 0 0, .string (⟨#[]⟩ : ByteArray)] 29 (0, 0)) bk hb); have n4_ := Aside0.mk (blk_below (g := gb293) (o := .cells #[.int .i64 t284, .int .i64 t285, .slice Ao35 t286.length co35, .slice Ao36 t289.length co36] 26 (0, 0)) bk hb); have n5_ := Aside0.mk (below_step bz hb); clear HO288; clear HO291; clear BK276; clear BK283; clear BK293; clear HB; have HO288 := n0_; have HO291 := n1_; have BK276 := n2_; have BK283 := n3_; have BK293 := n4_; have HB := n5_; clear n0_ n1_ n2_ n3_ n4_ n5_; (try clear hb); (try clear hb2); (try clear hk); (try clear hi)))
         (try simp only [Act.put, List.setIfInBounds_toArray, List.set_cons_zero, List.set_cons_succ])
         have H := HC29.out
         clear HC29
         by_cases c40 : t294 = true
         ·subst c40
          have H1 : (some (t277, t280, t284, t285, t286, t289, ([] : List (S72)), (⟨#[]⟩ : ByteArray), true)) = some (r1, r2, r3, r4, r5, r6, r7, r8, r9) := by rw [if_pos rfl] at H; exact H
          clear H
          have H := H1
          clear H1
          simp only [Option.some.injEq, Prod.mk.injEq] at H
          obtain ⟨rfl, rfl, rfl, rfl, rfl, rfl, rfl, rfl, rfl⟩ := H
          have hnb41 := NB283_276.out
          have hnc41 := NB276_283.out
          have hnb42 := NB283_293.out
          have hnc42 := NB293_283.out
          obtain ⟨hcz43_0, hcz43_1, hcz43_2, hcz43_3, hcz43_4, hcz43_5, hcz43_6, hcz43_7, hfz43_0, hfz43_1, hfz43_2, hfz43_3, hfz43_4, hfz43_5, hfz43_6, hfz43_7⟩ := bc8 BK283.out
          have hnb44 := NB276_293.out
          have hnc44 := NB293_276.out
          obtain ⟨hcz45_0, hcz45_1, hcz45_2, hcz45_3, hcz45_4, hcz45_5, hcz45_6, hcz45_7, hfz45_0, hfz45_1, hfz45_2, hfz45_3, hfz45_4, hfz45_5, hfz45_6, hfz45_7⟩ := bc8 BK276.out
          go_wp2
          refine bodyPost_ret (results_ct rfl _ _ gb276 29 #[.int .i64 t277, .int .i64 t280, .int .i64 t284, .int .i64 t285, .slice Ao35 t286.length co35, .slice Ao36 t289.length co36, .slice none 0 0, .string (⟨#[]⟩ : ByteArray)] (0, 0) _ rfl bk Try.underlying29 rfl (by kernel_rfl)) rfl ?_
          exact ⟨_, _, _, by first | rfl | (simp [errW_none, errW_some] <;> rfl) | (simp only [← hji16]; first | rfl | (simp [errW_none, errW_some] <;> rfl)) | (simp [*, errW_none, errW_some] <;> rfl), by refine rs ?_; exact Kd.R_mono (Kd.rf (Kd.rf (Kd.rf (Kd.rf (Kd.rf (Kd.rf (Kd.rf (Kd.rf (Kd.R_types HO288.out BK276.out (by decide)))))))))) (fun _ hk => trivial), by refine rs ?_; exact Kd.R_mono (Kd.rf (Kd.rf (Kd.rf (Kd.rf (Kd.rf (Kd.rf (Kd.rf (Kd.rf (Kd.R_types HO291.out BK276.out (by decide)))))))))) (fun _ hk => trivial), nz, bz⟩
         ·replace c40 := Bool.eq_false_iff.mpr c40
          subst c40
          have H1 : (some (0, 0, 0, 0, ([] : List Int), ([] : List ByteArray), ([] : List (S72)), (⟨#[]⟩ : ByteArray), false)) = some (r1, r2, r3, r4, r5, r6, r7, r8, r9) := by rw [if_neg (show ¬ (false = true) by decide)] at H; exact H
          clear H
          have H := H1
          clear H1
          simp only [Option.some.injEq, Prod.mk.injEq] at H
          obtain ⟨rfl, rfl, rfl, rfl, rfl, rfl, rfl, rfl, rfl⟩ := H
          have hnb46 := NB276_283.out
          have hnc46 := NB283_276.out
          have hnb47 := NB276_293.out
          have hnc47 := NB293_276.out
          obtain ⟨hcz48_0, hcz48_1, hcz48_2, hcz48_3, hcz48_4, hcz48_5, hcz48_6, hcz48_7, hfz48_0, hfz48_1, hfz48_2, hfz48_3, hfz48_4, hfz48_5, hfz48_6, hfz48_7⟩ := bc8 BK276.out
          go_wp2
          refine bodyPost_ret (results_ct rfl _ _ gb276 29 #[.int .i64 0, .int .i64 0, .int .i64 0, .int .i64 0, .slice none 0 0, .slice none 0 0, .slice none 0 0, .string (⟨#[]⟩ : ByteArray)] (0, 0) _ rfl bk Try.underlying29 rfl (by kernel_rfl)) rfl ?_
          exact ⟨_, _, _, by first | rfl | (simp [errW_none, errW_some] <;> rfl) | (simp only [← hji16]; first | rfl | (simp [errW_none, errW_some] <;> rfl)) | (simp [*, errW_none, errW_some] <;> rfl), nz, nz, nz, bz⟩
        ·replace c27 := Bool.eq_false_iff.mpr c27
         subst c27
         have H1 : (some (0, 0, 0, 0, ([] : List Int), ([] : List ByteArray), ([] : List (S72)), (⟨#[]⟩ : ByteArray), false)) = some (r1, r2, r3, r4, r5, r6, r7, r8, r9) := by rw [if_neg (show ¬ (false = true) by decide)] at H; exact H
         clear H
         have H := H1
         clear H1
         simp only [Option.some.injEq, Prod.mk.injEq] at H
         obtain ⟨rfl, rfl, rfl, rfl, rfl, rfl, rfl, rfl, rfl⟩ := H
         go_wp2_with (first | ((with_reducible refine gate_callee (f := 21) rfl ?_); refine goesL_ (some 46) rfl rfl Try.func21 (by kernel_rfl) rfl #[.slice A20 (l0.drop ((ji16) : Int).toNat).length (c0 - (ji16).toNat)] rfl (by (try simp only [List.map_toArray, List.map_cons, List.map_nil]); first | done | (rw [show (l0.drop ((ji16) : Int).toNat).length = (l0.length - (ji16).toNat) from List.length_drop] <;> rfl) | (simp only [hji16]; rfl) | rfl | (simp only [List.length_drop, List.length_take]; rfl)) ?_; (with_reducible refine (spec_GetSig.calls k (fun k_ => k_ < w.heap.size) _ _ (l0.drop ((ji16) : Int).toNat) t284 t285 t286 t289 false _ ?side1 A26.out).mono ?_); (case side1 => exact Kd.V_mk HC282.out (Kd.F_below (Kd.C_F (Kd.heap_int .u8) HR282.out) bz)); rintro e w49 ⟨v287, v290, rfl, ho0, ho1, hb⟩; refine ⟨_, rfl, ?_⟩; have n0_ := Aside0.mk (Kd.R_lower (Kd.R_mono (ok' := fun k_ => True) ho0 (fun _ hk_ => trivial)) (below_size bz)); have n1_ := Aside0.mk (Kd.R_lower (Kd.R_mono (ok' := fun k_ => True) ho1 (fun _ hk_ => trivial)) (below_size bz)); have n2_ := Aside0.mk (blk_below (bo BK276) hb); have n3_ := Aside0.mk (blk_below (bo BK283) hb); have n4_ := Aside0.mk (below_step bz hb); clear BK276; clear BK283; clear HB; have HO288 := n0_; have HO291 := n1_; have BK276 := n2_; have BK283 := n3_; have HB := n4_; clear n0_ n1_ n2_ n3_ n4_; (try clear hb); (try clear hb2); (try clear hk); (try clear hi); (try clear ho0); (try clear ho1)) | ((with_reducible refine gate_dst (N := 11) rfl ?_); (try (refine gate_guard (by rfl) ?_; dsimp only)); refine box_event ?hg (N := 11) ?hd (cs := #[.int .i64 0, .int .i64 0, .slice none 0 0, .slice none 0 0]) (t := 26) ?hr ?_; (case hd => rfl); (case hg => rfl); (case hr => first | (go_simp; done) | (go_simp; rfl)); intro gb293 hg w50 hbox hb; have n0_ := Aside0.mk (Kd.R_below (by refine rs ?_; exact HO288.out) hb); have n1_ := Aside0.mk (Kd.R_below (by refine rs ?_; exact HO291.out) hb); have n2_ := Aside0.mk (blk_below (bo BK276) hb); have n3_ := Aside0.mk (blk_below (bo BK283) hb); have n4_ := Aside0.mk (below_step bz hb); have n5_ := Aside0.mk (hbox); have n6_ := Aside0.mk (bg : w.heap.size ≤ gb293); have n7_ := Aside0.mk (bg : w.heap.size ≤ gb293); have n8_ := Aside0.mk ((by rw [hg]; exact Nat.ne_of_lt (blk_lt (bo BK276)) : gb276 ≠ gb293)); have n9_ := Aside0.mk ((by rw [hg]; exact Nat.ne_of_gt (blk_lt (bo BK276)) : gb293 ≠ gb276)); have n10_ := Aside0.mk ((by rw [hg]; exact Nat.ne_of_lt (blk_lt (bo BK283)) : gb283 ≠ gb293)); have n11_ := Aside0.mk ((by rw [hg]; exact Nat.ne_of_gt (blk_lt (bo BK283)) : gb293 ≠ gb283)); clear HO288; clear HO291; clear BK276; clear BK283; clear HB; have HO288 := n0_; have HO291 := n1_; have BK276 := n2_; have BK283 := n3_; have HB := n4_; have BK293 := n5_; have GW293 := n6_; have GE293 := n7_; have NB276_293 := n8_; have NB293_276 := n9_; have NB283_293 := n10_; have NB293_283 := n11_; clear n0_ n1_ n2_ n3_ n4_ n5_ n6_ n7_ n8_ n9_ n10_ n11_; clear hb hbox hg; have hnb51 := NB293_276.out; have hnc51 := NB276_293.out; have hnb52 := NB293_283.out; have hnc52 := NB283_293.out; obtain ⟨hcz53_0, hcz53_1, hcz53_2, hcz53_3, hfz53_0, hfz53_1, hfz53_2, hfz53_3⟩ := bc4 BK293.out; obtain ⟨Ao54, co54, eo54⟩ := Kd.R_slice HO288.out; subst eo54; obtain ⟨Ao55, co55, eo55⟩ := Kd.R_slice HO291.out; subst eo55; have hnb56 := NB283_276.out; have hnc56 := NB276_283.out; obtain ⟨hcz57_0, hcz57_1, hcz57_2, hcz57_3, hcz57_4, hcz57_5, hcz57_6, hcz57_7, hfz57_0, hfz57_1, hfz57_2, hfz57_3, hfz57_4, hfz57_5, hfz57_6, hfz57_7⟩ := bc8 BK283.out; obtain ⟨hcz58_0, hcz58_1, hcz58_2, hcz58_3, hcz58_4, hcz58_5, hcz58_6, hcz58_7, hfz58_0, hfz58_1, hfz58_2, hfz58_3, hfz58_4, hfz58_5, hfz58_6, hfz58_7⟩ := bc8 BK276.out))
         refine bodyPost_ret (results_ct rfl _ _ gb276 29 #[.int .i64 0, .int .i64 0, .int .i64 0, .int .i64 0, .slice none 0 0, .slice none 0 0, .slice none 0 0, .string (⟨#[]⟩ : ByteArray)] (0, 0) _ rfl bk Try.underlying29 rfl (by kernel_rfl)) rfl ?_
         exact ⟨_, _, _, by first | rfl | (simp [errW_none, errW_some] <;> rfl) | (simp only [← hji16]; first | rfl | (simp [errW_none, errW_some] <;> rfl)) | (simp [*, errW_none, errW_some] <;> rfl), nz, nz, nz, bz⟩
       ·rw [if_neg c25] at H
        have c25b0 : (t277 == 0) = false := beq_eq_false_iff_ne.mpr c25
        have c25b1 : (t277 != 0) = true := bne_iff_ne.mpr c25
        (first | rw [c25b0] | (simp only [i64_w, i32_w]; rw [c25b0]) | skip)
        have HC59 := Aside0.mk H
        clear H
        go_upto_region 15 with (fail)
        go_cut [52] (fun v52 wc => ∃ (kq : Nat) (x52_58 : Bool), v52 = .bool x52_58 ∧ Aside0 (spec_GetMsg.j0 kq t277 (l0.drop ((ji16) : Int).toNat) x52_58 t277 t280 0 0 (⟨#[]⟩ : ByteArray) = some (r1, r2, r3, r4, r5, r6, r7, r8, r9)) ∧ Aside0 (kq ≤ k) ∧ Aside0 (wc.heap[gb276]? = some (.cells #[.int .i64 0, .int .i64 0, .int .i64 0, .int .i64 0, (.slice none 0 0), (.slice none 0 0), (.slice none 0 0), .string (⟨#[]⟩ : ByteArray)] 29 (0, 0))) ∧ Aside0 (wc.heap[gb283]? = some (.cells #[.int .i64 t277, .int .i64 t280, .int .i64 0, .int .i64 0, (.slice none 0 0), (.slice none 0 0), (.slice none 0 0), .string (⟨#[]⟩ : ByteArray)] 29 (0, 0))) ∧ Aside0 (Below w.heap.size w wc))
        case first =>
         have H := HC59.out
         clear HC59
         by_cases c60 : t277 = 1
         ·rw [if_pos c60] at H
          have c60b0 : (t277 == 1) = true := beq_iff_eq.mpr c60
          have c60b1 : (t277 != 1) = false := bne_eq_false_iff_eq.mpr c60
          clear c60
          (first | rw [c60b0] | (simp only [i64_w, i32_w]; rw [c60b0]) | skip)
          have H' := Aside0.mk H
          clear H
          go_wp2
          go_meet
          case rel => exact ⟨_, (decide (((l0.drop ((ji16) : Int).toNat).length : Int) ≥ 16)), (by first | rfl | (simp; done) | (simp only [← hji16] <;> (first | rfl | simp)) | (simp [*]; done)), H', ⟨ob⟩, ⟨(bo BK276)⟩, ⟨(bo BK283)⟩, ⟨bz⟩⟩
         ·rw [if_neg c60] at H
          have c60b0 : (t277 == 1) = false := beq_eq_false_iff_ne.mpr c60
          have c60b1 : (t277 != 1) = true := bne_iff_ne.mpr c60
          (first | rw [c60b0] | (simp only [i64_w, i32_w]; rw [c60b0]) | skip)
          have H' := Aside0.mk H
          clear H
          go_wp2
          go_meet
          case rel => exact ⟨_, (false), sd, H', ⟨ob⟩, ⟨(bo BK276)⟩, ⟨(bo BK283)⟩, ⟨bz⟩⟩
        case rest =>
         clear HC59
         try clear c1
         try clear c2
         try clear p2
         try clear c3
         try clear c4
         try clear c5
         try clear c6
         try clear c6b0
         try clear c6b1
         try clear p6
         try clear c8
         try clear c8b0
         try clear c8b1
         try clear c9
         try clear c9b0
         try clear c9b1
         try clear c14
         try clear c14b0
         try clear c14b1
         try clear c17
         try clear c17b0
         try clear c17b1
         try clear c18
         try clear c18b0
         try clear c18b1
         try clear c20
         try clear c21
         try clear c22
         try clear c25
         try clear c25b0
         try clear c25b1
         try clear c27
         try clear c32
         try clear c33
         try clear c37
         try clear c40
         try clear c41
         try clear c42
         try clear c44
         try clear c46
         try clear c47
         try clear c51
         try clear c52
         try clear c56
         try clear c60
         try clear c60b0
         try clear c60b1
         try clear hcz15_0 hcz15_1 hcz15_2 hcz15_3 hcz15_4 hcz15_5 hcz15_6 hcz15_7 hfz15_0 hfz15_1 hfz15_2 hfz15_3 hfz15_4 hfz15_5 hfz15_6 hfz15_7
         try clear hcz23_0 hcz23_1 hcz23_2 hcz23_3 hcz23_4 hcz23_5 hcz23_6 hcz23_7 hfz23_0 hfz23_1 hfz23_2 hfz23_3 hfz23_4 hfz23_5 hfz23_6 hfz23_7
         try clear hcz34_0 hcz34_1 hcz34_2 hcz34_3 hfz34_0 hfz34_1 hfz34_2 hfz34_3
         try clear hcz38_0 hcz38_1 hcz38_2 hcz38_3 hcz38_4 hcz38_5 hcz38_6 hcz38_7 hfz38_0 hfz38_1 hfz38_2 hfz38_3 hfz38_4 hfz38_5 hfz38_6 hfz38_7
         try clear hcz43_0 hcz43_1 hcz43_2 hcz43_3 hcz43_4 hcz43_5 hcz43_6 hcz43_7 hfz43_0 hfz43_1 hfz43_2 hfz43_3 hfz43_4 hfz43_5 hfz43_6 hfz43_7
         try clear hcz45_0 hcz45_1 hcz45_2 hcz45_3 hcz45_4 hcz45_5 hcz45_6 hcz45_7 hfz45_0 hfz45_1 hfz45_2 hfz45_3 hfz45_4 hfz45_5 hfz45_6 hfz45_7
         try clear hcz48_0 hcz48_1 hcz48_2 hcz48_3 hcz48_4 hcz48_5 hcz48_6 hcz48_7 hfz48_0 hfz48_1 hfz48_2 hfz48_3 hfz48_4 hfz48_5 hfz48_6 hfz48_7
         try clear hcz53_0 hcz53_1 hcz53_2 hcz53_3 hfz53_0 hfz53_1 hfz53_2 hfz53_3
         try clear hcz57_0 hcz57_1 hcz57_2 hcz57_3 hcz57_4 hcz57_5 hcz57_6 hcz57_7 hfz57_0 hfz57_1 hfz57_2 hfz57_3 hfz57_4 hfz57_5 hfz57_6 hfz57_7
         try clear hcz58_0 hcz58_1 hcz58_2 hcz58_3 hcz58_4 hcz58_5 hcz58_6 hcz58_7 hfz58_0 hfz58_1 hfz58_2 hfz58_3 hfz58_4 hfz58_5 hfz58_6 hfz58_7
         try clear hcz7_0 hcz7_1 hcz7_2 hcz7_3 hcz7_4 hcz7_5 hcz7_6 hcz7_7 hfz7_0 hfz7_1 hfz7_2 hfz7_3 hfz7_4 hfz7_5 hfz7_6 hfz7_7
         obtain ⟨kq, x52_58, rfl, HA, HJ58, BK276, BK283, HB⟩ := hcut
         cases kq with
         | zero => exact absurd HA.out (by simp [spec_GetMsg.j0])
         | succ kj58 =>
          have H := HA.out
          clear HA
          simp only [spec_GetMsg.j0] at H
          by_cases c61 : x52_58 = true
          ·subst c61
           have H1 : (if 16 ≤ ((l0.drop ((ji16) : Int).toNat).length : Int) then ((spec_GetTokens.f kj58 ((l0.drop ((ji16) : Int).toNat).drop 16)).bind fun bt297 => (if bt297.2 = true then ((spec_MsgOk.f kj58 t277 t280 0 0 ([] : List Int) ([] : List ByteArray) bt297.1 (strOfNums ((l0.drop ((ji16) : Int).toNat).take 16))).bind fun t301 => (if t301 = true then (some (t277, t280, 0, 0, ([] : List Int), ([] : List ByteArray), bt297.1, strOfNums ((l0.drop ((ji16) : Int).toNat).take 16), true)) else (some (0, 0, 0, 0, ([] : List Int), ([] : List ByteArray), ([] : List (S72)), (⟨#[]⟩ : ByteArray), false)))) else (some (0, 0, 0, 0, ([] : List Int), ([] : List ByteArray), ([] : List (S72)), (⟨#[]⟩ : ByteArray), false)))) else (none)) = some (r1, r2, r3, r4, r5, r6, r7, r8, r9) := by rw [if_pos rfl] at H; exact H
           clear H
           have H := H1
           clear H1
           by_cases c62 : 16 ≤ ((l0.drop ((ji16) : Int).toNat).length : Int)
           ·rw [if_pos c62] at H
            have c62b0 := eq_true c62
            have c62b1 : decide (16 ≤ ((l0.drop ((ji16) : Int).toNat).length : Int)) = true := decide_eq_true c62
            clear c62
            have c63b0 := eq_true (od : 16 ≤ ((l0.drop ((ji16) : Int).toNat).length : Int))
            replace H := Option.bind_eq_some_iff.mp H
            obtain ⟨⟨t297, t300⟩, A640, H⟩ := H
            try dsimp -simprocs only at H
            have A64 := Aside0.mk A640
            clear A640
            by_cases c65 : t300 = true
            ·subst c65
             have H1 : ((spec_MsgOk.f kj58 t277 t280 0 0 ([] : List Int) ([] : List ByteArray) t297 (strOfNums ((l0.drop ((ji16) : Int).toNat).take 16))).bind fun t301 => (if t301 = true then (some (t277, t280, 0, 0, ([] : List Int), ([] : List ByteArray), t297, strOfNums ((l0.drop ((ji16) : Int).toNat).take 16), true)) else (some (0, 0, 0, 0, ([] : List Int), ([] : List ByteArray), ([] : List (S72)), (⟨#[]⟩ : ByteArray), false)))) = some (r1, r2, r3, r4, r5, r6, r7, r8, r9) := by rw [if_pos rfl] at H; exact H
             clear H
             have H := H1
             clear H1
             replace H := Option.bind_eq_some_iff.mp H
             obtain ⟨t301, A660, H⟩ := H
             try dsimp -simprocs only at H
             have A66 := Aside0.mk A660
             clear A660
             have HC67 := Aside0.mk H
             clear H
             obtain ⟨i068, hi068, _, hsz68, _⟩ := info_parts info5
             obtain ⟨hcut68, hA68, hC68⟩ := print_take_of (P := Try.prog) (Value.int .u8) 0 22 5 .i64 Try.underlying22 hi068 hsz68 A20 (c0 - (ji16).toNat) (l0.drop ((ji16) : Int).toNat) 16 (by omega) od HC282.out
             have HR295 := Aside0.mk (Kd.C_of_reads (h1 := fun _ => rfl) (hA68 _ (Kd.reads_of_C HR282.out)))
             have HC295 := Aside0.mk hC68
             clear hA68 hC68 hi068 hsz68
             have hcutn68 := hcut68
             rw [show (l0.drop ((ji16) : Int).toNat).length = (l0.length - (ji16).toNat) from List.length_drop] at hcutn68
             have hcv69 := Kd.C_string (P := Try.prog) (A := A20) (c := (c0 - (ji16).toNat)) Try.underlying22 Try.underlying5 Try.underlying9 (Kd.C_below HR295.out HB.out)
             have hcvn69 := hcv69
             (try simp only [List.length_take, List.length_drop, Int.reduceToNat] at hcvn69)
             have hnb70 := NB283_276.out
             have hnc70 := NB276_283.out
             obtain ⟨hcz71_0, hcz71_1, hcz71_2, hcz71_3, hcz71_4, hcz71_5, hcz71_6, hcz71_7, hfz71_0, hfz71_1, hfz71_2, hfz71_3, hfz71_4, hfz71_5, hfz71_6, hfz71_7⟩ := bc8 BK283.out
             go_upto_if 85 with (first | ((with_reducible refine gate_store (t := 9) (p := 63) rfl ?_); refine store_event (t := 9) (p := 63) (v := ?vo_w72) (w1 := (wc.setCell ⟨gb283, 7, none⟩ (.string (strOfNums ((l0.drop ((ji16) : Int).toNat).take 16))))) ?hg ?ho ?hn ?hr ?_; (case ho => rfl); (case hg => rfl); (case hn => rfl); (case hr => first | (go_simp; done) | (go_simp; rfl)); intro w72 hw; have n0_ : Aside0 (w72.heap[gb276]? = some (.cells #[.int .i64 0, .int .i64 0, .int .i64 0, .int .i64 0, .slice none 0 0, .slice none 0 0, .slice none 0 0, .string (⟨#[]⟩ : ByteArray)] 29 (0, 0))) := ⟨(by rw [hw]; exact (bo BK276))⟩; have n1_ : Aside0 (w72.heap[gb283]? = some (.cells #[.int .i64 t277, .int .i64 t280, .int .i64 0, .int .i64 0, .slice none 0 0, .slice none 0 0, .slice none 0 0, .string (strOfNums ((l0.drop ((ji16) : Int).toNat).take 16))] 29 (0, 0))) := ⟨(by rw [hw]; exact bk)⟩; have n2_ : Aside0 (Below w.heap.size w w72) := ⟨(by rw [hw]; exact bz)⟩; clear hw; clear BK276; clear BK283; clear HB; have BK276 := n0_; have BK283 := n1_; have HB := n2_; clear n0_ n1_ n2_; obtain ⟨i073, hi073, _, hsz73, _⟩ := info_parts info5; obtain ⟨A73, hcut73, hA73, hC73⟩ := print_drop_of (P := Try.prog) (Value.int .u8) 0 22 5 .i64 Try.underlying22 hi073 hsz73 A20 (c0 - (ji16).toNat) (l0.drop ((ji16) : Int).toNat) 16 (by omega) od HC282.out; have HR296 := Aside0.mk (Kd.C_of_reads (h1 := fun _ => rfl) (hA73 _ (Kd.reads_of_C HR282.out))); have HC296 := Aside0.mk hC73; clear hA73 hC73 hi073 hsz73; have hcutn73 := hcut73; rw [show (l0.drop ((ji16) : Int).toNat).length = (l0.length - (ji16).toNat) from List.length_drop] at hcutn73) | ((with_reducible refine gate_callee (f := 22) rfl ?_); refine goesL_ (some 67) rfl rfl Try.func22 (by kernel_rfl) rfl #[.slice A73 ((l0.drop ((ji16) : Int).toNat).drop 16).length ((c0 - (ji16).toNat) - 16)] rfl (by (try simp only [List.map_toArray, List.map_cons, List.map_nil]); first | done | (rw [show ((l0.drop ((ji16) : Int).toNat).drop 16).length = ((l0.drop ((ji16) : Int).toNat).length - 16) from List.length_drop] <;> rfl) | (simp only [hji16]; rfl) | rfl | (simp only [List.length_drop, List.length_take]; rfl)) ?_; (with_reducible refine (spec_GetTokens.calls kj58 (fun k_ => k_ < w.heap.size) _ _ ((l0.drop ((ji16) : Int).toNat).drop 16) t297 true _ ?side1 A64.out).mono ?_); (case side1 => exact Kd.V_mk HC296.out (Kd.F_below (Kd.C_F (Kd.heap_int .u8) HR296.out) bz)); rintro e w74 ⟨v298, rfl, ho0, hb⟩; refine ⟨_, rfl, ?_⟩; have n0_ := Aside0.mk (Kd.R_lower (Kd.R_mono (ok' := fun k_ => True) ho0 (fun _ hk_ => trivial)) (below_size bz)); have n1_ := Aside0.mk (blk_below (bo BK276) hb); have n2_ := Aside0.mk (blk_below (bo BK283) hb); have n3_ := Aside0.mk (below_step bz hb); clear BK276; clear BK283; clear HB; have HO299 := n0_; have BK276 := n1_; have BK283 := n2_; have HB := n3_; clear n0_ n1_ n2_ n3_; (try clear hb); (try clear hb2); (try clear hk); (try clear hi); (try clear ho0); obtain ⟨Ao75, co75, eo75⟩ := Kd.R_slice HO299.out; subst eo75; obtain ⟨hcz76_0, hcz76_1, hcz76_2, hcz76_3, hcz76_4, hcz76_5, hcz76_6, hcz76_7, hfz76_0, hfz76_1, hfz76_2, hfz76_3, hfz76_4, hfz76_5, hfz76_6, hfz76_7⟩ := bc8 BK283.out) | (go_at_call 16; (refine (spec_MsgOk.calls kj58 t277 t280 0 0 _ _ ([] : List Int) _ _ ([] : List ByteArray) _ _ t297 (strOfNums ((l0.drop ((ji16) : Int).toNat).take 16)) t301 _ ?side1 ?side2 ?side3 ?side4 ?side5 ?side6 A66.out).mono ?_); (case side1 => exact Kd.C_nil _ _); (case side2 => exact Nat.le_refl _); (case side3 => exact Kd.C_nil _ _); (case side4 => exact Nat.le_refl _); (case side5 => refine (Kd.R_reads' (e := 72) (base := w.heap.size) (ok := fun k_ => True) (n := t297.length) (c := co75) ?_).2.2; exact (by refine rs ?_; exact (Kd.R_mono (Kd.rf (Kd.R_types HO299.out BK283.out (by decide))) (fun _ h_ => h_.1)))); (case side6 => exact (Kd.R_reads' HO299.out).2.1); rintro e w77 ⟨rfl, hb⟩; have n0_ := Aside0.mk (Kd.R_below (by refine rs ?_; exact (Kd.R_mono (Kd.rf (Kd.R_types HO299.out BK283.out (by decide))) (fun _ h_ => h_.1))) hb); have n1_ := Aside0.mk (blk_below (bo BK276) hb); have n2_ := Aside0.mk (blk_below (g := gb283) (o := .cells #[.int .i64 t277, .int .i64 t280, .int .i64 0, .int .i64 0, .slice none 0 0, .slice none 0 0, .slice Ao75 t297.length co75, .string (strOfNums ((l0.drop ((ji16) : Int).toNat).take 16))] 29 (0, 0)) bk hb); have n3_ := Aside0.mk (below_step bz hb); clear HO299; clear BK276; clear BK283; clear HB; have HO299 := n0_; have BK276 := n1_; have BK283 := n2_; have HB := n3_; clear n0_ n1_ n2_ n3_; (try clear hb); (try clear hb2); (try clear hk); (try clear hi)))
             (try simp only [Act.put, List.setIfInBounds_toArray, List.set_cons_zero, List.set_cons_succ])
             have H := HC67.out
             clear HC67
             by_cases c78 : t301 = true
             ·subst c78
              have H1 : (some (t277, t280, 0, 0, ([] : List Int), ([] : List ByteArray), t297, strOfNums ((l0.drop ((ji16) : Int).toNat).take 16), true)) = some (r1, r2, r3, r4, r5, r6, r7, r8, r9) := by rw [if_pos rfl] at H; exact H
              clear H
              have H := H1
              clear H1
              simp only [Option.some.injEq, Prod.mk.injEq] at H
              obtain ⟨rfl, rfl, rfl, rfl, rfl, rfl, rfl, rfl, rfl⟩ := H
              have hnb79 := NB283_276.out
              have hnc79 := NB276_283.out
              obtain ⟨hcz80_0, hcz80_1, hcz80_2, hcz80_3, hcz80_4, hcz80_5, hcz80_6, hcz80_7, hfz80_0, hfz80_1, hfz80_2, hfz80_3, hfz80_4, hfz80_5, hfz80_6, hfz80_7⟩ := bc8 BK283.out
              obtain ⟨hcz81_0, hcz81_1, hcz81_2, hcz81_3, hcz81_4, hcz81_5, hcz81_6, hcz81_7, hfz81_0, hfz81_1, hfz81_2, hfz81_3, hfz81_4, hfz81_5, hfz81_6, hfz81_7⟩ := bc8 BK276.out
              go_wp2
              refine bodyPost_ret (results_ct rfl _ _ gb276 29 #[.int .i64 t277, .int .i64 t280, .int .i64 0, .int .i64 0, .slice none 0 0, .slice none 0 0, .slice Ao75 t297.length co75, .string (strOfNums ((l0.drop ((ji16) : Int).toNat).take 16))] (0, 0) _ rfl bk Try.underlying29 rfl (by kernel_rfl)) rfl ?_
              exact ⟨_, _, _, by first | rfl | (simp [errW_none, errW_some] <;> rfl) | (simp only [← hji16]; first | rfl | (simp [errW_none, errW_some] <;> rfl)) | (simp [*, errW_none, errW_some] <;> rfl), nz, nz, by refine rs ?_; exact Kd.R_mono (Kd.rf (Kd.rf (Kd.rf (Kd.rf (Kd.rf (Kd.rf (Kd.rf (Kd.rf (Kd.R_types HO299.out BK276.out (by decide)))))))))) (fun _ hk => trivial), bz⟩
             ·replace c78 := Bool.eq_false_iff.mpr c78
              subst c78
              have H1 : (some (0, 0, 0, 0, ([] : List Int), ([] : List ByteArray), ([] : List (S72)), (⟨#[]⟩ : ByteArray), false)) = some (r1, r2, r3, r4, r5, r6, r7, r8, r9) := by rw [if_neg (show ¬ (false = true) by decide)] at H; exact H
              clear H
              have H := H1
              clear H1
              simp only [Option.some.injEq, Prod.mk.injEq] at H
              obtain ⟨rfl, rfl, rfl, rfl, rfl, rfl, rfl, rfl, rfl⟩ := H
              have hnb82 := NB276_283.out
              have hnc82 := NB283_276.out
              obtain ⟨hcz83_0, hcz83_1, hcz83_2, hcz83_3, hcz83_4, hcz83_5, hcz83_6, hcz83_7, hfz83_0, hfz83_1, hfz83_2, hfz83_3, hfz83_4, hfz83_5, hfz83_6, hfz83_7⟩ := bc8 BK276.out
              go_wp2
              refine bodyPost_ret (results_ct rfl _ _ gb276 29 #[.int .i64 0, .int .i64 0, .int .i64 0, .int .i64 0, .slice none 0 0, .slice none 0 0, .slice none 0 0, .string (⟨#[]⟩ : ByteArray)] (0, 0) _ rfl bk Try.underlying29 rfl (by kernel_rfl)) rfl ?_
              exact ⟨_, _, _, by first | rfl | (simp [errW_none, errW_some] <;> rfl) | (simp only [← hji16]; first | rfl | (simp [errW_none, errW_some] <;> rfl)) | (simp [*, errW_none, errW_some] <;> rfl), nz, nz, nz, bz⟩
            ·replace c65 := Bool.eq_false_iff.mpr c65
             subst c65
             have H1 : (some (0, 0, 0, 0, ([] : List Int), ([] : List ByteArray), ([] : List (S72)), (⟨#[]⟩ : ByteArray), false)) = some (r1, r2, r3, r4, r5, r6, r7, r8, r9) := by rw [if_neg (show ¬ (false = true) by decide)] at H; exact H
             clear H
             have H := H1
             clear H1
             simp only [Option.some.injEq, Prod.mk.injEq] at H
             obtain ⟨rfl, rfl, rfl, rfl, rfl, rfl, rfl, rfl, rfl⟩ := H
             obtain ⟨i084, hi084, _, hsz84, _⟩ := info_parts info5
             obtain ⟨hcut84, hA84, hC84⟩ := print_take_of (P := Try.prog) (Value.int .u8) 0 22 5 .i64 Try.underlying22 hi084 hsz84 A20 (c0 - (ji16).toNat) (l0.drop ((ji16) : Int).toNat) 16 (by omega) od HC282.out
             have HR295 := Aside0.mk (Kd.C_of_reads (h1 := fun _ => rfl) (hA84 _ (Kd.reads_of_C HR282.out)))
             have HC295 := Aside0.mk hC84
             clear hA84 hC84 hi084 hsz84
             have hcutn84 := hcut84
             rw [show (l0.drop ((ji16) : Int).toNat).length = (l0.length - (ji16).toNat) from List.length_drop] at hcutn84
             have hcv85 := Kd.C_string (P := Try.prog) (A := A20) (c := (c0 - (ji16).toNat)) Try.underlying22 Try.underlying5 Try.underlying9 (Kd.C_below HR295.out HB.out)
             have hcvn85 := hcv85
             (try simp only [List.length_take, List.length_drop, Int.reduceToNat] at hcvn85)
             have hnb86 := NB283_276.out
             have hnc86 := NB276_283.out
             obtain ⟨hcz87_0, hcz87_1, hcz87_2, hcz87_3, hcz87_4, hcz87_5, hcz87_6, hcz87_7, hfz87_0, hfz87_1, hfz87_2, hfz87_3, hfz87_4, hfz87_5, hfz87_6, hfz87_7⟩ := bc8 BK283.out
             go_wp2_with (first | ((with_reducible refine gate_store (t := 9) (p := 63) rfl ?_); refine store_event (t := 9) (p := 63) (v := ?vo_w88) (w1 := (wc.setCell ⟨gb283, 7, none⟩ (.string (strOfNums ((l0.drop ((ji16) : Int).toNat).take 16))))) ?hg ?ho ?hn ?hr ?_; (case ho => rfl); (case hg => rfl); (case hn => rfl); (case hr => first | (go_simp; done) | (go_simp; rfl)); intro w88 hw; have n0_ : Aside0 (w88.heap[gb276]? = some (.cells #[.int .i64 0, .int .i64 0, .int .i64 0, .int .i64 0, .slice none 0 0, .slice none 0 0, .slice none 0 0, .string (⟨#[]⟩ : ByteArray)] 29 (0, 0))) := ⟨(by rw [hw]; exact (bo BK276))⟩; have n1_ : Aside0 (w88.heap[gb283]? = some (.cells #[.int .i64 t277, .int .i64 t280, .int .i64 0, .int .i64 0, .slice none 0 0, .slice none 0 0, .slice none 0 0, .string (strOfNums ((l0.drop ((ji16) : Int).toNat).take 16))] 29 (0, 0))) := ⟨(by rw [hw]; exact bk)⟩; have n2_ : Aside0 (Below w.heap.size w w88) := ⟨(by rw [hw]; exact bz)⟩; clear hw; clear BK276; clear BK283; clear HB; have BK276 := n0_; have BK283 := n1_; have HB := n2_; clear n0_ n1_ n2_; obtain ⟨i089, hi089, _, hsz89, _⟩ := info_parts info5; obtain ⟨A89, hcut89, hA89, hC89⟩ := print_drop_of (P := Try.prog) (Value.int .u8) 0 22 5 .i64 Try.underlying22 hi089 hsz89 A20 (c0 - (ji16).toNat) (l0.drop ((ji16) : Int).toNat) 16 (by omega) od HC282.out; have HR296 := Aside0.mk (Kd.C_of_reads (h1 := fun _ => rfl) (hA89 _ (Kd.reads_of_C HR282.out))); have HC296 := Aside0.mk hC89; clear hA89 hC89 hi089 hsz89; have hcutn89 := hcut89; rw [show (l0.drop ((ji16) : Int).toNat).length = (l0.length - (ji16).toNat) from List.length_drop] at hcutn89) | ((with_reducible refine gate_callee (f := 22) rfl ?_); refine goesL_ (some 67) rfl rfl Try.func22 (by kernel_rfl) rfl #[.slice A89 ((l0.drop ((ji16) : Int).toNat).drop 16).length ((c0 - (ji16).toNat) - 16)] rfl (by (try simp only [List.map_toArray, List.map_cons, List.map_nil]); first | done | (rw [show ((l0.drop ((ji16) : Int).toNat).drop 16).length = ((l0.drop ((ji16) : Int).toNat).length - 16) from List.length_drop] <;> rfl) | (simp only [hji16]; rfl) | rfl | (simp only [List.length_drop, List.length_take]; rfl)) ?_; (with_reducible refine (spec_GetTokens.calls kj58 (fun k_ => k_ < w.heap.size) _ _ ((l0.drop ((ji16) : Int).toNat).drop 16) t297 false _ ?side1 A64.out).mono ?_); (case side1 => exact Kd.V_mk HC296.out (Kd.F_below (Kd.C_F (Kd.heap_int .u8) HR296.out) bz)); rintro e w90 ⟨v298, rfl, ho0, hb⟩; refine ⟨_, rfl, ?_⟩; have n0_ := Aside0.mk (Kd.R_lower (Kd.R_mono (ok' := fun k_ => True) ho0 (fun _ hk_ => trivial)) (below_size bz)); have n1_ := Aside0.mk (blk_below (bo BK276) hb); have n2_ := Aside0.mk (blk_below (bo BK283) hb); have n3_ := Aside0.mk (below_step bz hb); clear BK276; clear BK283; clear HB; have HO299 := n0_; have BK276 := n1_; have BK283 := n2_; have HB := n3_; clear n0_ n1_ n2_ n3_; (try clear hb); (try clear hb2); (try clear hk); (try clear hi); (try clear ho0); obtain ⟨Ao91, co91, eo91⟩ := Kd.R_slice HO299.out; subst eo91; obtain ⟨hcz92_0, hcz92_1, hcz92_2, hcz92_3, hcz92_4, hcz92_5, hcz92_6, hcz92_7, hfz92_0, hfz92_1, hfz92_2, hfz92_3, hfz92_4, hfz92_5, hfz92_6, hfz92_7⟩ := bc8 BK283.out; obtain ⟨hcz93_0, hcz93_1, hcz93_2, hcz93_3, hcz93_4, hcz93_5, hcz93_6, hcz93_7, hfz93_0, hfz93_1, hfz93_2, hfz93_3, hfz93_4, hfz93_5, hfz93_6, hfz93_7⟩ := bc8 BK276.out))
             refine bodyPost_ret (results_ct rfl _ _ gb276 29 #[.int .i64 0, .int .i64 0, .int .i64 0, .int .i64 0, .slice none 0 0, .slice none 0 0, .slice none 0 0, .string (⟨#[]⟩ : ByteArray)] (0, 0) _ rfl bk Try.underlying29 rfl (by kernel_rfl)) rfl ?_
             exact ⟨_, _, _, by first | rfl | (simp [errW_none, errW_some] <;> rfl) | (simp only [← hji16]; first | rfl | (simp [errW_none, errW_some] <;> rfl)) | (simp [*, errW_none, errW_some] <;> rfl), nz, nz, nz, bz⟩
           ·rw [if_neg c62] at H
            exact absurd H (by simp)
          ·replace c61 := Bool.eq_false_iff.mpr c61
           subst c61
           have H1 : (if t277 = 2 then (if (((l0.drop ((ji16) : Int).toNat).length : Int) = 0) then ((spec_MsgOk.f kj58 t277 t280 0 0 ([] : List Int) ([] : List ByteArray) ([] : List (S72)) (⟨#[]⟩ : ByteArray)).bind fun t302 => (if t302 = true then (some (t277, t280, 0, 0, ([] : List Int), ([] : List ByteArray), ([] : List (S72)), (⟨#[]⟩ : ByteArray), true)) else (some (0, 0, 0, 0, ([] : List Int), ([] : List ByteArray), ([] : List (S72)), (⟨#[]⟩ : ByteArray), false)))) else (some (0, 0, 0, 0, ([] : List Int), ([] : List ByteArray), ([] : List (S72)), (⟨#[]⟩ : ByteArray), false))) else (some (0, 0, 0, 0, ([] : List Int), ([] : List ByteArray), ([] : List (S72)), (⟨#[]⟩ : ByteArray), false))) = some (r1, r2, r3, r4, r5, r6, r7, r8, r9) := by rw [if_neg (show ¬ (false = true) by decide)] at H; exact H
           clear H
           have H := H1
           clear H1
           by_cases c94 : t277 = 2
           ·rw [if_pos c94] at H
            have c94b0 : (t277 == 2) = true := beq_iff_eq.mpr c94
            have c94b1 : (t277 != 2) = false := bne_eq_false_iff_eq.mpr c94
            clear c94
            by_cases c95 : (((l0.drop ((ji16) : Int).toNat).length : Int) = 0)
            ·rw [if_pos c95] at H
             have c95b0 : (((l0.drop ((ji16) : Int).toNat).length : Int) == 0) = true := beq_iff_eq.mpr c95
             have c95b1 : (((l0.drop ((ji16) : Int).toNat).length : Int) != 0) = false := bne_eq_false_iff_eq.mpr c95
             (try (have c95b0n := c95b0; simp only [List.length_drop] at c95b0n))
             (try (have c95b1n := c95b1; simp only [List.length_drop] at c95b1n))
             clear c95
             replace H := Option.bind_eq_some_iff.mp H
             obtain ⟨t302, A960, H⟩ := H
             try dsimp -simprocs only at H
             have A96 := Aside0.mk A960
             clear A960
             have HC97 := Aside0.mk H
             clear H
             have hnb98 := NB283_276.out
             have hnc98 := NB276_283.out
             obtain ⟨hcz99_0, hcz99_1, hcz99_2, hcz99_3, hcz99_4, hcz99_5, hcz99_6, hcz99_7, hfz99_0, hfz99_1, hfz99_2, hfz99_3, hfz99_4, hfz99_5, hfz99_6, hfz99_7⟩ := bc8 BK283.out
             go_upto_if 85 with (first | (go_at_call 16; (refine (spec_MsgOk.calls kj58 t277 t280 0 0 _ _ ([] : List Int) _ _ ([] : List ByteArray) _ _ ([] : List (S72)) (⟨#[]⟩ : ByteArray) t302 _ ?side1 ?side2 ?side3 ?side4 ?side5 ?side6 A96.out).mono ?_); (case side1 => exact Kd.C_nil _ _); (case side2 => exact Nat.le_refl _); (case side3 => exact Kd.C_nil _ _); (case side4 => exact Nat.le_refl _); (case side5 => exact Kd.C_nil _ _); (case side6 => exact Nat.le_refl _); rintro e w100 ⟨rfl, hb⟩; have n0_ := Aside0.mk (blk_below (bo BK276) hb); have n1_ := Aside0.mk (blk_below (bo BK283) hb); have n2_ := Aside0.mk (below_step bz hb); clear BK276; clear BK283; clear HB; have BK276 := n0_; have BK283 := n1_; have HB := n2_; clear n0_ n1_ n2_; (try clear hb); (try clear hb2); (try clear hk); (try clear hi)))
             (try simp only [Act.put, List.setIfInBounds_toArray, List.set_cons_zero, List.set_cons_succ])
             have H := HC97.out
             clear HC97
             by_cases c101 : t302 = true
             ·subst c101
              have H1 : (some (t277, t280, 0, 0, ([] : List Int), ([] : List ByteArray), ([] : List (S72)), (⟨#[]⟩ : ByteArray), true)) = some (r1, r2, r3, r4, r5, r6, r7, r8, r9) := by rw [if_pos rfl] at H; exact H
              clear H
              have H := H1
              clear H1
              simp only [Option.some.injEq, Prod.mk.injEq] at H
              obtain ⟨rfl, rfl, rfl, rfl, rfl, rfl, rfl, rfl, rfl⟩ := H
              have hnb102 := NB283_276.out
              have hnc102 := NB276_283.out
              obtain ⟨hcz103_0, hcz103_1, hcz103_2, hcz103_3, hcz103_4, hcz103_5, hcz103_6, hcz103_7, hfz103_0, hfz103_1, hfz103_2, hfz103_3, hfz103_4, hfz103_5, hfz103_6, hfz103_7⟩ := bc8 BK283.out
              obtain ⟨hcz104_0, hcz104_1, hcz104_2, hcz104_3, hcz104_4, hcz104_5, hcz104_6, hcz104_7, hfz104_0, hfz104_1, hfz104_2, hfz104_3, hfz104_4, hfz104_5, hfz104_6, hfz104_7⟩ := bc8 BK276.out
              go_wp2
              refine bodyPost_ret (results_ct rfl _ _ gb276 29 #[.int .i64 t277, .int .i64 t280, .int .i64 0, .int .i64 0, .slice none 0 0, .slice none 0 0, .slice none 0 0, .string (⟨#[]⟩ : ByteArray)] (0, 0) _ rfl bk Try.underlying29 rfl (by kernel_rfl)) rfl ?_
              exact ⟨_, _, _, by first | rfl | (simp [errW_none, errW_some] <;> rfl) | (simp only [← hji16]; first | rfl | (simp [errW_none, errW_some] <;> rfl)) | (simp [*, errW_none, errW_some] <;> rfl), nz, nz, nz, bz⟩
             ·replace c101 := Bool.eq_false_iff.mpr c101
              subst c101
              have H1 : (some (0, 0, 0, 0, ([] : List Int), ([] : List ByteArray), ([] : List (S72)), (⟨#[]⟩ : ByteArray), false)) = some (r1, r2, r3, r4, r5, r6, r7, r8, r9) := by rw [if_neg (show ¬ (false = true) by decide)] at H; exact H
              clear H
              have H := H1
              clear H1
              simp only [Option.some.injEq, Prod.mk.injEq] at H
              obtain ⟨rfl, rfl, rfl, rfl, rfl, rfl, rfl, rfl, rfl⟩ := H
              have hnb105 := NB276_283.out
              have hnc105 := NB283_276.out
              obtain ⟨hcz106_0, hcz106_1, hcz106_2, hcz106_3, hcz106_4, hcz106_5, hcz106_6, hcz106_7, hfz106_0, hfz106_1, hfz106_2, hfz106_3, hfz106_4, hfz106_5, hfz106_6, hfz106_7⟩ := bc8 BK276.out
              go_wp2
              refine bodyPost_ret (results_ct rfl _ _ gb276 29 #[.int .i64 0, .int .i64 0, .int .i64 0, .int .i64 0, .slice none 0 0, .slice none 0 0, .slice none 0 0, .string (⟨#[]⟩ : ByteArray)] (0, 0) _ rfl bk Try.underlying29 rfl (by kernel_rfl)) rfl ?_
              exact ⟨_, _, _, by first | rfl | (simp [errW_none, errW_some] <;> rfl) | (simp only [← hji16]; first | rfl | (simp [errW_none, errW_some] <;> rfl)) | (simp [*, errW_none, errW_some] <;> rfl), nz, nz, nz, bz⟩
            ·rw [if_neg c95] at H
             have c95b0 : (((l0.drop ((ji16) : Int).toNat).length : Int) == 0) = false := beq_eq_false_iff_ne.mpr c95
             have c95b1 : (((l0.drop ((ji16) : Int).toNat).length : Int) != 0) = true := bne_iff_ne.mpr c95
             have c95b2 : ¬ ((l0.drop ((ji16) : Int).toNat) = []) := fun h_ => c95 (by rw [h_]; rfl)
             (try (have c95b0n := c95b0; simp only [List.length_drop] at c95b0n))
             (try (have c95b1n := c95b1; simp only [List.length_drop] at c95b1n))
             (try (have c95b2n := c95b2; simp only [List.length_drop] at c95b2n))
             simp only [Option.some.injEq, Prod.mk.injEq] at H
             obtain ⟨rfl, rfl, rfl, rfl, rfl, rfl, rfl, rfl, rfl⟩ := H
             have hnb107 := NB276_283.out
             have hnc107 := NB283_276.out
             obtain ⟨hcz108_0, hcz108_1, hcz108_2, hcz108_3, hcz108_4, hcz108_5, hcz108_6, hcz108_7, hfz108_0, hfz108_1, hfz108_2, hfz108_3, hfz108_4, hfz108_5, hfz108_6, hfz108_7⟩ := bc8 BK276.out
             go_wp2
             refine bodyPost_ret (results_ct rfl _ _ gb276 29 #[.int .i64 0, .int .i64 0, .int .i64 0, .int .i64 0, .slice none 0 0, .slice none 0 0, .slice none 0 0, .string (⟨#[]⟩ : ByteArray)] (0, 0) _ rfl bk Try.underlying29 rfl (by kernel_rfl)) rfl ?_
             exact ⟨_, _, _, by first | rfl | (simp [errW_none, errW_some] <;> rfl) | (simp only [← hji16]; first | rfl | (simp [errW_none, errW_some] <;> rfl)) | (simp [*, errW_none, errW_some] <;> rfl), nz, nz, nz, bz⟩
           ·rw [if_neg c94] at H
            have c94b0 : (t277 == 2) = false := beq_eq_false_iff_ne.mpr c94
            have c94b1 : (t277 != 2) = true := bne_iff_ne.mpr c94
            simp only [Option.some.injEq, Prod.mk.injEq] at H
            obtain ⟨rfl, rfl, rfl, rfl, rfl, rfl, rfl, rfl, rfl⟩ := H
            have hnb109 := NB276_283.out
            have hnc109 := NB283_276.out
            obtain ⟨hcz110_0, hcz110_1, hcz110_2, hcz110_3, hcz110_4, hcz110_5, hcz110_6, hcz110_7, hfz110_0, hfz110_1, hfz110_2, hfz110_3, hfz110_4, hfz110_5, hfz110_6, hfz110_7⟩ := bc8 BK276.out
            go_wp2
            refine bodyPost_ret (results_ct rfl _ _ gb276 29 #[.int .i64 0, .int .i64 0, .int .i64 0, .int .i64 0, .slice none 0 0, .slice none 0 0, .slice none 0 0, .string (⟨#[]⟩ : ByteArray)] (0, 0) _ rfl bk Try.underlying29 rfl (by kernel_rfl)) rfl ?_
            exact ⟨_, _, _, by first | rfl | (simp [errW_none, errW_some] <;> rfl) | (simp only [← hji16]; first | rfl | (simp [errW_none, errW_some] <;> rfl)) | (simp [*, errW_none, errW_some] <;> rfl), nz, nz, nz, bz⟩
      ·rw [if_neg c18] at H
       exact absurd H (by simp)
     ·rw [if_neg c17] at H
      exact absurd H (by simp)
   ·rw [if_neg c9] at H
    exact absurd H (by simp)
  ·rw [if_neg c8] at H
   exact absurd H (by simp)

end Go.Proofs.Ytjiaigjmihmdjaa.PFnExactGetMsg
