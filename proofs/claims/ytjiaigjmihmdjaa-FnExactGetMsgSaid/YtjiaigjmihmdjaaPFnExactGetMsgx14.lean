
/- The machine's side, written by a program of this session (a turned print): each function as a plain Lean function, and that the call comes to it. -/
import Derived.Test.YtjiaigjmihmdjaaPFnExactGetMsgx0
import Derived.Test.YtjiaigjmihmdjaaPFnExactGetMsgx9
import Derived.Test.YtjiaigjmihmdjaaPFnExactGetMsgx10
import Derived.Test.YtjiaigjmihmdjaaPFnExactGetMsgx11
import Derived.Test.YtjiaigjmihmdjaaPFnExactGetMsgx12
import Derived.Test.YtjiaigjmihmdjaaPFnExactGetMsgx13
namespace Go.Proofs.Ytjiaigjmihmdjaa.PFnExactGetMsg
open Go.RowKit Go.Proofs.YtjiaigjmihmdjaaW.PrintWords Go.Proofs.YtjiaigjmihmdjaaW.PrintLast Go.Proofs.YtjiaigjmihmdjaaW.PrintMore
attribute [local go_sem] max2_int min2_int max_two min_two max_three min_three max_four min_four   -- for this text's walks alone
set_option linter.unusedVariables false
set_option linter.unusedSimpArgs false

/-! ### impl_GetMsg: function 7 -/
mutual
def impl_GetMsg.j0 : Nat → List Int → Bool → ByteArray → Bool → Int → Int → Int → Int → List Int → List ByteArray → List (S72) → ByteArray → Option (Int × Int × Int × Int × List Int × List ByteArray × (List (S72)) × ByteArray × Bool)
 | 0, _, _, _, _, _, _, _, _, _, _, _, _ => none
 | k + 1, x0, x6, x407000, x407001, x414000, x414001, x414002, x414003, x414004, x414005, x414006, x414007 => if x407001 = true then (impl_GetMsg.j1 k true x414000 x414001 x414002 x414003 x414004 x414005 x414006 x414007) else (if x6 = true then ((impl_MsgOk.f k x414000 x414001 x414002 x414003 x414004 x414005 x414006 x414007).bind fun t430 => (if t430 = true then ((impl_msgText.f k x414000 x414001 x414002 x414003 x414004 x414005 x414006 x414007).bind fun t431 => (impl_GetMsg.j1 k (t431.toList != (strOfNums x0).toList) x414000 x414001 x414002 x414003 x414004 x414005 x414006 x414007)) else (impl_GetMsg.j1 k true x414000 x414001 x414002 x414003 x414004 x414005 x414006 x414007))) else (impl_GetMsg.j1 k true x414000 x414001 x414002 x414003 x414004 x414005 x414006 x414007))
def impl_GetMsg.j1 : Nat → Bool → Int → Int → Int → Int → List Int → List ByteArray → List (S72) → ByteArray → Option (Int × Int × Int × Int × List Int × List ByteArray × (List (S72)) × ByteArray × Bool)
 | 0, _, _, _, _, _, _, _, _, _ => none
 | k + 1, x62, x414000, x414001, x414002, x414003, x414004, x414005, x414006, x414007 => if x62 = true then (some (0, 0, 0, 0, ([] : List Int), ([] : List ByteArray), ([] : List (S72)), (⟨#[]⟩ : ByteArray), false)) else (some (x414000, x414001, x414002, x414003, x414004, x414005, x414006, x414007, true))
end
def impl_GetMsg.f (k : Nat) (l0 : List Int) : Option (Int × Int × Int × Int × List Int × List ByteArray × (List (S72)) × ByteArray × Bool) := (impl_reader_number.f k (strOfNums l0) false).bind fun bt407 => ((impl_reader_number.f k bt407.2.1 bt407.2.2).bind fun bt410 => (if bt407.1 = 0 then ((impl_readSig.f k bt410.2.1).bind fun bt414 => (impl_GetMsg.j0 k l0 bt414.2.2.2.2 bt410.2.1 bt410.2.2 bt407.1 bt410.1 bt414.1 bt414.2.1 bt414.2.2.1 bt414.2.2.2.1 ([] : List (S72)) (⟨#[]⟩ : ByteArray))) else (if bt407.1 = 1 then ((impl_reader_take.f bt410.2.1 bt410.2.2 16).bind fun bt423 => ((impl_readTokens.f k bt423.2.1).bind fun bt426 => (impl_GetMsg.j0 k l0 bt426.2 bt423.2.1 bt423.2.2 bt407.1 bt410.1 0 0 ([] : List Int) ([] : List ByteArray) bt426.1 bt423.1))) else (impl_GetMsg.j0 k l0 true bt410.2.1 bt410.2.2 bt407.1 bt410.1 0 0 ([] : List Int) ([] : List ByteArray) ([] : List (S72)) (⟨#[]⟩ : ByteArray)))))
theorem impl_GetMsg.mono_l : ∀ k, (∀ y0 y1 y2 y3 y4 y5 y6 y7 y8 y9 y10 y11, LeO (impl_GetMsg.j0 k y0 y1 y2 y3 y4 y5 y6 y7 y8 y9 y10 y11) (impl_GetMsg.j0 (k + 1) y0 y1 y2 y3 y4 y5 y6 y7 y8 y9 y10 y11)) ∧ (∀ y0 y1 y2 y3 y4 y5 y6 y7 y8, LeO (impl_GetMsg.j1 k y0 y1 y2 y3 y4 y5 y6 y7 y8) (impl_GetMsg.j1 (k + 1) y0 y1 y2 y3 y4 y5 y6 y7 y8))
 | 0 => ⟨fun _ _ _ _ _ _ _ _ _ _ _ _ r h => by simp [impl_GetMsg.j0] at h, fun _ _ _ _ _ _ _ _ _ r h => by simp [impl_GetMsg.j1] at h⟩
 | k + 1 => by
  obtain ⟨ih0, ih1⟩ := impl_GetMsg.mono_l k
  refine ⟨?_, ?_⟩
  ·intro y0 y1 y2 y3 y4 y5 y6 y7 y8 y9 y10 y11
   unfold impl_GetMsg.j0
   repeat' first | (with_reducible first | exact ih0 _ _ _ _ _ _ _ _ _ _ _ _ | exact ih1 _ _ _ _ _ _ _ _ _ | exact impl_MsgOk.mono _ _ _ _ _ _ _ _ _ | exact impl_msgText.mono _ _ _ _ _ _ _ _ _ | exact impl_readSig.mono _ _ | exact impl_readTokens.mono _ _ | exact impl_reader_number.mono _ _ _ | exact LeO.refl _ | exact LeO.none _ | refine LeO.ite ?_ ?_ | refine LeO.bind ?_ (fun _ => ?_)) | exact ih0 _ _ _ _ _ _ _ _ _ _ _ _ | exact ih1 _ _ _ _ _ _ _ _ _ | exact impl_MsgOk.mono _ _ _ _ _ _ _ _ _ | exact impl_msgText.mono _ _ _ _ _ _ _ _ _ | exact impl_readSig.mono _ _ | exact impl_readTokens.mono _ _ | exact impl_reader_number.mono _ _ _ | exact LeO.none _ | refine LeO.ite ?_ ?_ | refine LeO.bind ?_ (fun _ => ?_)
  ·intro y0 y1 y2 y3 y4 y5 y6 y7 y8
   unfold impl_GetMsg.j1
   repeat' first | (with_reducible first | exact ih0 _ _ _ _ _ _ _ _ _ _ _ _ | exact ih1 _ _ _ _ _ _ _ _ _ | exact impl_MsgOk.mono _ _ _ _ _ _ _ _ _ | exact impl_msgText.mono _ _ _ _ _ _ _ _ _ | exact impl_readSig.mono _ _ | exact impl_readTokens.mono _ _ | exact impl_reader_number.mono _ _ _ | exact LeO.refl _ | exact LeO.none _ | refine LeO.ite ?_ ?_ | refine LeO.bind ?_ (fun _ => ?_)) | exact ih0 _ _ _ _ _ _ _ _ _ _ _ _ | exact ih1 _ _ _ _ _ _ _ _ _ | exact impl_MsgOk.mono _ _ _ _ _ _ _ _ _ | exact impl_msgText.mono _ _ _ _ _ _ _ _ _ | exact impl_readSig.mono _ _ | exact impl_readTokens.mono _ _ | exact impl_reader_number.mono _ _ _ | exact LeO.none _ | refine LeO.ite ?_ ?_ | refine LeO.bind ?_ (fun _ => ?_)
theorem impl_GetMsg.mono : ∀ a0 k, LeO (impl_GetMsg.f k a0) (impl_GetMsg.f (k + 1) a0) := by
 intro a0 k
 obtain ⟨ih0, ih1⟩ := impl_GetMsg.mono_l k
 unfold impl_GetMsg.f
 repeat' first | (with_reducible first | exact ih0 _ _ _ _ _ _ _ _ _ _ _ _ | exact ih1 _ _ _ _ _ _ _ _ _ | exact impl_MsgOk.mono _ _ _ _ _ _ _ _ _ | exact impl_msgText.mono _ _ _ _ _ _ _ _ _ | exact impl_readSig.mono _ _ | exact impl_readTokens.mono _ _ | exact impl_reader_number.mono _ _ _ | exact LeO.refl _ | exact LeO.none _ | refine LeO.ite ?_ ?_ | refine LeO.bind ?_ (fun _ => ?_)) | exact ih0 _ _ _ _ _ _ _ _ _ _ _ _ | exact ih1 _ _ _ _ _ _ _ _ _ | exact impl_MsgOk.mono _ _ _ _ _ _ _ _ _ | exact impl_msgText.mono _ _ _ _ _ _ _ _ _ | exact impl_readSig.mono _ _ | exact impl_readTokens.mono _ _ | exact impl_reader_number.mono _ _ _ | exact LeO.none _ | refine LeO.ite ?_ ?_ | refine LeO.bind ?_ (fun _ => ?_)
def impl_GetMsg.T10 : Bool × List (List Nat × List Nat) := (true, [([], []), ([0], [0]), ([1], [1]), ([2], [2]), ([3], [3]), ([4], [4]), ([5, 4], [4, 5]), ([4, 6], [4, 6]), ([7, 4], [7]), ([8], [8]), ([9, 8, 8], [8, 9]), ([10, 8], [8, 10]), ([8, 11], [8, 11]), ([12, 10], [12]), ([13], [13]), ([14, 13, 13], [13, 14]), ([13], [13]), ([16, 13], [13, 16]), ([15, 17, 13], [13, 15, 17]), ([13, 18], [13, 18])])
def impl_GetMsg.B10 : List Nat := [0, 1, 3, 7, 15, 31, 63, 127, 255, 511, 1023, 2047, 4095, 8191, 16383, 32767, 16383, 81919, 262143, 524287]
theorem impl_GetMsg.tab10 : rtab .any (opsOf Try.f7 10) = impl_GetMsg.T10 := by kernel_rfl
theorem impl_GetMsg.bits10 : waitsOk impl_GetMsg.T10.2 impl_GetMsg.B10 = true := by kernel_rfl
set_option maxHeartbeats 8000000 in
set_option maxRecDepth 100000 in
theorem impl_GetMsg.calls (k : Nat) (A0 : Option Addr) (c0 : Nat) (l0 : List Int) (r1 : Int) (r2 : Int) (r3 : Int) (r4 : Int) (r5 : List Int) (r6 : List ByteArray) (r7 : List (S72)) (r8 : ByteArray) (r9 : Bool) (w : World) (hr0 : Kd.C (Kd.int .u8) w A0 l0.length l0) (hc0 : l0.length ≤ c0) (h : impl_GetMsg.f k l0 = some (r1, r2, r3, r4, r5, r6, r7, r8, r9)) :
  Calls Try.prog 7 #[.slice A0 l0.length c0] w fun e w' => ∃ v4_ v5_ v6_ : Value, e = .returned (.tuple #[.agg #[.int .i64 r1, .int .i64 r2, .int .i64 r3, .int .i64 r4, v4_, v5_, v6_, .string r8], .bool r9]) ∧ Kd.R (Kd.int .u32) 60 w' w.heap.size (fun _ => True) v4_ r5 ∧ Kd.R Kd.string 9 w' w.heap.size (fun _ => True) v5_ r6 ∧ Kd.R k72 72 w' w.heap.size (fun _ => True) v6_ r7 ∧ Below w.heap.size w w' := by
 have hu29 := Try.underlying29
 have hu51 := Try.underlying51
 have hu26 := Try.underlying26
 have HR0 := Aside0.mk hr0
 have HC0 := Aside0.mk hc0
 clear hr0 hc0
 have HB := Aside0.mk (Below.refl w.heap.size w)
 have H : ((impl_reader_number.f k (strOfNums l0) false).bind fun bt407 => ((impl_reader_number.f k bt407.2.1 bt407.2.2).bind fun bt410 => (if bt407.1 = 0 then ((impl_readSig.f k bt410.2.1).bind fun bt414 => (impl_GetMsg.j0 k l0 bt414.2.2.2.2 bt410.2.1 bt410.2.2 bt407.1 bt410.1 bt414.1 bt414.2.1 bt414.2.2.1 bt414.2.2.2.1 ([] : List (S72)) (⟨#[]⟩ : ByteArray))) else (if bt407.1 = 1 then ((impl_reader_take.f bt410.2.1 bt410.2.2 16).bind fun bt423 => ((impl_readTokens.f k bt423.2.1).bind fun bt426 => (impl_GetMsg.j0 k l0 bt426.2 bt423.2.1 bt423.2.2 bt407.1 bt410.1 0 0 ([] : List Int) ([] : List ByteArray) bt426.1 bt423.1))) else (impl_GetMsg.j0 k l0 true bt410.2.1 bt410.2.2 bt407.1 bt410.1 0 0 ([] : List Int) ([] : List ByteArray) ([] : List (S72)) (⟨#[]⟩ : ByteArray)))))) = some (r1, r2, r3, r4, r5, r6, r7, r8, r9) := h
 clear h
 replace H := Option.bind_eq_some_iff.mp H
 obtain ⟨⟨t407, t408, t409⟩, A20, H⟩ := H
 try dsimp -simprocs only at H
 have A2 := Aside0.mk A20
 clear A20
 replace H := Option.bind_eq_some_iff.mp H
 obtain ⟨⟨t410, t411, t412⟩, A30, H⟩ := H
 try dsimp -simprocs only at H
 have A3 := Aside0.mk A30
 clear A30
 have HC4 := Aside0.mk H
 clear H
 go_enter Try.func7, Try.ntmps7
 go_upto_block 0 with (first | ((with_reducible refine gate_dst (N := 2) rfl ?_); refine box_event ?hg (N := 2) ?hd (cs := #[.int .i64 0, .int .i64 0, .int .i64 0, .int .i64 0, .slice none 0 0, .slice none 0 0, .slice none 0 0, .string (⟨#[]⟩ : ByteArray)]) (t := 29) ?hr ?_; (case hd => rfl); (case hg => rfl); (case hr => first | (go_simp; done) | (go_simp; rfl)); intro gb405 hg w5 hbox hb; have n0_ := Aside0.mk (below_step bz hb); have n1_ := Aside0.mk (hbox); have n2_ := Aside0.mk (bg : w.heap.size ≤ gb405); have n3_ := Aside0.mk (bg : w.heap.size ≤ gb405); clear HB; have HB := n0_; have BK405 := n1_; have GW405 := n2_; have GE405 := n3_; clear n0_ n1_ n2_ n3_; clear hb hbox hg; have hcv6 := Kd.C_string (P := Try.prog) (A := A0) (c := c0) Try.underlying22 Try.underlying5 Try.underlying9 (Kd.C_below HR0.out HB.out)) | ((with_reducible refine gate_dst (N := 10) rfl ?_); refine box_event ?hg (N := 10) ?hd (cs := #[.string (strOfNums l0), .bool false]) (t := 51) ?hr ?_; (case hd => rfl); (case hg => rfl); (case hr => first | (go_simp; done) | (go_simp; rfl)); intro g406 hg w7 hbox hb; have n0_ := Aside0.mk (blk_below (bo BK405) hb); have n1_ := Aside0.mk ((by rw [hg]; exact Nat.ne_of_lt (blk_lt (bo BK405)) : gb405 ≠ g406)); have n2_ := Aside0.mk ((by rw [hg]; exact Nat.ne_of_gt (blk_lt (bo BK405)) : g406 ≠ gb405)); have n3_ := Aside0.mk (below_step bz hb); have n4_ := Aside0.mk ((show IsS51 w w7 g406 (strOfNums l0) false from ⟨hbox, (by rw [hg]; exact (below_size bz))⟩)); clear BK405; clear HB; have BK405 := n0_; have NB405_406 := n1_; have NB406_405 := n2_; have HB := n3_; have HI406 := n4_; clear n0_ n1_ n2_ n3_ n4_; clear hb hbox hg) | ((with_reducible refine gate_callee (f := 23) rfl ?_); refine goesL_ (some 12) rfl rfl Try.func23 (by kernel_rfl) rfl #[.pointer (some ⟨g406, 0, none⟩)] rfl mt ?_; (with_reducible refine (impl_reader_number.calls k g406 (strOfNums l0) false t407 t408 t409 w _ ?side1 ?side2 A2.out).mono ?_); (case side1 => repeat (first | (with_reducible first | exact HI406.out | apply IsS51.alloc | apply IsS51.drewN | apply IsS51.drew | apply IsS51.set_0 | apply IsS51.set_1 | refine IsS51.far ?_ NB406_405.out _) | exact HI406.out)); (case side2 => repeat (first | (with_reducible first | exact HB.out | apply below_alloc | apply pw_below_drewN | apply below_drew1 | refine below_set ?_ (IsS51.ge HI406.out) | refine below_set ?_ GE405.out) | exact HB.out)); rintro e w8 ⟨rfl, hi, hb, hk⟩; refine ⟨_, rfl, ?_⟩; have n0_ := Aside0.mk (KeepBut.blk hk (g' := gb405) (o := .cells #[.int .i64 0, .int .i64 0, .int .i64 0, .int .i64 0, .slice none 0 0, .slice none 0 0, .slice none 0 0, .string (⟨#[]⟩ : ByteArray)] 29 (0, 0)) (bo BK405) NB405_406.out (by simp)); have n1_ := Aside0.mk (hb); have n2_ := Aside0.mk (hi); clear BK405; clear HB; clear HI406; have BK405 := n0_; have HB := n1_; have HI406 := n2_; clear n0_ n1_ n2_; (try clear hb); (try clear hb2); (try clear hk); (try clear hi)) | ((with_reducible refine gate_callee (f := 23) rfl ?_); refine goesL_ (some 14) rfl rfl Try.func23 (by kernel_rfl) rfl #[.pointer (some ⟨g406, 0, none⟩)] rfl mt ?_; (with_reducible refine (impl_reader_number.calls k g406 t408 t409 t410 t411 t412 w _ ?side1 ?side2 A3.out).mono ?_); (case side1 => repeat (first | (with_reducible first | exact HI406.out | apply IsS51.alloc | apply IsS51.drewN | apply IsS51.drew | apply IsS51.set_0 | apply IsS51.set_1 | refine IsS51.far ?_ NB406_405.out _) | exact HI406.out)); (case side2 => repeat (first | (with_reducible first | exact HB.out | apply below_alloc | apply pw_below_drewN | apply below_drew1 | refine below_set ?_ (IsS51.ge HI406.out) | refine below_set ?_ GE405.out) | exact HB.out)); rintro e w9 ⟨rfl, hi, hb, hk⟩; refine ⟨_, rfl, ?_⟩; have n0_ := Aside0.mk (KeepBut.blk hk (g' := gb405) (o := .cells #[.int .i64 0, .int .i64 0, .int .i64 0, .int .i64 0, .slice none 0 0, .slice none 0 0, .slice none 0 0, .string (⟨#[]⟩ : ByteArray)] 29 (0, 0)) (bo BK405) NB405_406.out (by simp)); have n1_ := Aside0.mk (hb); have n2_ := Aside0.mk (hi); clear BK405; clear HB; clear HI406; have BK405 := n0_; have HB := n1_; have HI406 := n2_; clear n0_ n1_ n2_; (try clear hb); (try clear hb2); (try clear hk); (try clear hi)) | ((with_reducible refine gate_dst (N := 5) rfl ?_); refine box_event ?hg (N := 5) ?hd (cs := #[.int .i64 0, .int .i64 0, .int .i64 0, .int .i64 0, .slice none 0 0, .slice none 0 0, .slice none 0 0, .string (⟨#[]⟩ : ByteArray)]) (t := 29) ?hr ?_; (case hd => rfl); (case hg => rfl); (case hr => first | (go_simp; done) | (go_simp; rfl)); intro gb413 hg w10 hbox hb; have n0_ := Aside0.mk (blk_below (bo BK405) hb); have n1_ := Aside0.mk (IsS51.below (iz HI406) hb); have n2_ := Aside0.mk (below_step bz hb); have n3_ := Aside0.mk (hbox); have n4_ := Aside0.mk (bg : w.heap.size ≤ gb413); have n5_ := Aside0.mk (bg : w.heap.size ≤ gb413); have n6_ := Aside0.mk ((by rw [hg]; exact Nat.ne_of_lt (blk_lt (bo BK405)) : gb405 ≠ gb413)); have n7_ := Aside0.mk ((by rw [hg]; exact Nat.ne_of_gt (blk_lt (bo BK405)) : gb413 ≠ gb405)); have n8_ := Aside0.mk ((by rw [hg]; exact Nat.ne_of_lt (IsS51.lt (show IsS51 w _ g406 t411 t412 from iz HI406)) : g406 ≠ gb413)); have n9_ := Aside0.mk ((by rw [hg]; exact Nat.ne_of_gt (IsS51.lt (show IsS51 w _ g406 t411 t412 from iz HI406)) : gb413 ≠ g406)); clear BK405; clear HI406; clear HB; have BK405 := n0_; have HI406 := n1_; have HB := n2_; have BK413 := n3_; have GW413 := n4_; have GE413 := n5_; have NB405_413 := n6_; have NB413_405 := n7_; have NB406_413 := n8_; have NB413_406 := n9_; clear n0_ n1_ n2_ n3_ n4_ n5_ n6_ n7_ n8_ n9_; clear hb hbox hg; have hnb11 := NB413_405.out; have hnc11 := NB405_413.out; have hnb12 := NB413_406.out; have hnc12 := NB406_413.out; obtain ⟨hcz13_0, hcz13_1, hcz13_2, hcz13_3, hcz13_4, hcz13_5, hcz13_6, hcz13_7, hfz13_0, hfz13_1, hfz13_2, hfz13_3, hfz13_4, hfz13_5, hfz13_6, hfz13_7⟩ := bc8 BK413.out))
 (try simp only [Act.put, List.setIfInBounds_toArray, List.set_cons_zero, List.set_cons_succ])
 go_cut [6] (fun v6 wc => ∃ (kq : Nat) (x6_3 : Bool) (x407000_3 : ByteArray) (x407001_3 : Bool) (x414002_3 : Int) (x414003_3 : Int) (x414004_3 : List Int) (x414005_3 : List ByteArray) (x414006_3 : List (S72)) (x414007_3 : ByteArray) (u414004 : Value) (u414005 : Value) (u414006 : Value), v6 = .bool x6_3 ∧ Aside0 (impl_GetMsg.j0 kq l0 x6_3 x407000_3 x407001_3 t407 t410 x414002_3 x414003_3 x414004_3 x414005_3 x414006_3 x414007_3 = some (r1, r2, r3, r4, r5, r6, r7, r8, r9)) ∧ Aside0 (kq ≤ k) ∧ Aside0 (Kd.R (Kd.int .u32) 60 wc w.heap.size (fun _ => True) u414004 x414004_3) ∧ Aside0 (Kd.R Kd.string 9 wc w.heap.size (fun _ => True) u414005 x414005_3) ∧ Aside0 (Kd.R k72 72 wc w.heap.size (fun _ => True) u414006 x414006_3) ∧ Aside0 (wc.heap[gb405]? = some (.cells #[.int .i64 0, .int .i64 0, .int .i64 0, .int .i64 0, (.slice none 0 0), (.slice none 0 0), (.slice none 0 0), .string (⟨#[]⟩ : ByteArray)] 29 (0, 0))) ∧ Aside0 (wc.heap[gb413]? = some (.cells #[.int .i64 t407, .int .i64 t410, .int .i64 x414002_3, .int .i64 x414003_3, u414004, u414005, u414006, .string x414007_3] 29 (0, 0))) ∧ Aside0 (IsS51 w wc g406 x407000_3 x407001_3) ∧ Aside0 (Below w.heap.size w wc))
 case first =>
  have H := HC4.out
  clear HC4
  by_cases c14 : t407 = 0
  ·rw [if_pos c14] at H
   have c14b0 : (t407 == 0) = true := beq_iff_eq.mpr c14
   have c14b1 : (t407 != 0) = false := bne_eq_false_iff_eq.mpr c14
   clear c14
   (first | rw [c14b0] | (simp only [i64_w, i32_w]; rw [c14b0]) | skip)
   replace H := Option.bind_eq_some_iff.mp H
   obtain ⟨⟨t414, t415, t416, t419, t422⟩, A150, H⟩ := H
   try dsimp -simprocs only at H
   have A15 := Aside0.mk A150
   clear A150
   have H' := Aside0.mk H
   clear H
   obtain ⟨HGz16, hgz16⟩ := HI406.out
   have hcz16_0 := cellS51_0 HGz16
   have hcz16_1 := cellS51_1 HGz16
   have hfz16_0 := blk_frozen HGz16 0
   have hfz16_1 := blk_frozen HGz16 1
   clear HGz16 hgz16
   go_wp2_with (first | ((with_reducible refine gate_callee (f := 24) rfl ?_); refine goesL_ (some 25) rfl rfl Try.func24 (by kernel_rfl) rfl #[.string t411] rfl mt ?_; (with_reducible refine (impl_readSig.calls k t411 t414 t415 t416 t419 t422 _ A15.out).mono ?_); rintro e w17 ⟨v417, v420, rfl, ho0, ho1, hb⟩; refine ⟨_, rfl, ?_⟩; have n0_ := Aside0.mk (Kd.R_lower ho0 (below_size bz)); have n1_ := Aside0.mk (Kd.R_lower ho1 (below_size bz)); have n2_ := Aside0.mk (blk_below (bo BK405) hb); have n3_ := Aside0.mk (IsS51.below (show IsS51 w ((((((((w10.setCell ⟨gb413, 0, none⟩ (.int .i64 t407)).setCell ⟨gb413, 1, none⟩ (.int .i64 t410)).setCell ⟨gb413, 2, none⟩ (.int .i64 0)).setCell ⟨gb413, 3, none⟩ (.int .i64 0)).setCell ⟨gb413, 4, none⟩ (.slice none 0 0)).setCell ⟨gb413, 5, none⟩ (.slice none 0 0)).setCell ⟨gb413, 6, none⟩ (.slice none 0 0)).setCell ⟨gb413, 7, none⟩ (.string (⟨#[]⟩ : ByteArray))) g406 t411 t412 from iz HI406) hb); have n4_ := Aside0.mk (blk_below (g := gb413) (o := .cells #[.int .i64 t407, .int .i64 t410, .int .i64 0, .int .i64 0, .slice none 0 0, .slice none 0 0, .slice none 0 0, .string (⟨#[]⟩ : ByteArray)] 29 (0, 0)) bk hb); have n5_ := Aside0.mk (below_step bz hb); clear BK405; clear HI406; clear BK413; clear HB; have HO418 := n0_; have HO421 := n1_; have BK405 := n2_; have HI406 := n3_; have BK413 := n4_; have HB := n5_; clear n0_ n1_ n2_ n3_ n4_ n5_; (try clear hb); (try clear hb2); (try clear hk); (try clear hi); (try clear ho0); (try clear ho1); have hnb18 := NB413_405.out; have hnc18 := NB405_413.out; have hnb19 := NB413_406.out; have hnc19 := NB406_413.out; obtain ⟨hcz20_0, hcz20_1, hcz20_2, hcz20_3, hcz20_4, hcz20_5, hcz20_6, hcz20_7, hfz20_0, hfz20_1, hfz20_2, hfz20_3, hfz20_4, hfz20_5, hfz20_6, hfz20_7⟩ := bc8 BK413.out; obtain ⟨Ao21, co21, eo21⟩ := Kd.R_slice HO418.out; subst eo21; obtain ⟨Ao22, co22, eo22⟩ := Kd.R_slice HO421.out; subst eo22))
   go_meet
   case rel => exact ⟨_, (t422), (t411), (t412), (t414), (t415), (t416), (t419), (([] : List (S72))), ((⟨#[]⟩ : ByteArray)), (.slice Ao21 t416.length co21), (.slice Ao22 t419.length co22), (.slice none 0 0), sd, H', ⟨ob⟩, ⟨by refine rs ?_; exact Kd.R_mono (Kd.rf (Kd.rf (Kd.rf (Kd.rf (Kd.R_types HO418.out BK413.out (by decide)))))) (fun _ hk => trivial)⟩, ⟨by refine rs ?_; exact Kd.R_mono (Kd.rf (Kd.rf (Kd.rf (Kd.rf (Kd.R_types HO421.out BK413.out (by decide)))))) (fun _ hk => trivial)⟩, ⟨nz⟩, ⟨(bo BK405)⟩, ⟨bk⟩, ⟨iz HI406⟩, ⟨bz⟩⟩
  ·rw [if_neg c14] at H
   have c14b0 : (t407 == 0) = false := beq_eq_false_iff_ne.mpr c14
   have c14b1 : (t407 != 0) = true := bne_iff_ne.mpr c14
   (first | rw [c14b0] | (simp only [i64_w, i32_w]; rw [c14b0]) | skip)
   by_cases c23 : t407 = 1
   ·rw [if_pos c23] at H
    have c23b0 : (t407 == 1) = true := beq_iff_eq.mpr c23
    have c23b1 : (t407 != 1) = false := bne_eq_false_iff_eq.mpr c23
    clear c23
    replace H := Option.bind_eq_some_iff.mp H
    obtain ⟨⟨t423, t424, t425⟩, A240, H⟩ := H
    try dsimp -simprocs only at H
    have A24 := Aside0.mk A240
    clear A240
    replace H := Option.bind_eq_some_iff.mp H
    obtain ⟨⟨t426, t427⟩, A250, H⟩ := H
    try dsimp -simprocs only at H
    have A25 := Aside0.mk A250
    clear A250
    have H' := Aside0.mk H
    clear H
    go_wp2_with (first | ((with_reducible refine gate_callee (f := 25) rfl ?_); refine goesL_ (some 32) rfl rfl Try.func25 (by kernel_rfl) rfl #[.pointer (some ⟨g406, 0, none⟩), .int .i64 16] rfl mt ?_; (with_reducible refine (impl_reader_take.calls g406 t411 t412 16 t423 t424 t425 w _ ?side1 ?side2 A24.out).mono ?_); (case side1 => repeat (first | (with_reducible first | exact HI406.out | apply IsS51.alloc | apply IsS51.drewN | apply IsS51.drew | apply IsS51.set_0 | apply IsS51.set_1 | refine IsS51.far ?_ NB406_405.out _ | refine IsS51.far ?_ NB406_413.out _) | exact HI406.out)); (case side2 => repeat (first | (with_reducible first | exact HB.out | apply below_alloc | apply pw_below_drewN | apply below_drew1 | refine below_set ?_ (IsS51.ge HI406.out) | refine below_set ?_ GE405.out | refine below_set ?_ GE413.out) | exact HB.out)); rintro e w26 ⟨rfl, hi, hb, hk⟩; refine ⟨_, rfl, ?_⟩; have n0_ := Aside0.mk (KeepBut.blk hk (g' := gb405) (o := .cells #[.int .i64 0, .int .i64 0, .int .i64 0, .int .i64 0, .slice none 0 0, .slice none 0 0, .slice none 0 0, .string (⟨#[]⟩ : ByteArray)] 29 (0, 0)) (bo BK405) NB405_406.out (by simp)); have n1_ := Aside0.mk (KeepBut.blk hk (g' := gb413) (o := .cells #[.int .i64 t407, .int .i64 t410, .int .i64 0, .int .i64 0, .slice none 0 0, .slice none 0 0, .slice none 0 0, .string (⟨#[]⟩ : ByteArray)] 29 (0, 0)) bk NB413_406.out (by simp)); have n2_ := Aside0.mk (hb); have n3_ := Aside0.mk (hi); clear BK405; clear BK413; clear HB; clear HI406; have BK405 := n0_; have BK413 := n1_; have HB := n2_; have HI406 := n3_; clear n0_ n1_ n2_ n3_; (try clear hb); (try clear hb2); (try clear hk); (try clear hi); have hnb27 := NB413_405.out; have hnc27 := NB405_413.out; have hnb28 := NB413_406.out; have hnc28 := NB406_413.out; obtain ⟨hcz29_0, hcz29_1, hcz29_2, hcz29_3, hcz29_4, hcz29_5, hcz29_6, hcz29_7, hfz29_0, hfz29_1, hfz29_2, hfz29_3, hfz29_4, hfz29_5, hfz29_6, hfz29_7⟩ := bc8 BK413.out; obtain ⟨HGz30, hgz30⟩ := HI406.out; have hcz30_0 := cellS51_0 HGz30; have hcz30_1 := cellS51_1 HGz30; have hfz30_0 := blk_frozen HGz30 0; have hfz30_1 := blk_frozen HGz30 1; clear HGz30 hgz30) | ((with_reducible refine gate_callee (f := 26) rfl ?_); refine goesL_ (some 39) rfl rfl Try.func26 (by kernel_rfl) rfl #[.string t424] rfl mt ?_; (with_reducible refine (impl_readTokens.calls k t424 t426 t427 _ A25.out).mono ?_); rintro e w31 ⟨v428, rfl, ho0, hb⟩; refine ⟨_, rfl, ?_⟩; have n0_ := Aside0.mk (Kd.R_lower ho0 (below_size bz)); have n1_ := Aside0.mk (blk_below (bo BK405) hb); have n2_ := Aside0.mk (IsS51.below (show IsS51 w (w26.setCell ⟨gb413, 7, none⟩ (.string t423)) g406 t424 t425 from iz HI406) hb); have n3_ := Aside0.mk (blk_below (g := gb413) (o := .cells #[.int .i64 t407, .int .i64 t410, .int .i64 0, .int .i64 0, .slice none 0 0, .slice none 0 0, .slice none 0 0, .string t423] 29 (0, 0)) bk hb); have n4_ := Aside0.mk (below_step bz hb); clear BK405; clear HI406; clear BK413; clear HB; have HO429 := n0_; have BK405 := n1_; have HI406 := n2_; have BK413 := n3_; have HB := n4_; clear n0_ n1_ n2_ n3_ n4_; (try clear hb); (try clear hb2); (try clear hk); (try clear hi); (try clear ho0); obtain ⟨Ao32, co32, eo32⟩ := Kd.R_slice HO429.out; subst eo32; obtain ⟨hcz33_0, hcz33_1, hcz33_2, hcz33_3, hcz33_4, hcz33_5, hcz33_6, hcz33_7, hfz33_0, hfz33_1, hfz33_2, hfz33_3, hfz33_4, hfz33_5, hfz33_6, hfz33_7⟩ := bc8 BK413.out))
    go_meet
    case rel => exact ⟨_, (t427), (t424), (t425), (0), (0), (([] : List Int)), (([] : List ByteArray)), (t426), (t423), (.slice none 0 0), (.slice none 0 0), (.slice Ao32 t426.length co32), sd, H', ⟨ob⟩, ⟨nz⟩, ⟨nz⟩, ⟨by refine rs ?_; exact Kd.R_mono (Kd.rf (Kd.R_types HO429.out BK413.out (by decide))) (fun _ hk => trivial)⟩, ⟨(bo BK405)⟩, ⟨bk⟩, ⟨iz HI406⟩, ⟨bz⟩⟩
   ·rw [if_neg c23] at H
    have c23b0 : (t407 == 1) = false := beq_eq_false_iff_ne.mpr c23
    have c23b1 : (t407 != 1) = true := bne_iff_ne.mpr c23
    have H' := Aside0.mk H
    clear H
    go_wp2
    go_meet
    case rel => exact ⟨_, (true), (t411), (t412), (0), (0), (([] : List Int)), (([] : List ByteArray)), (([] : List (S72))), ((⟨#[]⟩ : ByteArray)), (.slice none 0 0), (.slice none 0 0), (.slice none 0 0), sd, H', ⟨ob⟩, ⟨nz⟩, ⟨nz⟩, ⟨nz⟩, ⟨(bo BK405)⟩, ⟨bk⟩, ⟨iz HI406⟩, ⟨bz⟩⟩
 case rest =>
  clear HC4
  try clear c1
  try clear c2
  try clear p2
  try clear hcv6
  try clear c7
  try clear c11
  try clear c12
  try clear c14
  try clear c14b0
  try clear c14b1
  try clear c18
  try clear c19
  try clear c23
  try clear c23b0
  try clear c23b1
  try clear c24
  try clear c25
  try clear c26
  try clear c27
  try clear c28
  try clear hcz13_0 hcz13_1 hcz13_2 hcz13_3 hcz13_4 hcz13_5 hcz13_6 hcz13_7 hfz13_0 hfz13_1 hfz13_2 hfz13_3 hfz13_4 hfz13_5 hfz13_6 hfz13_7
  try clear hcz16_0 hcz16_1 hfz16_0 hfz16_1
  try clear hcz20_0 hcz20_1 hcz20_2 hcz20_3 hcz20_4 hcz20_5 hcz20_6 hcz20_7 hfz20_0 hfz20_1 hfz20_2 hfz20_3 hfz20_4 hfz20_5 hfz20_6 hfz20_7
  try clear hcz29_0 hcz29_1 hcz29_2 hcz29_3 hcz29_4 hcz29_5 hcz29_6 hcz29_7 hfz29_0 hfz29_1 hfz29_2 hfz29_3 hfz29_4 hfz29_5 hfz29_6 hfz29_7
  try clear hcz30_0 hcz30_1 hfz30_0 hfz30_1
  try clear hcz33_0 hcz33_1 hcz33_2 hcz33_3 hcz33_4 hcz33_5 hcz33_6 hcz33_7 hfz33_0 hfz33_1 hfz33_2 hfz33_3 hfz33_4 hfz33_5 hfz33_6 hfz33_7
  obtain ⟨kq, x6_3, x407000_3, x407001_3, x414002_3, x414003_3, x414004_3, x414005_3, x414006_3, x414007_3, u414004, u414005, u414006, rfl, HA, HJ3, HO_414004, HO_414005, HO_414006, BK405, BK413, HI406, HB⟩ := hcut
  cases kq with
  | zero => exact absurd HA.out (by simp [impl_GetMsg.j0])
  | succ kj3 =>
   have H := HA.out
   clear HA
   simp only [impl_GetMsg.j0] at H
   have HC34 := Aside0.mk H
   clear H
   go_upto_region 10 with (fail)
   go_cut [62] (fun v62 wc => ∃ (kq : Nat) (x62_33 : Bool), v62 = .bool x62_33 ∧ Aside0 (impl_GetMsg.j1 kq x62_33 t407 t410 x414002_3 x414003_3 x414004_3 x414005_3 x414006_3 x414007_3 = some (r1, r2, r3, r4, r5, r6, r7, r8, r9)) ∧ Aside0 (kq ≤ kj3) ∧ Aside0 (Kd.R (Kd.int .u32) 60 wc w.heap.size (fun _ => True) u414004 x414004_3) ∧ Aside0 (Kd.R Kd.string 9 wc w.heap.size (fun _ => True) u414005 x414005_3) ∧ Aside0 (Kd.R k72 72 wc w.heap.size (fun _ => True) u414006 x414006_3) ∧ Aside0 (wc.heap[gb405]? = some (.cells #[.int .i64 0, .int .i64 0, .int .i64 0, .int .i64 0, (.slice none 0 0), (.slice none 0 0), (.slice none 0 0), .string (⟨#[]⟩ : ByteArray)] 29 (0, 0))) ∧ Aside0 (wc.heap[gb413]? = some (.cells #[.int .i64 t407, .int .i64 t410, .int .i64 x414002_3, .int .i64 x414003_3, u414004, u414005, u414006, .string x414007_3] 29 (0, 0))) ∧ Aside0 (Below w.heap.size w wc))
   case first =>
    have H := HC34.out
    clear HC34
    by_cases c35 : x407001_3 = true
    ·subst c35
     have H1 : (impl_GetMsg.j1 kj3 true t407 t410 x414002_3 x414003_3 x414004_3 x414005_3 x414006_3 x414007_3) = some (r1, r2, r3, r4, r5, r6, r7, r8, r9) := by rw [if_pos rfl] at H; exact H
     clear H
     have H := H1
     clear H1
     have H' := Aside0.mk H
     clear H
     try go_wp2
     have n0_ := Aside0.mk (Kd.R_drew HO_414004.out)
     have n1_ := Aside0.mk (Kd.R_drew HO_414005.out)
     have n2_ := Aside0.mk (Kd.R_drew HO_414006.out)
     have n3_ := Aside0.mk (blk_drew BK405.out)
     have n4_ := Aside0.mk (blk_drew BK413.out)
     have n5_ := Aside0.mk (IsS51.drew HI406.out)
     have n6_ := Aside0.mk (below_drew1 HB.out)
     clear HO_414004
     clear HO_414005
     clear HO_414006
     clear BK405
     clear BK413
     clear HI406
     clear HB
     have HO_414004 := n0_
     have HO_414005 := n1_
     have HO_414006 := n2_
     have BK405 := n3_
     have BK413 := n4_
     have HI406 := n5_
     have HB := n6_
     clear n0_ n1_ n2_ n3_ n4_ n5_ n6_
     refine start_ (n := 20) (S := fun w' => w'.cell? ⟨g406, 0, none⟩ = some (.string x407000_3) ∧ w'.cell? ⟨g406, 1, none⟩ = some (.bool true)) (ds := []) #[false, false, false, false, false, false, false, false, false, false, false, false, false, false, false, false, false, false, false, false] (by kernel_rfl) rfl rfl ⟨(blk_cell HI406.out.1 0).trans rfl, (blk_cell HI406.out.1 1).trans rfl⟩ (fun hHeld => ?_); refine with_tabW impl_GetMsg.tab10 impl_GetMsg.bits10 (fun HT_ HW_ => ?_)
     generalize wc.drew = w36 at HO_414004 HO_414005 HO_414006 BK405 BK413 HI406 HB hHeld ⊢
     refine pure_ (i := 0) (N := some 43) (v := ?_) (a' := ?_) #[true, false, false, false, false, false, false, false, false, false, false, false, false, false, false, false, false, false, false, false] rfl rfl (any_of HT_.out (by kernel_rfl)) (fun _ _ _ h => h) (Or.inl ⟨by rfl, ?_⟩) ?_ ?_
     rotate_left
     ·intro w'
      go_simp
      with_reducible rfl
     rotate_left
     ·simp only [Act.put, List.setIfInBounds_toArray, List.set_cons_zero, List.set_cons_succ, i64_w, i32_w]
      rfl
     refine pure_ (i := 1) (N := some 44) (v := ?_) (a' := ?_) #[true, true, false, false, false, false, false, false, false, false, false, false, false, false, false, false, false, false, false, false] rfl rfl (any_of HT_.out (by kernel_rfl)) (fun _ _ _ h => h) (Or.inl ⟨by rfl, ?_⟩) ?_ ?_
     rotate_left
     ·intro w'
      go_simp
      with_reducible rfl
     rotate_left
     ·simp only [Act.put, List.setIfInBounds_toArray, List.set_cons_zero, List.set_cons_succ, i64_w, i32_w]
      rfl
     refine pure_ (i := 2) (N := some 45) (v := ?_) (a' := ?_) #[true, true, true, false, false, false, false, false, false, false, false, false, false, false, false, false, false, false, false, false] rfl rfl (any_of HT_.out (by kernel_rfl)) (fun _ _ _ h => h) (Or.inl ⟨by rfl, ?_⟩) ?_ ?_
     rotate_left
     ·intro w'
      go_simp
      with_reducible rfl
     rotate_left
     ·simp only [Act.put, List.setIfInBounds_toArray, List.set_cons_zero, List.set_cons_succ, i64_w, i32_w]
      rfl
     refine take_ (i := 3) (N := some 46) (v := ?_) (a' := ?_) #[true, true, true, true, false, false, false, false, false, false, false, false, false, false, false, false, false, false, false, false] rfl rfl (take_ofW HT_.out HW_.out (by kernel_rfl)) (fun _ _ _ h => h) (Or.inl ⟨by rfl, ?_⟩) hHeld ?_ ?_
     rotate_left
     ·rintro w' ⟨s0, s1⟩
      go_simp
      with_reducible rfl
     rotate_left
     ·simp only [Act.put, List.setIfInBounds_toArray, List.set_cons_zero, List.set_cons_succ, i64_w, i32_w]
      rfl
     refine pure_ (i := 4) (N := some 47) (v := ?_) (a' := ?_) #[true, true, true, true, true, false, false, false, false, false, false, false, false, false, false, false, false, false, false, false] rfl rfl (any_of HT_.out (by kernel_rfl)) (fun _ _ _ h => h) (Or.inl ⟨by rfl, ?_⟩) ?_ ?_
     rotate_left
     ·intro w'
      go_simp
      with_reducible rfl
     rotate_left
     ·simp only [Act.put, List.setIfInBounds_toArray, List.set_cons_zero, List.set_cons_succ, i64_w, i32_w]
      rfl
     refine pure_ (i := 5) (N := some 48) (v := undef) (a' := ?_) #[true, true, true, true, true, true, false, false, false, false, false, false, false, false, false, false, false, false, false, false] rfl rfl (any_of HT_.out (by kernel_rfl)) (fun _ _ _ h => h) (Or.inr ⟨by rfl, rfl⟩) ?_ ?_
     rotate_left
     ·simp only [Act.put, List.setIfInBounds_toArray, List.set_cons_zero, List.set_cons_succ, i64_w, i32_w]
      rfl
     refine pure_ (i := 6) (N := some 49) (v := undef) (a' := ?_) #[true, true, true, true, true, true, true, false, false, false, false, false, false, false, false, false, false, false, false, false] rfl rfl (any_of HT_.out (by kernel_rfl)) (fun _ _ _ h => h) (Or.inr ⟨by rfl, rfl⟩) ?_ ?_
     rotate_left
     ·simp only [Act.put, List.setIfInBounds_toArray, List.set_cons_zero, List.set_cons_succ, i64_w, i32_w]
      rfl
     refine pure_ (i := 7) (N := some 50) (v := ?_) (a' := ?_) #[true, true, true, true, true, true, true, true, false, false, false, false, false, false, false, false, false, false, false, false] rfl rfl (any_of HT_.out (by kernel_rfl)) (fun _ _ _ h => h) (Or.inl ⟨by rfl, ?_⟩) ?_ ?_
     rotate_left
     ·intro w'
      go_simp
      with_reducible rfl
     rotate_left
     ·simp only [Act.put, List.setIfInBounds_toArray, List.set_cons_zero, List.set_cons_succ, i64_w, i32_w]
      rfl
     refine pure_ (i := 8) (N := some 51) (v := ?_) (a' := ?_) #[true, true, true, true, true, true, true, true, true, false, false, false, false, false, false, false, false, false, false, false] rfl rfl (any_of HT_.out (by kernel_rfl)) (fun _ _ _ h => h) (Or.inl ⟨by rfl, ?_⟩) ?_ ?_
     rotate_left
     ·intro w'
      go_simp
      with_reducible rfl
     rotate_left
     ·simp only [Act.put, List.setIfInBounds_toArray, List.set_cons_zero, List.set_cons_succ, i64_w, i32_w]
      rfl
     refine pure_ (i := 9) (N := some 52) (v := undef) (a' := ?_) #[true, true, true, true, true, true, true, true, true, true, false, false, false, false, false, false, false, false, false, false] rfl rfl (any_of HT_.out (by kernel_rfl)) (fun _ _ _ h => h) (Or.inr ⟨by rfl, rfl⟩) ?_ ?_
     rotate_left
     ·simp only [Act.put, List.setIfInBounds_toArray, List.set_cons_zero, List.set_cons_succ, i64_w, i32_w]
      rfl
     refine pure_ (i := 10) (N := some 53) (v := undef) (a' := ?_) #[true, true, true, true, true, true, true, true, true, true, true, false, false, false, false, false, false, false, false, false] rfl rfl (any_of HT_.out (by kernel_rfl)) (fun _ _ _ h => h) (Or.inr ⟨by rfl, rfl⟩) ?_ ?_
     rotate_left
     ·simp only [Act.put, List.setIfInBounds_toArray, List.set_cons_zero, List.set_cons_succ, i64_w, i32_w]
      rfl
     refine pure_ (i := 11) (N := some 54) (v := undef) (a' := ?_) #[true, true, true, true, true, true, true, true, true, true, true, true, false, false, false, false, false, false, false, false] rfl rfl (any_of HT_.out (by kernel_rfl)) (fun _ _ _ h => h) (Or.inr ⟨by rfl, rfl⟩) ?_ ?_
     rotate_left
     ·simp only [Act.put, List.setIfInBounds_toArray, List.set_cons_zero, List.set_cons_succ, i64_w, i32_w]
      rfl
     refine pure_ (i := 12) (N := some 55) (v := ?_) (a' := ?_) #[true, true, true, true, true, true, true, true, true, true, true, true, true, false, false, false, false, false, false, false] rfl rfl (any_of HT_.out (by kernel_rfl)) (fun _ _ _ h => h) (Or.inl ⟨by rfl, ?_⟩) ?_ ?_
     rotate_left
     ·intro w'
      go_simp
      with_reducible rfl
     rotate_left
     ·simp only [Act.put, List.setIfInBounds_toArray, List.set_cons_zero, List.set_cons_succ, i64_w, i32_w]
      rfl
     refine pure_ (i := 13) (N := some 56) (v := ?_) (a' := ?_) #[true, true, true, true, true, true, true, true, true, true, true, true, true, true, false, false, false, false, false, false] rfl rfl (any_of HT_.out (by kernel_rfl)) (fun _ _ _ h => h) (Or.inl ⟨by rfl, ?_⟩) ?_ ?_
     rotate_left
     ·intro w'
      go_simp
      with_reducible rfl
     rotate_left
     ·simp only [Act.put, List.setIfInBounds_toArray, List.set_cons_zero, List.set_cons_succ, i64_w, i32_w]
      rfl
     refine pure_ (i := 14) (N := some 57) (v := undef) (a' := ?_) #[true, true, true, true, true, true, true, true, true, true, true, true, true, true, true, false, false, false, false, false] rfl rfl (any_of HT_.out (by kernel_rfl)) (fun _ _ _ h => h) (Or.inr ⟨by rfl, rfl⟩) ?_ ?_
     rotate_left
     ·simp only [Act.put, List.setIfInBounds_toArray, List.set_cons_zero, List.set_cons_succ, i64_w, i32_w]
      rfl
     refine pure_ (i := 15) (N := some 58) (v := undef) (a' := ?_) #[true, true, true, true, true, true, true, true, true, true, true, true, true, true, true, true, false, false, false, false] rfl rfl (any_of HT_.out (by kernel_rfl)) (fun _ _ _ h => h) (Or.inr ⟨by rfl, rfl⟩) ?_ ?_
     rotate_left
     ·simp only [Act.put, List.setIfInBounds_toArray, List.set_cons_zero, List.set_cons_succ, i64_w, i32_w]
      rfl
     refine pure_ (i := 16) (N := some 59) (v := undef) (a' := ?_) #[true, true, true, true, true, true, true, true, true, true, true, true, true, true, true, true, true, false, false, false] rfl rfl (any_of HT_.out (by kernel_rfl)) (fun _ _ _ h => h) (Or.inr ⟨by rfl, rfl⟩) ?_ ?_
     rotate_left
     ·simp only [Act.put, List.setIfInBounds_toArray, List.set_cons_zero, List.set_cons_succ, i64_w, i32_w]
      rfl
     refine pure_ (i := 17) (N := some 60) (v := undef) (a' := ?_) #[true, true, true, true, true, true, true, true, true, true, true, true, true, true, true, true, true, true, false, false] rfl rfl (any_of HT_.out (by kernel_rfl)) (fun _ _ _ h => h) (Or.inr ⟨by rfl, rfl⟩) ?_ ?_
     rotate_left
     ·simp only [Act.put, List.setIfInBounds_toArray, List.set_cons_zero, List.set_cons_succ, i64_w, i32_w]
      rfl
     refine pure_ (i := 18) (N := some 61) (v := undef) (a' := ?_) #[true, true, true, true, true, true, true, true, true, true, true, true, true, true, true, true, true, true, true, false] rfl rfl (any_of HT_.out (by kernel_rfl)) (fun _ _ _ h => h) (Or.inr ⟨by rfl, rfl⟩) ?_ ?_
     rotate_left
     ·simp only [Act.put, List.setIfInBounds_toArray, List.set_cons_zero, List.set_cons_succ, i64_w, i32_w]
      rfl
     refine pure_ (i := 19) (N := some 62) (v := ?_) (a' := ?_) #[true, true, true, true, true, true, true, true, true, true, true, true, true, true, true, true, true, true, true, true] rfl rfl (any_of HT_.out (by kernel_rfl)) (fun _ _ _ h => h) (Or.inl ⟨by rfl, ?_⟩) ?_ ?_
     rotate_left
     ·intro w'
      go_simp
      with_reducible rfl
     rotate_left
     ·simp only [Act.put, List.setIfInBounds_toArray, List.set_cons_zero, List.set_cons_succ, i64_w, i32_w]
      rfl
     refine done_ (done_of HT_.out (by kernel_rfl)) ?_
     try go_wp2
     go_meet
     case rel => exact ⟨_, (true), sd, H', ⟨by have := HJ3.out; first | omega | exact Nat.le_refl _⟩, ⟨by refine rs ?_; exact HO_414004.out⟩, ⟨by refine rs ?_; exact HO_414005.out⟩, ⟨by refine rs ?_; exact HO_414006.out⟩, ⟨(bo BK405)⟩, ⟨(bo BK413)⟩, ⟨bz⟩⟩
    ·replace c35 := Bool.eq_false_iff.mpr c35
     subst c35
     have H1 : (if x6_3 = true then ((impl_MsgOk.f kj3 t407 t410 x414002_3 x414003_3 x414004_3 x414005_3 x414006_3 x414007_3).bind fun t430 => (if t430 = true then ((impl_msgText.f kj3 t407 t410 x414002_3 x414003_3 x414004_3 x414005_3 x414006_3 x414007_3).bind fun t431 => (impl_GetMsg.j1 kj3 (t431.toList != (strOfNums l0).toList) t407 t410 x414002_3 x414003_3 x414004_3 x414005_3 x414006_3 x414007_3)) else (impl_GetMsg.j1 kj3 true t407 t410 x414002_3 x414003_3 x414004_3 x414005_3 x414006_3 x414007_3))) else (impl_GetMsg.j1 kj3 true t407 t410 x414002_3 x414003_3 x414004_3 x414005_3 x414006_3 x414007_3)) = some (r1, r2, r3, r4, r5, r6, r7, r8, r9) := by rw [if_neg (show ¬ (false = true) by decide)] at H; exact H
     clear H
     have H := H1
     clear H1
     by_cases c37 : x6_3 = true
     ·subst c37
      have H1 : ((impl_MsgOk.f kj3 t407 t410 x414002_3 x414003_3 x414004_3 x414005_3 x414006_3 x414007_3).bind fun t430 => (if t430 = true then ((impl_msgText.f kj3 t407 t410 x414002_3 x414003_3 x414004_3 x414005_3 x414006_3 x414007_3).bind fun t431 => (impl_GetMsg.j1 kj3 (t431.toList != (strOfNums l0).toList) t407 t410 x414002_3 x414003_3 x414004_3 x414005_3 x414006_3 x414007_3)) else (impl_GetMsg.j1 kj3 true t407 t410 x414002_3 x414003_3 x414004_3 x414005_3 x414006_3 x414007_3))) = some (r1, r2, r3, r4, r5, r6, r7, r8, r9) := by rw [if_pos rfl] at H; exact H
      clear H
      have H := H1
      clear H1
      replace H := Option.bind_eq_some_iff.mp H
      obtain ⟨t430, A380, H⟩ := H
      try dsimp -simprocs only at H
      have A38 := Aside0.mk A380
      clear A380
      by_cases c39 : t430 = true
      ·subst c39
       have H1 : ((impl_msgText.f kj3 t407 t410 x414002_3 x414003_3 x414004_3 x414005_3 x414006_3 x414007_3).bind fun t431 => (impl_GetMsg.j1 kj3 (t431.toList != (strOfNums l0).toList) t407 t410 x414002_3 x414003_3 x414004_3 x414005_3 x414006_3 x414007_3)) = some (r1, r2, r3, r4, r5, r6, r7, r8, r9) := by rw [if_pos rfl] at H; exact H
       clear H
       have H := H1
       clear H1
       replace H := Option.bind_eq_some_iff.mp H
       obtain ⟨t431, A400, H⟩ := H
       try dsimp -simprocs only at H
       have A40 := Aside0.mk A400
       clear A400
       have H' := Aside0.mk H
       clear H
       obtain ⟨Ao41, co41, eo41⟩ := Kd.R_slice HO_414004.out
       subst eo41
       obtain ⟨Ao42, co42, eo42⟩ := Kd.R_slice HO_414005.out
       subst eo42
       obtain ⟨Ao43, co43, eo43⟩ := Kd.R_slice HO_414006.out
       subst eo43
       try go_wp2
       have n0_ := Aside0.mk (Kd.R_drew HO_414004.out)
       have n1_ := Aside0.mk (Kd.R_drew HO_414005.out)
       have n2_ := Aside0.mk (Kd.R_drew HO_414006.out)
       have n3_ := Aside0.mk (blk_drew BK405.out)
       have n4_ := Aside0.mk (blk_drew BK413.out)
       have n5_ := Aside0.mk (IsS51.drew HI406.out)
       have n6_ := Aside0.mk (below_drew1 HB.out)
       clear HO_414004
       clear HO_414005
       clear HO_414006
       clear BK405
       clear BK413
       clear HI406
       clear HB
       have HO_414004 := n0_
       have HO_414005 := n1_
       have HO_414006 := n2_
       have BK405 := n3_
       have BK413 := n4_
       have HI406 := n5_
       have HB := n6_
       clear n0_ n1_ n2_ n3_ n4_ n5_ n6_
       refine start_ (n := 20) (S := fun w' => w'.cell? ⟨g406, 0, none⟩ = some (.string x407000_3) ∧ w'.cell? ⟨g406, 1, none⟩ = some (.bool false) ∧ w'.cell? ⟨gb413, 0, none⟩ = some (.int .i64 t407) ∧ w'.cell? ⟨gb413, 1, none⟩ = some (.int .i64 t410) ∧ w'.cell? ⟨gb413, 2, none⟩ = some (.int .i64 x414002_3) ∧ w'.cell? ⟨gb413, 3, none⟩ = some (.int .i64 x414003_3) ∧ w'.cell? ⟨gb413, 4, none⟩ = some (.slice Ao41 x414004_3.length co41) ∧ w'.cell? ⟨gb413, 5, none⟩ = some (.slice Ao42 x414005_3.length co42) ∧ w'.cell? ⟨gb413, 6, none⟩ = some (.slice Ao43 x414006_3.length co43) ∧ w'.cell? ⟨gb413, 7, none⟩ = some (.string x414007_3)) (ds := []) #[false, false, false, false, false, false, false, false, false, false, false, false, false, false, false, false, false, false, false, false] (by kernel_rfl) rfl rfl ⟨(blk_cell HI406.out.1 0).trans rfl, (blk_cell HI406.out.1 1).trans rfl, (blk_cell BK413.out 0).trans rfl, (blk_cell BK413.out 1).trans rfl, (blk_cell BK413.out 2).trans rfl, (blk_cell BK413.out 3).trans rfl, (blk_cell BK413.out 4).trans rfl, (blk_cell BK413.out 5).trans rfl, (blk_cell BK413.out 6).trans rfl, (blk_cell BK413.out 7).trans rfl⟩ (fun hHeld => ?_); refine with_tabW impl_GetMsg.tab10 impl_GetMsg.bits10 (fun HT_ HW_ => ?_)
       generalize wc.drew = w44 at HO_414004 HO_414005 HO_414006 BK405 BK413 HI406 HB hHeld ⊢
       refine pure_ (i := 0) (N := some 43) (v := ?_) (a' := ?_) #[true, false, false, false, false, false, false, false, false, false, false, false, false, false, false, false, false, false, false, false] rfl rfl (any_of HT_.out (by kernel_rfl)) (fun _ _ _ h => h) (Or.inl ⟨by rfl, ?_⟩) ?_ ?_
       rotate_left
       ·intro w'
        go_simp
        with_reducible rfl
       rotate_left
       ·simp only [Act.put, List.setIfInBounds_toArray, List.set_cons_zero, List.set_cons_succ, i64_w, i32_w]
        rfl
       refine pure_ (i := 1) (N := some 44) (v := ?_) (a' := ?_) #[true, true, false, false, false, false, false, false, false, false, false, false, false, false, false, false, false, false, false, false] rfl rfl (any_of HT_.out (by kernel_rfl)) (fun _ _ _ h => h) (Or.inl ⟨by rfl, ?_⟩) ?_ ?_
       rotate_left
       ·intro w'
        go_simp
        with_reducible rfl
       rotate_left
       ·simp only [Act.put, List.setIfInBounds_toArray, List.set_cons_zero, List.set_cons_succ, i64_w, i32_w]
        rfl
       refine pure_ (i := 2) (N := some 45) (v := ?_) (a' := ?_) #[true, true, true, false, false, false, false, false, false, false, false, false, false, false, false, false, false, false, false, false] rfl rfl (any_of HT_.out (by kernel_rfl)) (fun _ _ _ h => h) (Or.inl ⟨by rfl, ?_⟩) ?_ ?_
       rotate_left
       ·intro w'
        go_simp
        with_reducible rfl
       rotate_left
       ·simp only [Act.put, List.setIfInBounds_toArray, List.set_cons_zero, List.set_cons_succ, i64_w, i32_w]
        rfl
       refine take_ (i := 3) (N := some 46) (v := ?_) (a' := ?_) #[true, true, true, true, false, false, false, false, false, false, false, false, false, false, false, false, false, false, false, false] rfl rfl (take_ofW HT_.out HW_.out (by kernel_rfl)) (fun _ _ _ h => h) (Or.inl ⟨by rfl, ?_⟩) hHeld ?_ ?_
       rotate_left
       ·rintro w' ⟨s0, s1, s2, s3, s4, s5, s6, s7, s8, s9⟩
        go_simp
        with_reducible rfl
       rotate_left
       ·simp only [Act.put, List.setIfInBounds_toArray, List.set_cons_zero, List.set_cons_succ, i64_w, i32_w]
        rfl
       refine pure_ (i := 4) (N := some 47) (v := ?_) (a' := ?_) #[true, true, true, true, true, false, false, false, false, false, false, false, false, false, false, false, false, false, false, false] rfl rfl (any_of HT_.out (by kernel_rfl)) (fun _ _ _ h => h) (Or.inl ⟨by rfl, ?_⟩) ?_ ?_
       rotate_left
       ·intro w'
        go_simp
        with_reducible rfl
       rotate_left
       ·simp only [Act.put, List.setIfInBounds_toArray, List.set_cons_zero, List.set_cons_succ, i64_w, i32_w]
        rfl
       refine pure_ (i := 5) (N := some 48) (v := ?_) (a' := ?_) #[true, true, true, true, true, true, false, false, false, false, false, false, false, false, false, false, false, false, false, false] rfl rfl (any_of HT_.out (by kernel_rfl)) (fun _ _ _ h => h) (Or.inl ⟨by rfl, ?_⟩) ?_ ?_
       rotate_left
       ·intro w'
        go_simp
        with_reducible rfl
       rotate_left
       ·simp only [Act.put, List.setIfInBounds_toArray, List.set_cons_zero, List.set_cons_succ, i64_w, i32_w]
        rfl
       refine pure_ (i := 6) (N := some 49) (v := ?_) (a' := ?_) #[true, true, true, true, true, true, true, false, false, false, false, false, false, false, false, false, false, false, false, false] rfl rfl (any_of HT_.out (by kernel_rfl)) (fun _ _ _ h => h) (Or.inl ⟨by rfl, ?_⟩) ?_ ?_
       rotate_left
       ·intro w'
        go_simp
        with_reducible rfl
       rotate_left
       ·simp only [Act.put, List.setIfInBounds_toArray, List.set_cons_zero, List.set_cons_succ, i64_w, i32_w]
        rfl
       refine pure_ (i := 7) (N := some 50) (v := ?_) (a' := ?_) #[true, true, true, true, true, true, true, true, false, false, false, false, false, false, false, false, false, false, false, false] rfl rfl (any_of HT_.out (by kernel_rfl)) (fun _ _ _ h => h) (Or.inl ⟨by rfl, ?_⟩) ?_ ?_
       rotate_left
       ·intro w'
        go_simp
        with_reducible rfl
       rotate_left
       ·simp only [Act.put, List.setIfInBounds_toArray, List.set_cons_zero, List.set_cons_succ, i64_w, i32_w]
        rfl
       refine pure_ (i := 8) (N := some 51) (v := ?_) (a' := ?_) #[true, true, true, true, true, true, true, true, true, false, false, false, false, false, false, false, false, false, false, false] rfl rfl (any_of HT_.out (by kernel_rfl)) (fun _ _ _ h => h) (Or.inl ⟨by rfl, ?_⟩) ?_ ?_
       rotate_left
       ·intro w'
        go_simp
        with_reducible rfl
       rotate_left
       ·simp only [Act.put, List.setIfInBounds_toArray, List.set_cons_zero, List.set_cons_succ, i64_w, i32_w]
        rfl
       refine take_ (i := 9) (N := some 52) (v := ?_) (a' := ?_) #[true, true, true, true, true, true, true, true, true, true, false, false, false, false, false, false, false, false, false, false] rfl rfl (take_ofW HT_.out HW_.out (by kernel_rfl)) (fun _ _ _ h => h) (Or.inl ⟨by rfl, ?_⟩) hHeld ?_ ?_
       rotate_left
       ·rintro w' ⟨s0, s1, s2, s3, s4, s5, s6, s7, s8, s9⟩
        go_simp
        with_reducible rfl
       rotate_left
       ·simp only [Act.put, List.setIfInBounds_toArray, List.set_cons_zero, List.set_cons_succ, i64_w, i32_w]
        rfl
       refine one_ (i := 10) (N := some 53) #[true, true, true, true, true, true, true, true, true, true, true, false, false, false, false, false, false, false, false, false] rfl rfl (one_of HT_.out (by kernel_rfl)) (by decide) (fun K hK => ?_)
       refine goes_ Try.func17 (by kernel_rfl) rfl #[.agg #[.int .i64 t407, .int .i64 t410, .int .i64 x414002_3, .int .i64 x414003_3, .slice Ao41 x414004_3.length co41, .slice Ao42 x414005_3.length co42, .slice Ao43 x414006_3.length co43, .string x414007_3]] (by rfl) rfl rfl mt ?_
       with_reducible refine (impl_MsgOk.calls kj3 t407 t410 x414002_3 x414003_3 _ _ x414004_3 _ _ x414005_3 _ _ x414006_3 x414007_3 true _ ?side1 ?side2 ?side3 ?side4 ?side5 ?side6 A38.out).mono ?_
       (case side1 => repeat (first | exact (Kd.R_reads' HO_414004.out).2.2 | (with_reducible refine Kd.C_alloc ?_ _) | (with_reducible refine Kd.C_drewN ?_ _) | (with_reducible refine Kd.C_drew ?_)))
       (case side2 => exact (Kd.R_reads' HO_414004.out).2.1)
       (case side3 => repeat (first | exact (Kd.R_reads' HO_414005.out).2.2 | (with_reducible refine Kd.C_alloc ?_ _) | (with_reducible refine Kd.C_drewN ?_ _) | (with_reducible refine Kd.C_drew ?_)))
       (case side4 => exact (Kd.R_reads' HO_414005.out).2.1)
       (case side5 => repeat (first | exact (Kd.R_reads' HO_414006.out).2.2 | (with_reducible refine Kd.C_alloc ?_ _) | (with_reducible refine Kd.C_drewN ?_ _) | (with_reducible refine Kd.C_drew ?_)))
       (case side6 => exact (Kd.R_reads' HO_414006.out).2.1)
       rintro e w45 ⟨rfl, hb⟩
       refine ⟨_, rfl, ?_⟩
       have n0_ := Aside0.mk (Kd.R_below (by refine rs ?_; exact HO_414004.out) hb)
       have n1_ := Aside0.mk (Kd.R_below (by refine rs ?_; exact HO_414005.out) hb)
       have n2_ := Aside0.mk (Kd.R_below (by refine rs ?_; exact HO_414006.out) hb)
       have n3_ := Aside0.mk (blk_below (bo BK405) hb)
       have n4_ := Aside0.mk (blk_below (bo BK413) hb)
       have n5_ := Aside0.mk (IsS51.below (iz HI406) hb)
       have n6_ := Aside0.mk (below_step bz hb)
       clear HO_414004
       clear HO_414005
       clear HO_414006
       clear BK405
       clear BK413
       clear HI406
       clear HB
       have HO_414004 := n0_
       have HO_414005 := n1_
       have HO_414006 := n2_
       have BK405 := n3_
       have BK413 := n4_
       have HI406 := n5_
       have HB := n6_
       clear n0_ n1_ n2_ n3_ n4_ n5_ n6_
       (try clear hb)
       (try clear hb2)
       (try clear hk)
       (try clear hi)
       refine hK.out _ _ ⟨(blk_cell HI406.out.1 0).trans rfl, (blk_cell HI406.out.1 1).trans rfl, (blk_cell BK413.out 0).trans rfl, (blk_cell BK413.out 1).trans rfl, (blk_cell BK413.out 2).trans rfl, (blk_cell BK413.out 3).trans rfl, (blk_cell BK413.out 4).trans rfl, (blk_cell BK413.out 5).trans rfl, (blk_cell BK413.out 6).trans rfl, (blk_cell BK413.out 7).trans rfl⟩ (fun hHeld => ?_)
       clear hK K
       refine norm_ (a' := ?_) ?_ ?_
       rotate_left
       ·show Act.put _ (some 53) _ = _
        simp only [Act.put, List.setIfInBounds_toArray, List.set_cons_zero, List.set_cons_succ, i64_w, i32_w]
        rfl
       refine pure_ (i := 11) (N := some 54) (v := ?_) (a' := ?_) #[true, true, true, true, true, true, true, true, true, true, true, true, false, false, false, false, false, false, false, false] rfl rfl (any_of HT_.out (by kernel_rfl)) (fun _ _ _ h => h) (Or.inl ⟨by rfl, ?_⟩) ?_ ?_
       rotate_left
       ·intro w'
        go_simp
        with_reducible rfl
       rotate_left
       ·simp only [Act.put, List.setIfInBounds_toArray, List.set_cons_zero, List.set_cons_succ, i64_w, i32_w]
        rfl
       refine pure_ (i := 12) (N := some 55) (v := ?_) (a' := ?_) #[true, true, true, true, true, true, true, true, true, true, true, true, true, false, false, false, false, false, false, false] rfl rfl (any_of HT_.out (by kernel_rfl)) (fun _ _ _ h => h) (Or.inl ⟨by rfl, ?_⟩) ?_ ?_
       rotate_left
       ·intro w'
        go_simp
        with_reducible rfl
       rotate_left
       ·simp only [Act.put, List.setIfInBounds_toArray, List.set_cons_zero, List.set_cons_succ, i64_w, i32_w]
        rfl
       refine pure_ (i := 13) (N := some 56) (v := ?_) (a' := ?_) #[true, true, true, true, true, true, true, true, true, true, true, true, true, true, false, false, false, false, false, false] rfl rfl (any_of HT_.out (by kernel_rfl)) (fun _ _ _ h => h) (Or.inl ⟨by rfl, ?_⟩) ?_ ?_
       rotate_left
       ·intro w'
        go_simp
        with_reducible rfl
       rotate_left
       ·simp only [Act.put, List.setIfInBounds_toArray, List.set_cons_zero, List.set_cons_succ, i64_w, i32_w]
        rfl
       refine pure_ (i := 16) (N := some 59) (v := ?_) (a' := ?_) #[true, true, true, true, true, true, true, true, true, true, true, true, true, true, false, false, true, false, false, false] rfl rfl (any_of HT_.out (by kernel_rfl)) (fun _ _ _ h => h) (Or.inl ⟨by rfl, ?_⟩) ?_ ?_
       rotate_left
       ·intro w'
        go_simp
        with_reducible rfl
       rotate_left
       ·simp only [Act.put, List.setIfInBounds_toArray, List.set_cons_zero, List.set_cons_succ, i64_w, i32_w]
        rfl
       refine take_ (i := 14) (N := some 57) (v := ?_) (a' := ?_) #[true, true, true, true, true, true, true, true, true, true, true, true, true, true, true, false, true, false, false, false] rfl rfl (take_ofW HT_.out HW_.out (by kernel_rfl)) (fun _ _ _ h => h) (Or.inl ⟨by rfl, ?_⟩) hHeld ?_ ?_
       rotate_left
       ·rintro w' ⟨s0, s1, s2, s3, s4, s5, s6, s7, s8, s9⟩
        go_simp
        with_reducible rfl
       rotate_left
       ·simp only [Act.put, List.setIfInBounds_toArray, List.set_cons_zero, List.set_cons_succ, i64_w, i32_w]
        rfl
       refine join_ (σ := Unit) 2 #[true, true, true, true, true, true, true, true, true, true, true, true, true, true, true, true, true, true, false, false] (fun s_ => [(58, .string t431), (60, .string (strOfNums l0))]) (fun s_ w' => (w'.cell? ⟨g406, 0, none⟩ = some (.string x407000_3) ∧ w'.cell? ⟨g406, 1, none⟩ = some (.bool false) ∧ w'.cell? ⟨gb413, 0, none⟩ = some (.int .i64 t407) ∧ w'.cell? ⟨gb413, 1, none⟩ = some (.int .i64 t410) ∧ w'.cell? ⟨gb413, 2, none⟩ = some (.int .i64 x414002_3) ∧ w'.cell? ⟨gb413, 3, none⟩ = some (.int .i64 x414003_3) ∧ w'.cell? ⟨gb413, 4, none⟩ = some (.slice Ao41 x414004_3.length co41) ∧ w'.cell? ⟨gb413, 5, none⟩ = some (.slice Ao42 x414005_3.length co42) ∧ w'.cell? ⟨gb413, 6, none⟩ = some (.slice Ao43 x414006_3.length co43) ∧ w'.cell? ⟨gb413, 7, none⟩ = some (.string x414007_3)) ∧ (Kd.R (Kd.int .u32) 60 w' w.heap.size (fun _ => True) (.slice Ao41 x414004_3.length co41) x414004_3) ∧ (Kd.R Kd.string 9 w' w.heap.size (fun _ => True) (.slice Ao42 x414005_3.length co42) x414005_3) ∧ (Kd.R k72 72 w' w.heap.size (fun _ => True) (.slice Ao43 x414006_3.length co43) x414006_3) ∧ (w'.heap[gb405]? = some (.cells #[.int .i64 0, .int .i64 0, .int .i64 0, .int .i64 0, .slice none 0 0, .slice none 0 0, .slice none 0 0, .string (⟨#[]⟩ : ByteArray)] 29 (0, 0))) ∧ (w'.heap[gb413]? = some (.cells #[.int .i64 t407, .int .i64 t410, .int .i64 x414002_3, .int .i64 x414003_3, .slice Ao41 x414004_3.length co41, .slice Ao42 x414005_3.length co42, .slice Ao43 x414006_3.length co43, .string x414007_3] 29 (0, 0))) ∧ (IsS51 w w' g406 x407000_3 false) ∧ (Below w.heap.size w w')) ?_ ?_
       rotate_left
       ·intro hCont
        refine two_ (i := 15) (j := 17) (Ni := some 58) (Nj := some 60) #[true, true, true, true, true, true, true, true, true, true, true, true, true, true, true, true, true, false, false, false] #[true, true, true, true, true, true, true, true, true, true, true, true, true, true, true, false, true, true, false, false] rfl rfl rfl rfl (two_of HT_.out (by kernel_rfl)) (by decide) (by decide) (fun K hK => ?_) (fun K hK => ?_)
        ·skip
         refine goes_ Try.func27 (by kernel_rfl) rfl #[.agg #[.int .i64 t407, .int .i64 t410, .int .i64 x414002_3, .int .i64 x414003_3, .slice Ao41 x414004_3.length co41, .slice Ao42 x414005_3.length co42, .slice Ao43 x414006_3.length co43, .string x414007_3]] (by rfl) rfl rfl mt ?_
         with_reducible refine (impl_msgText.calls kj3 t407 t410 x414002_3 x414003_3 _ _ x414004_3 _ _ x414005_3 _ _ x414006_3 x414007_3 t431 _ ?side1 ?side2 ?side3 ?side4 ?side5 ?side6 A40.out).mono ?_
         (case side1 => repeat (first | exact (Kd.R_reads' HO_414004.out).2.2 | (with_reducible refine Kd.C_alloc ?_ _) | (with_reducible refine Kd.C_drewN ?_ _) | (with_reducible refine Kd.C_drew ?_)))
         (case side2 => exact (Kd.R_reads' HO_414004.out).2.1)
         (case side3 => repeat (first | exact (Kd.R_reads' HO_414005.out).2.2 | (with_reducible refine Kd.C_alloc ?_ _) | (with_reducible refine Kd.C_drewN ?_ _) | (with_reducible refine Kd.C_drew ?_)))
         (case side4 => exact (Kd.R_reads' HO_414005.out).2.1)
         (case side5 => repeat (first | exact (Kd.R_reads' HO_414006.out).2.2 | (with_reducible refine Kd.C_alloc ?_ _) | (with_reducible refine Kd.C_drewN ?_ _) | (with_reducible refine Kd.C_drew ?_)))
         (case side6 => exact (Kd.R_reads' HO_414006.out).2.1)
         rintro e w46 ⟨rfl, hb⟩
         refine ⟨_, rfl, ?_⟩
         have n0_ := Aside0.mk (Kd.R_below (by refine rs ?_; exact HO_414004.out) hb)
         have n1_ := Aside0.mk (Kd.R_below (by refine rs ?_; exact HO_414005.out) hb)
         have n2_ := Aside0.mk (Kd.R_below (by refine rs ?_; exact HO_414006.out) hb)
         have n3_ := Aside0.mk (blk_below (bo BK405) hb)
         have n4_ := Aside0.mk (blk_below (bo BK413) hb)
         have n5_ := Aside0.mk (IsS51.below (iz HI406) hb)
         have n6_ := Aside0.mk (below_step bz hb)
         clear HO_414004
         clear HO_414005
         clear HO_414006
         clear BK405
         clear BK413
         clear HI406
         clear HB
         have HO_414004 := n0_
         have HO_414005 := n1_
         have HO_414006 := n2_
         have BK405 := n3_
         have BK413 := n4_
         have HI406 := n5_
         have HB := n6_
         clear n0_ n1_ n2_ n3_ n4_ n5_ n6_
         (try clear hb)
         (try clear hb2)
         (try clear hk)
         (try clear hi)
         refine hK.out _ _ ⟨(blk_cell HI406.out.1 0).trans rfl, (blk_cell HI406.out.1 1).trans rfl, (blk_cell BK413.out 0).trans rfl, (blk_cell BK413.out 1).trans rfl, (blk_cell BK413.out 2).trans rfl, (blk_cell BK413.out 3).trans rfl, (blk_cell BK413.out 4).trans rfl, (blk_cell BK413.out 5).trans rfl, (blk_cell BK413.out 6).trans rfl, (blk_cell BK413.out 7).trans rfl⟩ (fun hHeld => ?_)
         clear hK K
         refine norm_ (a' := ?_) ?_ ?_
         rotate_left
         ·show Act.put _ (some 58) _ = _
          simp only [Act.put, List.setIfInBounds_toArray, List.set_cons_zero, List.set_cons_succ, i64_w, i32_w]
          rfl
         refine one_ (i := 17) (N := some 60) #[true, true, true, true, true, true, true, true, true, true, true, true, true, true, true, true, true, true, false, false] rfl rfl (one_of HT_.out (by kernel_rfl)) (by decide) (fun K hK => ?_)
         have hcv47 := Kd.C_string (P := Try.prog) (A := A0) (c := c0) Try.underlying22 Try.underlying5 Try.underlying9 (Kd.C_below HR0.out HB.out)
         refine value_ (w1 := ?_) (v := ?_) (by rfl) rfl ?_ ?_
         rotate_left 2
         ·go_simp
          constructor
          ·rfl
          ·rfl
         clear hcv47
         refine hK.out _ _ ⟨(blk_cell HI406.out.1 0).trans rfl, (blk_cell HI406.out.1 1).trans rfl, (blk_cell BK413.out 0).trans rfl, (blk_cell BK413.out 1).trans rfl, (blk_cell BK413.out 2).trans rfl, (blk_cell BK413.out 3).trans rfl, (blk_cell BK413.out 4).trans rfl, (blk_cell BK413.out 5).trans rfl, (blk_cell BK413.out 6).trans rfl, (blk_cell BK413.out 7).trans rfl⟩ (fun hHeld => ?_)
         clear hK K
         refine norm_ (a' := ?_) ?_ ?_
         rotate_left
         ·show Act.put _ (some 60) _ = _
          simp only [Act.put, List.setIfInBounds_toArray, List.set_cons_zero, List.set_cons_succ, i64_w, i32_w]
          rfl
         exact norm_ (by simp only [putAll, Act.put, List.setIfInBounds_toArray, List.set_cons_zero, List.set_cons_succ]) (hCont () _ ⟨hHeld, (by refine rs ?_; exact HO_414004.out), (by refine rs ?_; exact HO_414005.out), (by refine rs ?_; exact HO_414006.out), (bo BK405), (bo BK413), (iz HI406), bz⟩)
        ·skip
         have hcv46 := Kd.C_string (P := Try.prog) (A := A0) (c := c0) Try.underlying22 Try.underlying5 Try.underlying9 (Kd.C_below HR0.out HB.out)
         refine value_ (w1 := ?_) (v := ?_) (by rfl) rfl ?_ ?_
         rotate_left 2
         ·go_simp
          constructor
          ·rfl
          ·rfl
         clear hcv46
         refine hK.out _ _ ⟨(blk_cell HI406.out.1 0).trans rfl, (blk_cell HI406.out.1 1).trans rfl, (blk_cell BK413.out 0).trans rfl, (blk_cell BK413.out 1).trans rfl, (blk_cell BK413.out 2).trans rfl, (blk_cell BK413.out 3).trans rfl, (blk_cell BK413.out 4).trans rfl, (blk_cell BK413.out 5).trans rfl, (blk_cell BK413.out 6).trans rfl, (blk_cell BK413.out 7).trans rfl⟩ (fun hHeld => ?_)
         clear hK K
         refine norm_ (a' := ?_) ?_ ?_
         rotate_left
         ·show Act.put _ (some 60) _ = _
          simp only [Act.put, List.setIfInBounds_toArray, List.set_cons_zero, List.set_cons_succ, i64_w, i32_w]
          rfl
         refine one_ (i := 15) (N := some 58) #[true, true, true, true, true, true, true, true, true, true, true, true, true, true, true, true, true, true, false, false] rfl rfl (one_of HT_.out (by kernel_rfl)) (by decide) (fun K hK => ?_)
         refine goes_ Try.func27 (by kernel_rfl) rfl #[.agg #[.int .i64 t407, .int .i64 t410, .int .i64 x414002_3, .int .i64 x414003_3, .slice Ao41 x414004_3.length co41, .slice Ao42 x414005_3.length co42, .slice Ao43 x414006_3.length co43, .string x414007_3]] (by rfl) rfl rfl mt ?_
         with_reducible refine (impl_msgText.calls kj3 t407 t410 x414002_3 x414003_3 _ _ x414004_3 _ _ x414005_3 _ _ x414006_3 x414007_3 t431 _ ?side1 ?side2 ?side3 ?side4 ?side5 ?side6 A40.out).mono ?_
         (case side1 => repeat (first | exact (Kd.R_reads' HO_414004.out).2.2 | (with_reducible refine Kd.C_alloc ?_ _) | (with_reducible refine Kd.C_drewN ?_ _) | (with_reducible refine Kd.C_drew ?_)))
         (case side2 => exact (Kd.R_reads' HO_414004.out).2.1)
         (case side3 => repeat (first | exact (Kd.R_reads' HO_414005.out).2.2 | (with_reducible refine Kd.C_alloc ?_ _) | (with_reducible refine Kd.C_drewN ?_ _) | (with_reducible refine Kd.C_drew ?_)))
         (case side4 => exact (Kd.R_reads' HO_414005.out).2.1)
         (case side5 => repeat (first | exact (Kd.R_reads' HO_414006.out).2.2 | (with_reducible refine Kd.C_alloc ?_ _) | (with_reducible refine Kd.C_drewN ?_ _) | (with_reducible refine Kd.C_drew ?_)))
         (case side6 => exact (Kd.R_reads' HO_414006.out).2.1)
         rintro e w47 ⟨rfl, hb⟩
         refine ⟨_, rfl, ?_⟩
         have n0_ := Aside0.mk (Kd.R_below (by refine rs ?_; exact HO_414004.out) hb)
         have n1_ := Aside0.mk (Kd.R_below (by refine rs ?_; exact HO_414005.out) hb)
         have n2_ := Aside0.mk (Kd.R_below (by refine rs ?_; exact HO_414006.out) hb)
         have n3_ := Aside0.mk (blk_below (bo BK405) hb)
         have n4_ := Aside0.mk (blk_below (bo BK413) hb)
         have n5_ := Aside0.mk (IsS51.below (iz HI406) hb)
         have n6_ := Aside0.mk (below_step bz hb)
         clear HO_414004
         clear HO_414005
         clear HO_414006
         clear BK405
         clear BK413
         clear HI406
         clear HB
         have HO_414004 := n0_
         have HO_414005 := n1_
         have HO_414006 := n2_
         have BK405 := n3_
         have BK413 := n4_
         have HI406 := n5_
         have HB := n6_
         clear n0_ n1_ n2_ n3_ n4_ n5_ n6_
         (try clear hb)
         (try clear hb2)
         (try clear hk)
         (try clear hi)
         refine hK.out _ _ ⟨(blk_cell HI406.out.1 0).trans rfl, (blk_cell HI406.out.1 1).trans rfl, (blk_cell BK413.out 0).trans rfl, (blk_cell BK413.out 1).trans rfl, (blk_cell BK413.out 2).trans rfl, (blk_cell BK413.out 3).trans rfl, (blk_cell BK413.out 4).trans rfl, (blk_cell BK413.out 5).trans rfl, (blk_cell BK413.out 6).trans rfl, (blk_cell BK413.out 7).trans rfl⟩ (fun hHeld => ?_)
         clear hK K
         refine norm_ (a' := ?_) ?_ ?_
         rotate_left
         ·show Act.put _ (some 58) _ = _
          simp only [Act.put, List.setIfInBounds_toArray, List.set_cons_zero, List.set_cons_succ, i64_w, i32_w]
          rfl
         exact norm_ (by simp only [putAll, Act.put, List.setIfInBounds_toArray, List.set_cons_zero, List.set_cons_succ]) (hCont () _ ⟨hHeld, (by refine rs ?_; exact HO_414004.out), (by refine rs ?_; exact HO_414005.out), (by refine rs ?_; exact HO_414006.out), (bo BK405), (bo BK413), (iz HI406), bz⟩)
       rintro _ w48 ⟨hS_, h0_, h1_, h2_, h3_, h4_, h5_, h6_⟩
       have n0_ : Aside0 (Kd.R (Kd.int .u32) 60 w48 w.heap.size (fun _ => True) (.slice Ao41 x414004_3.length co41) x414004_3) := ⟨h0_⟩
       have n1_ : Aside0 (Kd.R Kd.string 9 w48 w.heap.size (fun _ => True) (.slice Ao42 x414005_3.length co42) x414005_3) := ⟨h1_⟩
       have n2_ : Aside0 (Kd.R k72 72 w48 w.heap.size (fun _ => True) (.slice Ao43 x414006_3.length co43) x414006_3) := ⟨h2_⟩
       have n3_ : Aside0 (w48.heap[gb405]? = some (.cells #[.int .i64 0, .int .i64 0, .int .i64 0, .int .i64 0, .slice none 0 0, .slice none 0 0, .slice none 0 0, .string (⟨#[]⟩ : ByteArray)] 29 (0, 0))) := ⟨h3_⟩
       have n4_ : Aside0 (w48.heap[gb413]? = some (.cells #[.int .i64 t407, .int .i64 t410, .int .i64 x414002_3, .int .i64 x414003_3, .slice Ao41 x414004_3.length co41, .slice Ao42 x414005_3.length co42, .slice Ao43 x414006_3.length co43, .string x414007_3] 29 (0, 0))) := ⟨h4_⟩
       have n5_ : Aside0 (IsS51 w w48 g406 x407000_3 false) := ⟨h5_⟩
       have n6_ : Aside0 (Below w.heap.size w w48) := ⟨h6_⟩
       clear HO_414004
       clear HO_414005
       clear HO_414006
       clear BK405
       clear BK413
       clear HI406
       clear HB
       clear h0_ h1_ h2_ h3_ h4_ h5_ h6_
       have HO_414004 := n0_
       have HO_414005 := n1_
       have HO_414006 := n2_
       have BK405 := n3_
       have BK413 := n4_
       have HI406 := n5_
       have HB := n6_
       clear n0_ n1_ n2_ n3_ n4_ n5_ n6_
       have hHeld : w48.cell? ⟨g406, 0, none⟩ = some (.string x407000_3) ∧ w48.cell? ⟨g406, 1, none⟩ = some (.bool false) ∧ w48.cell? ⟨gb413, 0, none⟩ = some (.int .i64 t407) ∧ w48.cell? ⟨gb413, 1, none⟩ = some (.int .i64 t410) ∧ w48.cell? ⟨gb413, 2, none⟩ = some (.int .i64 x414002_3) ∧ w48.cell? ⟨gb413, 3, none⟩ = some (.int .i64 x414003_3) ∧ w48.cell? ⟨gb413, 4, none⟩ = some (.slice Ao41 x414004_3.length co41) ∧ w48.cell? ⟨gb413, 5, none⟩ = some (.slice Ao42 x414005_3.length co42) ∧ w48.cell? ⟨gb413, 6, none⟩ = some (.slice Ao43 x414006_3.length co43) ∧ w48.cell? ⟨gb413, 7, none⟩ = some (.string x414007_3) := hS_
       refine norm_ (a' := ?_) ?_ ?_
       rotate_left
       ·simp only [putAll, Act.put, List.setIfInBounds_toArray, List.set_cons_zero, List.set_cons_succ]
        rfl
       refine pure_ (i := 18) (N := some 61) (v := ?_) (a' := ?_) #[true, true, true, true, true, true, true, true, true, true, true, true, true, true, true, true, true, true, true, false] rfl rfl (any_of HT_.out (by kernel_rfl)) (fun _ _ _ h => h) (Or.inl ⟨by rfl, ?_⟩) ?_ ?_
       rotate_left
       ·intro w'
        go_simp
        with_reducible rfl
       rotate_left
       ·simp only [Act.put, List.setIfInBounds_toArray, List.set_cons_zero, List.set_cons_succ, i64_w, i32_w]
        rfl
       refine pure_ (i := 19) (N := some 62) (v := ?_) (a' := ?_) #[true, true, true, true, true, true, true, true, true, true, true, true, true, true, true, true, true, true, true, true] rfl rfl (any_of HT_.out (by kernel_rfl)) (fun _ _ _ h => h) (Or.inl ⟨by rfl, ?_⟩) ?_ ?_
       rotate_left
       ·intro w'
        go_simp
        with_reducible rfl
       rotate_left
       ·simp only [Act.put, List.setIfInBounds_toArray, List.set_cons_zero, List.set_cons_succ, i64_w, i32_w]
        rfl
       refine done_ (done_of HT_.out (by kernel_rfl)) ?_
       try go_wp2
       go_meet
       case rel => exact ⟨_, ((t431.toList != (strOfNums l0).toList)), sd, H', ⟨by have := HJ3.out; first | omega | exact Nat.le_refl _⟩, ⟨by refine rs ?_; exact HO_414004.out⟩, ⟨by refine rs ?_; exact HO_414005.out⟩, ⟨by refine rs ?_; exact HO_414006.out⟩, ⟨(bo BK405)⟩, ⟨(bo BK413)⟩, ⟨bz⟩⟩
      ·replace c39 := Bool.eq_false_iff.mpr c39
       subst c39
       have H1 : (impl_GetMsg.j1 kj3 true t407 t410 x414002_3 x414003_3 x414004_3 x414005_3 x414006_3 x414007_3) = some (r1, r2, r3, r4, r5, r6, r7, r8, r9) := by rw [if_neg (show ¬ (false = true) by decide)] at H; exact H
       clear H
       have H := H1
       clear H1
       have H' := Aside0.mk H
       clear H
       try go_wp2
       have n0_ := Aside0.mk (Kd.R_drew HO_414004.out)
       have n1_ := Aside0.mk (Kd.R_drew HO_414005.out)
       have n2_ := Aside0.mk (Kd.R_drew HO_414006.out)
       have n3_ := Aside0.mk (blk_drew BK405.out)
       have n4_ := Aside0.mk (blk_drew BK413.out)
       have n5_ := Aside0.mk (IsS51.drew HI406.out)
       have n6_ := Aside0.mk (below_drew1 HB.out)
       clear HO_414004
       clear HO_414005
       clear HO_414006
       clear BK405
       clear BK413
       clear HI406
       clear HB
       have HO_414004 := n0_
       have HO_414005 := n1_
       have HO_414006 := n2_
       have BK405 := n3_
       have BK413 := n4_
       have HI406 := n5_
       have HB := n6_
       clear n0_ n1_ n2_ n3_ n4_ n5_ n6_
       obtain ⟨Ao50, co50, eo50⟩ := Kd.R_slice HO_414004.out
       (first | subst eo50 | (injection eo50 with f1_ f2_ f3_; have f4_ := f1_.symm; have f5_ := f3_.symm; clear f1_ f2_ f3_; subst f4_; subst f5_))
       obtain ⟨Ao51, co51, eo51⟩ := Kd.R_slice HO_414005.out
       (first | subst eo51 | (injection eo51 with f1_ f2_ f3_; have f4_ := f1_.symm; have f5_ := f3_.symm; clear f1_ f2_ f3_; subst f4_; subst f5_))
       obtain ⟨Ao52, co52, eo52⟩ := Kd.R_slice HO_414006.out
       (first | subst eo52 | (injection eo52 with f1_ f2_ f3_; have f4_ := f1_.symm; have f5_ := f3_.symm; clear f1_ f2_ f3_; subst f4_; subst f5_))
       refine start_ (n := 20) (S := fun w' => w'.cell? ⟨g406, 0, none⟩ = some (.string x407000_3) ∧ w'.cell? ⟨g406, 1, none⟩ = some (.bool false) ∧ w'.cell? ⟨gb413, 0, none⟩ = some (.int .i64 t407) ∧ w'.cell? ⟨gb413, 1, none⟩ = some (.int .i64 t410) ∧ w'.cell? ⟨gb413, 2, none⟩ = some (.int .i64 x414002_3) ∧ w'.cell? ⟨gb413, 3, none⟩ = some (.int .i64 x414003_3) ∧ w'.cell? ⟨gb413, 4, none⟩ = some (.slice Ao50 x414004_3.length co50) ∧ w'.cell? ⟨gb413, 5, none⟩ = some (.slice Ao51 x414005_3.length co51) ∧ w'.cell? ⟨gb413, 6, none⟩ = some (.slice Ao52 x414006_3.length co52) ∧ w'.cell? ⟨gb413, 7, none⟩ = some (.string x414007_3)) (ds := []) #[false, false, false, false, false, false, false, false, false, false, false, false, false, false, false, false, false, false, false, false] (by kernel_rfl) rfl rfl ⟨(blk_cell HI406.out.1 0).trans rfl, (blk_cell HI406.out.1 1).trans rfl, (blk_cell BK413.out 0).trans rfl, (blk_cell BK413.out 1).trans rfl, (blk_cell BK413.out 2).trans rfl, (blk_cell BK413.out 3).trans rfl, (blk_cell BK413.out 4).trans rfl, (blk_cell BK413.out 5).trans rfl, (blk_cell BK413.out 6).trans rfl, (blk_cell BK413.out 7).trans rfl⟩ (fun hHeld => ?_); refine with_tabW impl_GetMsg.tab10 impl_GetMsg.bits10 (fun HT_ HW_ => ?_)
       generalize wc.drew = w49 at HO_414004 HO_414005 HO_414006 BK405 BK413 HI406 HB hHeld ⊢
       refine pure_ (i := 0) (N := some 43) (v := ?_) (a' := ?_) #[true, false, false, false, false, false, false, false, false, false, false, false, false, false, false, false, false, false, false, false] rfl rfl (any_of HT_.out (by kernel_rfl)) (fun _ _ _ h => h) (Or.inl ⟨by rfl, ?_⟩) ?_ ?_
       rotate_left
       ·intro w'
        go_simp
        with_reducible rfl
       rotate_left
       ·simp only [Act.put, List.setIfInBounds_toArray, List.set_cons_zero, List.set_cons_succ, i64_w, i32_w]
        rfl
       refine pure_ (i := 1) (N := some 44) (v := ?_) (a' := ?_) #[true, true, false, false, false, false, false, false, false, false, false, false, false, false, false, false, false, false, false, false] rfl rfl (any_of HT_.out (by kernel_rfl)) (fun _ _ _ h => h) (Or.inl ⟨by rfl, ?_⟩) ?_ ?_
       rotate_left
       ·intro w'
        go_simp
        with_reducible rfl
       rotate_left
       ·simp only [Act.put, List.setIfInBounds_toArray, List.set_cons_zero, List.set_cons_succ, i64_w, i32_w]
        rfl
       refine pure_ (i := 2) (N := some 45) (v := ?_) (a' := ?_) #[true, true, true, false, false, false, false, false, false, false, false, false, false, false, false, false, false, false, false, false] rfl rfl (any_of HT_.out (by kernel_rfl)) (fun _ _ _ h => h) (Or.inl ⟨by rfl, ?_⟩) ?_ ?_
       rotate_left
       ·intro w'
        go_simp
        with_reducible rfl
       rotate_left
       ·simp only [Act.put, List.setIfInBounds_toArray, List.set_cons_zero, List.set_cons_succ, i64_w, i32_w]
        rfl
       refine take_ (i := 3) (N := some 46) (v := ?_) (a' := ?_) #[true, true, true, true, false, false, false, false, false, false, false, false, false, false, false, false, false, false, false, false] rfl rfl (take_ofW HT_.out HW_.out (by kernel_rfl)) (fun _ _ _ h => h) (Or.inl ⟨by rfl, ?_⟩) hHeld ?_ ?_
       rotate_left
       ·rintro w' ⟨s0, s1, s2, s3, s4, s5, s6, s7, s8, s9⟩
        go_simp
        with_reducible rfl
       rotate_left
       ·simp only [Act.put, List.setIfInBounds_toArray, List.set_cons_zero, List.set_cons_succ, i64_w, i32_w]
        rfl
       refine pure_ (i := 4) (N := some 47) (v := ?_) (a' := ?_) #[true, true, true, true, true, false, false, false, false, false, false, false, false, false, false, false, false, false, false, false] rfl rfl (any_of HT_.out (by kernel_rfl)) (fun _ _ _ h => h) (Or.inl ⟨by rfl, ?_⟩) ?_ ?_
       rotate_left
       ·intro w'
        go_simp
        with_reducible rfl
       rotate_left
       ·simp only [Act.put, List.setIfInBounds_toArray, List.set_cons_zero, List.set_cons_succ, i64_w, i32_w]
        rfl
       refine pure_ (i := 5) (N := some 48) (v := ?_) (a' := ?_) #[true, true, true, true, true, true, false, false, false, false, false, false, false, false, false, false, false, false, false, false] rfl rfl (any_of HT_.out (by kernel_rfl)) (fun _ _ _ h => h) (Or.inl ⟨by rfl, ?_⟩) ?_ ?_
       rotate_left
       ·intro w'
        go_simp
        with_reducible rfl
       rotate_left
       ·simp only [Act.put, List.setIfInBounds_toArray, List.set_cons_zero, List.set_cons_succ, i64_w, i32_w]
        rfl
       refine pure_ (i := 6) (N := some 49) (v := ?_) (a' := ?_) #[true, true, true, true, true, true, true, false, false, false, false, false, false, false, false, false, false, false, false, false] rfl rfl (any_of HT_.out (by kernel_rfl)) (fun _ _ _ h => h) (Or.inl ⟨by rfl, ?_⟩) ?_ ?_
       rotate_left
       ·intro w'
        go_simp
        with_reducible rfl
       rotate_left
       ·simp only [Act.put, List.setIfInBounds_toArray, List.set_cons_zero, List.set_cons_succ, i64_w, i32_w]
        rfl
       refine pure_ (i := 7) (N := some 50) (v := ?_) (a' := ?_) #[true, true, true, true, true, true, true, true, false, false, false, false, false, false, false, false, false, false, false, false] rfl rfl (any_of HT_.out (by kernel_rfl)) (fun _ _ _ h => h) (Or.inl ⟨by rfl, ?_⟩) ?_ ?_
       rotate_left
       ·intro w'
        go_simp
        with_reducible rfl
       rotate_left
       ·simp only [Act.put, List.setIfInBounds_toArray, List.set_cons_zero, List.set_cons_succ, i64_w, i32_w]
        rfl
       refine pure_ (i := 8) (N := some 51) (v := ?_) (a' := ?_) #[true, true, true, true, true, true, true, true, true, false, false, false, false, false, false, false, false, false, false, false] rfl rfl (any_of HT_.out (by kernel_rfl)) (fun _ _ _ h => h) (Or.inl ⟨by rfl, ?_⟩) ?_ ?_
       rotate_left
       ·intro w'
        go_simp
        with_reducible rfl
       rotate_left
       ·simp only [Act.put, List.setIfInBounds_toArray, List.set_cons_zero, List.set_cons_succ, i64_w, i32_w]
        rfl
       refine take_ (i := 9) (N := some 52) (v := ?_) (a' := ?_) #[true, true, true, true, true, true, true, true, true, true, false, false, false, false, false, false, false, false, false, false] rfl rfl (take_ofW HT_.out HW_.out (by kernel_rfl)) (fun _ _ _ h => h) (Or.inl ⟨by rfl, ?_⟩) hHeld ?_ ?_
       rotate_left
       ·rintro w' ⟨s0, s1, s2, s3, s4, s5, s6, s7, s8, s9⟩
        go_simp
        with_reducible rfl
       rotate_left
       ·simp only [Act.put, List.setIfInBounds_toArray, List.set_cons_zero, List.set_cons_succ, i64_w, i32_w]
        rfl
       refine one_ (i := 10) (N := some 53) #[true, true, true, true, true, true, true, true, true, true, true, false, false, false, false, false, false, false, false, false] rfl rfl (one_of HT_.out (by kernel_rfl)) (by decide) (fun K hK => ?_)
       refine goes_ Try.func17 (by kernel_rfl) rfl #[.agg #[.int .i64 t407, .int .i64 t410, .int .i64 x414002_3, .int .i64 x414003_3, .slice Ao50 x414004_3.length co50, .slice Ao51 x414005_3.length co51, .slice Ao52 x414006_3.length co52, .string x414007_3]] (by rfl) rfl rfl mt ?_
       with_reducible refine (impl_MsgOk.calls kj3 t407 t410 x414002_3 x414003_3 _ _ x414004_3 _ _ x414005_3 _ _ x414006_3 x414007_3 false _ ?side1 ?side2 ?side3 ?side4 ?side5 ?side6 A38.out).mono ?_
       (case side1 => repeat (first | exact (Kd.R_reads' HO_414004.out).2.2 | (with_reducible refine Kd.C_alloc ?_ _) | (with_reducible refine Kd.C_drewN ?_ _) | (with_reducible refine Kd.C_drew ?_)))
       (case side2 => exact (Kd.R_reads' HO_414004.out).2.1)
       (case side3 => repeat (first | exact (Kd.R_reads' HO_414005.out).2.2 | (with_reducible refine Kd.C_alloc ?_ _) | (with_reducible refine Kd.C_drewN ?_ _) | (with_reducible refine Kd.C_drew ?_)))
       (case side4 => exact (Kd.R_reads' HO_414005.out).2.1)
       (case side5 => repeat (first | exact (Kd.R_reads' HO_414006.out).2.2 | (with_reducible refine Kd.C_alloc ?_ _) | (with_reducible refine Kd.C_drewN ?_ _) | (with_reducible refine Kd.C_drew ?_)))
       (case side6 => exact (Kd.R_reads' HO_414006.out).2.1)
       rintro e w53 ⟨rfl, hb⟩
       refine ⟨_, rfl, ?_⟩
       have n0_ := Aside0.mk (Kd.R_below (by refine rs ?_; exact HO_414004.out) hb)
       have n1_ := Aside0.mk (Kd.R_below (by refine rs ?_; exact HO_414005.out) hb)
       have n2_ := Aside0.mk (Kd.R_below (by refine rs ?_; exact HO_414006.out) hb)
       have n3_ := Aside0.mk (blk_below (bo BK405) hb)
       have n4_ := Aside0.mk (blk_below (bo BK413) hb)
       have n5_ := Aside0.mk (IsS51.below (iz HI406) hb)
       have n6_ := Aside0.mk (below_step bz hb)
       clear HO_414004
       clear HO_414005
       clear HO_414006
       clear BK405
       clear BK413
       clear HI406
       clear HB
       have HO_414004 := n0_
       have HO_414005 := n1_
       have HO_414006 := n2_
       have BK405 := n3_
       have BK413 := n4_
       have HI406 := n5_
       have HB := n6_
       clear n0_ n1_ n2_ n3_ n4_ n5_ n6_
       (try clear hb)
       (try clear hb2)
       (try clear hk)
       (try clear hi)
       refine hK.out _ _ ⟨(blk_cell HI406.out.1 0).trans rfl, (blk_cell HI406.out.1 1).trans rfl, (blk_cell BK413.out 0).trans rfl, (blk_cell BK413.out 1).trans rfl, (blk_cell BK413.out 2).trans rfl, (blk_cell BK413.out 3).trans rfl, (blk_cell BK413.out 4).trans rfl, (blk_cell BK413.out 5).trans rfl, (blk_cell BK413.out 6).trans rfl, (blk_cell BK413.out 7).trans rfl⟩ (fun hHeld => ?_)
       clear hK K
       refine norm_ (a' := ?_) ?_ ?_
       rotate_left
       ·show Act.put _ (some 53) _ = _
        simp only [Act.put, List.setIfInBounds_toArray, List.set_cons_zero, List.set_cons_succ, i64_w, i32_w]
        rfl
       refine pure_ (i := 11) (N := some 54) (v := ?_) (a' := ?_) #[true, true, true, true, true, true, true, true, true, true, true, true, false, false, false, false, false, false, false, false] rfl rfl (any_of HT_.out (by kernel_rfl)) (fun _ _ _ h => h) (Or.inl ⟨by rfl, ?_⟩) ?_ ?_
       rotate_left
       ·intro w'
        go_simp
        with_reducible rfl
       rotate_left
       ·simp only [Act.put, List.setIfInBounds_toArray, List.set_cons_zero, List.set_cons_succ, i64_w, i32_w]
        rfl
       refine pure_ (i := 12) (N := some 55) (v := ?_) (a' := ?_) #[true, true, true, true, true, true, true, true, true, true, true, true, true, false, false, false, false, false, false, false] rfl rfl (any_of HT_.out (by kernel_rfl)) (fun _ _ _ h => h) (Or.inl ⟨by rfl, ?_⟩) ?_ ?_
       rotate_left
       ·intro w'
        go_simp
        with_reducible rfl
       rotate_left
       ·simp only [Act.put, List.setIfInBounds_toArray, List.set_cons_zero, List.set_cons_succ, i64_w, i32_w]
        rfl
       refine pure_ (i := 13) (N := some 56) (v := ?_) (a' := ?_) #[true, true, true, true, true, true, true, true, true, true, true, true, true, true, false, false, false, false, false, false] rfl rfl (any_of HT_.out (by kernel_rfl)) (fun _ _ _ h => h) (Or.inl ⟨by rfl, ?_⟩) ?_ ?_
       rotate_left
       ·intro w'
        go_simp
        with_reducible rfl
       rotate_left
       ·simp only [Act.put, List.setIfInBounds_toArray, List.set_cons_zero, List.set_cons_succ, i64_w, i32_w]
        rfl
       refine pure_ (i := 14) (N := some 57) (v := undef) (a' := ?_) #[true, true, true, true, true, true, true, true, true, true, true, true, true, true, true, false, false, false, false, false] rfl rfl (any_of HT_.out (by kernel_rfl)) (fun _ _ _ h => h) (Or.inr ⟨by rfl, rfl⟩) ?_ ?_
       rotate_left
       ·simp only [Act.put, List.setIfInBounds_toArray, List.set_cons_zero, List.set_cons_succ, i64_w, i32_w]
        rfl
       refine pure_ (i := 15) (N := some 58) (v := undef) (a' := ?_) #[true, true, true, true, true, true, true, true, true, true, true, true, true, true, true, true, false, false, false, false] rfl rfl (any_of HT_.out (by kernel_rfl)) (fun _ _ _ h => h) (Or.inr ⟨by rfl, rfl⟩) ?_ ?_
       rotate_left
       ·simp only [Act.put, List.setIfInBounds_toArray, List.set_cons_zero, List.set_cons_succ, i64_w, i32_w]
        rfl
       refine pure_ (i := 16) (N := some 59) (v := undef) (a' := ?_) #[true, true, true, true, true, true, true, true, true, true, true, true, true, true, true, true, true, false, false, false] rfl rfl (any_of HT_.out (by kernel_rfl)) (fun _ _ _ h => h) (Or.inr ⟨by rfl, rfl⟩) ?_ ?_
       rotate_left
       ·simp only [Act.put, List.setIfInBounds_toArray, List.set_cons_zero, List.set_cons_succ, i64_w, i32_w]
        rfl
       refine pure_ (i := 17) (N := some 60) (v := undef) (a' := ?_) #[true, true, true, true, true, true, true, true, true, true, true, true, true, true, true, true, true, true, false, false] rfl rfl (any_of HT_.out (by kernel_rfl)) (fun _ _ _ h => h) (Or.inr ⟨by rfl, rfl⟩) ?_ ?_
       rotate_left
       ·simp only [Act.put, List.setIfInBounds_toArray, List.set_cons_zero, List.set_cons_succ, i64_w, i32_w]
        rfl
       refine pure_ (i := 18) (N := some 61) (v := undef) (a' := ?_) #[true, true, true, true, true, true, true, true, true, true, true, true, true, true, true, true, true, true, true, false] rfl rfl (any_of HT_.out (by kernel_rfl)) (fun _ _ _ h => h) (Or.inr ⟨by rfl, rfl⟩) ?_ ?_
       rotate_left
       ·simp only [Act.put, List.setIfInBounds_toArray, List.set_cons_zero, List.set_cons_succ, i64_w, i32_w]
        rfl
       refine pure_ (i := 19) (N := some 62) (v := ?_) (a' := ?_) #[true, true, true, true, true, true, true, true, true, true, true, true, true, true, true, true, true, true, true, true] rfl rfl (any_of HT_.out (by kernel_rfl)) (fun _ _ _ h => h) (Or.inl ⟨by rfl, ?_⟩) ?_ ?_
       rotate_left
       ·intro w'
        go_simp
        with_reducible rfl
       rotate_left
       ·simp only [Act.put, List.setIfInBounds_toArray, List.set_cons_zero, List.set_cons_succ, i64_w, i32_w]
        rfl
       refine done_ (done_of HT_.out (by kernel_rfl)) ?_
       try go_wp2
       go_meet
       case rel => exact ⟨_, (true), sd, H', ⟨by have := HJ3.out; first | omega | exact Nat.le_refl _⟩, ⟨by refine rs ?_; exact HO_414004.out⟩, ⟨by refine rs ?_; exact HO_414005.out⟩, ⟨by refine rs ?_; exact HO_414006.out⟩, ⟨(bo BK405)⟩, ⟨(bo BK413)⟩, ⟨bz⟩⟩
     ·replace c37 := Bool.eq_false_iff.mpr c37
      subst c37
      have H1 : (impl_GetMsg.j1 kj3 true t407 t410 x414002_3 x414003_3 x414004_3 x414005_3 x414006_3 x414007_3) = some (r1, r2, r3, r4, r5, r6, r7, r8, r9) := by rw [if_neg (show ¬ (false = true) by decide)] at H; exact H
      clear H
      have H := H1
      clear H1
      have H' := Aside0.mk H
      clear H
      try go_wp2
      have n0_ := Aside0.mk (Kd.R_drew HO_414004.out)
      have n1_ := Aside0.mk (Kd.R_drew HO_414005.out)
      have n2_ := Aside0.mk (Kd.R_drew HO_414006.out)
      have n3_ := Aside0.mk (blk_drew BK405.out)
      have n4_ := Aside0.mk (blk_drew BK413.out)
      have n5_ := Aside0.mk (IsS51.drew HI406.out)
      have n6_ := Aside0.mk (below_drew1 HB.out)
      clear HO_414004
      clear HO_414005
      clear HO_414006
      clear BK405
      clear BK413
      clear HI406
      clear HB
      have HO_414004 := n0_
      have HO_414005 := n1_
      have HO_414006 := n2_
      have BK405 := n3_
      have BK413 := n4_
      have HI406 := n5_
      have HB := n6_
      clear n0_ n1_ n2_ n3_ n4_ n5_ n6_
      refine start_ (n := 20) (S := fun w' => w'.cell? ⟨g406, 0, none⟩ = some (.string x407000_3) ∧ w'.cell? ⟨g406, 1, none⟩ = some (.bool false)) (ds := []) #[false, false, false, false, false, false, false, false, false, false, false, false, false, false, false, false, false, false, false, false] (by kernel_rfl) rfl rfl ⟨(blk_cell HI406.out.1 0).trans rfl, (blk_cell HI406.out.1 1).trans rfl⟩ (fun hHeld => ?_); refine with_tabW impl_GetMsg.tab10 impl_GetMsg.bits10 (fun HT_ HW_ => ?_)
      generalize wc.drew = w54 at HO_414004 HO_414005 HO_414006 BK405 BK413 HI406 HB hHeld ⊢
      refine pure_ (i := 0) (N := some 43) (v := ?_) (a' := ?_) #[true, false, false, false, false, false, false, false, false, false, false, false, false, false, false, false, false, false, false, false] rfl rfl (any_of HT_.out (by kernel_rfl)) (fun _ _ _ h => h) (Or.inl ⟨by rfl, ?_⟩) ?_ ?_
      rotate_left
      ·intro w'
       go_simp
       with_reducible rfl
      rotate_left
      ·simp only [Act.put, List.setIfInBounds_toArray, List.set_cons_zero, List.set_cons_succ, i64_w, i32_w]
       rfl
      refine pure_ (i := 1) (N := some 44) (v := ?_) (a' := ?_) #[true, true, false, false, false, false, false, false, false, false, false, false, false, false, false, false, false, false, false, false] rfl rfl (any_of HT_.out (by kernel_rfl)) (fun _ _ _ h => h) (Or.inl ⟨by rfl, ?_⟩) ?_ ?_
      rotate_left
      ·intro w'
       go_simp
       with_reducible rfl
      rotate_left
      ·simp only [Act.put, List.setIfInBounds_toArray, List.set_cons_zero, List.set_cons_succ, i64_w, i32_w]
       rfl
      refine pure_ (i := 2) (N := some 45) (v := ?_) (a' := ?_) #[true, true, true, false, false, false, false, false, false, false, false, false, false, false, false, false, false, false, false, false] rfl rfl (any_of HT_.out (by kernel_rfl)) (fun _ _ _ h => h) (Or.inl ⟨by rfl, ?_⟩) ?_ ?_
      rotate_left
      ·intro w'
       go_simp
       with_reducible rfl
      rotate_left
      ·simp only [Act.put, List.setIfInBounds_toArray, List.set_cons_zero, List.set_cons_succ, i64_w, i32_w]
       rfl
      refine take_ (i := 3) (N := some 46) (v := ?_) (a' := ?_) #[true, true, true, true, false, false, false, false, false, false, false, false, false, false, false, false, false, false, false, false] rfl rfl (take_ofW HT_.out HW_.out (by kernel_rfl)) (fun _ _ _ h => h) (Or.inl ⟨by rfl, ?_⟩) hHeld ?_ ?_
      rotate_left
      ·rintro w' ⟨s0, s1⟩
       go_simp
       with_reducible rfl
      rotate_left
      ·simp only [Act.put, List.setIfInBounds_toArray, List.set_cons_zero, List.set_cons_succ, i64_w, i32_w]
       rfl
      refine pure_ (i := 4) (N := some 47) (v := ?_) (a' := ?_) #[true, true, true, true, true, false, false, false, false, false, false, false, false, false, false, false, false, false, false, false] rfl rfl (any_of HT_.out (by kernel_rfl)) (fun _ _ _ h => h) (Or.inl ⟨by rfl, ?_⟩) ?_ ?_
      rotate_left
      ·intro w'
       go_simp
       with_reducible rfl
      rotate_left
      ·simp only [Act.put, List.setIfInBounds_toArray, List.set_cons_zero, List.set_cons_succ, i64_w, i32_w]
       rfl
      refine pure_ (i := 5) (N := some 48) (v := ?_) (a' := ?_) #[true, true, true, true, true, true, false, false, false, false, false, false, false, false, false, false, false, false, false, false] rfl rfl (any_of HT_.out (by kernel_rfl)) (fun _ _ _ h => h) (Or.inl ⟨by rfl, ?_⟩) ?_ ?_
      rotate_left
      ·intro w'
       go_simp
       with_reducible rfl
      rotate_left
      ·simp only [Act.put, List.setIfInBounds_toArray, List.set_cons_zero, List.set_cons_succ, i64_w, i32_w]
       rfl
      refine pure_ (i := 6) (N := some 49) (v := ?_) (a' := ?_) #[true, true, true, true, true, true, true, false, false, false, false, false, false, false, false, false, false, false, false, false] rfl rfl (any_of HT_.out (by kernel_rfl)) (fun _ _ _ h => h) (Or.inl ⟨by rfl, ?_⟩) ?_ ?_
      rotate_left
      ·intro w'
       go_simp
       with_reducible rfl
      rotate_left
      ·simp only [Act.put, List.setIfInBounds_toArray, List.set_cons_zero, List.set_cons_succ, i64_w, i32_w]
       rfl
      refine pure_ (i := 7) (N := some 50) (v := ?_) (a' := ?_) #[true, true, true, true, true, true, true, true, false, false, false, false, false, false, false, false, false, false, false, false] rfl rfl (any_of HT_.out (by kernel_rfl)) (fun _ _ _ h => h) (Or.inl ⟨by rfl, ?_⟩) ?_ ?_
      rotate_left
      ·intro w'
       go_simp
       with_reducible rfl
      rotate_left
      ·simp only [Act.put, List.setIfInBounds_toArray, List.set_cons_zero, List.set_cons_succ, i64_w, i32_w]
       rfl
      refine pure_ (i := 8) (N := some 51) (v := ?_) (a' := ?_) #[true, true, true, true, true, true, true, true, true, false, false, false, false, false, false, false, false, false, false, false] rfl rfl (any_of HT_.out (by kernel_rfl)) (fun _ _ _ h => h) (Or.inl ⟨by rfl, ?_⟩) ?_ ?_
      rotate_left
      ·intro w'
       go_simp
       with_reducible rfl
      rotate_left
      ·simp only [Act.put, List.setIfInBounds_toArray, List.set_cons_zero, List.set_cons_succ, i64_w, i32_w]
       rfl
      refine pure_ (i := 9) (N := some 52) (v := undef) (a' := ?_) #[true, true, true, true, true, true, true, true, true, true, false, false, false, false, false, false, false, false, false, false] rfl rfl (any_of HT_.out (by kernel_rfl)) (fun _ _ _ h => h) (Or.inr ⟨by rfl, rfl⟩) ?_ ?_
      rotate_left
      ·simp only [Act.put, List.setIfInBounds_toArray, List.set_cons_zero, List.set_cons_succ, i64_w, i32_w]
       rfl
      refine pure_ (i := 10) (N := some 53) (v := undef) (a' := ?_) #[true, true, true, true, true, true, true, true, true, true, true, false, false, false, false, false, false, false, false, false] rfl rfl (any_of HT_.out (by kernel_rfl)) (fun _ _ _ h => h) (Or.inr ⟨by rfl, rfl⟩) ?_ ?_
      rotate_left
      ·simp only [Act.put, List.setIfInBounds_toArray, List.set_cons_zero, List.set_cons_succ, i64_w, i32_w]
       rfl
      refine pure_ (i := 11) (N := some 54) (v := undef) (a' := ?_) #[true, true, true, true, true, true, true, true, true, true, true, true, false, false, false, false, false, false, false, false] rfl rfl (any_of HT_.out (by kernel_rfl)) (fun _ _ _ h => h) (Or.inr ⟨by rfl, rfl⟩) ?_ ?_
      rotate_left
      ·simp only [Act.put, List.setIfInBounds_toArray, List.set_cons_zero, List.set_cons_succ, i64_w, i32_w]
       rfl
      refine pure_ (i := 12) (N := some 55) (v := ?_) (a' := ?_) #[true, true, true, true, true, true, true, true, true, true, true, true, true, false, false, false, false, false, false, false] rfl rfl (any_of HT_.out (by kernel_rfl)) (fun _ _ _ h => h) (Or.inl ⟨by rfl, ?_⟩) ?_ ?_
      rotate_left
      ·intro w'
       go_simp
       with_reducible rfl
      rotate_left
      ·simp only [Act.put, List.setIfInBounds_toArray, List.set_cons_zero, List.set_cons_succ, i64_w, i32_w]
       rfl
      refine pure_ (i := 13) (N := some 56) (v := ?_) (a' := ?_) #[true, true, true, true, true, true, true, true, true, true, true, true, true, true, false, false, false, false, false, false] rfl rfl (any_of HT_.out (by kernel_rfl)) (fun _ _ _ h => h) (Or.inl ⟨by rfl, ?_⟩) ?_ ?_
      rotate_left
      ·intro w'
       go_simp
       with_reducible rfl
      rotate_left
      ·simp only [Act.put, List.setIfInBounds_toArray, List.set_cons_zero, List.set_cons_succ, i64_w, i32_w]
       rfl
      refine pure_ (i := 14) (N := some 57) (v := undef) (a' := ?_) #[true, true, true, true, true, true, true, true, true, true, true, true, true, true, true, false, false, false, false, false] rfl rfl (any_of HT_.out (by kernel_rfl)) (fun _ _ _ h => h) (Or.inr ⟨by rfl, rfl⟩) ?_ ?_
      rotate_left
      ·simp only [Act.put, List.setIfInBounds_toArray, List.set_cons_zero, List.set_cons_succ, i64_w, i32_w]
       rfl
      refine pure_ (i := 15) (N := some 58) (v := undef) (a' := ?_) #[true, true, true, true, true, true, true, true, true, true, true, true, true, true, true, true, false, false, false, false] rfl rfl (any_of HT_.out (by kernel_rfl)) (fun _ _ _ h => h) (Or.inr ⟨by rfl, rfl⟩) ?_ ?_
      rotate_left
      ·simp only [Act.put, List.setIfInBounds_toArray, List.set_cons_zero, List.set_cons_succ, i64_w, i32_w]
       rfl
      refine pure_ (i := 16) (N := some 59) (v := undef) (a' := ?_) #[true, true, true, true, true, true, true, true, true, true, true, true, true, true, true, true, true, false, false, false] rfl rfl (any_of HT_.out (by kernel_rfl)) (fun _ _ _ h => h) (Or.inr ⟨by rfl, rfl⟩) ?_ ?_
      rotate_left
      ·simp only [Act.put, List.setIfInBounds_toArray, List.set_cons_zero, List.set_cons_succ, i64_w, i32_w]
       rfl
      refine pure_ (i := 17) (N := some 60) (v := undef) (a' := ?_) #[true, true, true, true, true, true, true, true, true, true, true, true, true, true, true, true, true, true, false, false] rfl rfl (any_of HT_.out (by kernel_rfl)) (fun _ _ _ h => h) (Or.inr ⟨by rfl, rfl⟩) ?_ ?_
      rotate_left
      ·simp only [Act.put, List.setIfInBounds_toArray, List.set_cons_zero, List.set_cons_succ, i64_w, i32_w]
       rfl
      refine pure_ (i := 18) (N := some 61) (v := undef) (a' := ?_) #[true, true, true, true, true, true, true, true, true, true, true, true, true, true, true, true, true, true, true, false] rfl rfl (any_of HT_.out (by kernel_rfl)) (fun _ _ _ h => h) (Or.inr ⟨by rfl, rfl⟩) ?_ ?_
      rotate_left
      ·simp only [Act.put, List.setIfInBounds_toArray, List.set_cons_zero, List.set_cons_succ, i64_w, i32_w]
       rfl
      refine pure_ (i := 19) (N := some 62) (v := ?_) (a' := ?_) #[true, true, true, true, true, true, true, true, true, true, true, true, true, true, true, true, true, true, true, true] rfl rfl (any_of HT_.out (by kernel_rfl)) (fun _ _ _ h => h) (Or.inl ⟨by rfl, ?_⟩) ?_ ?_
      rotate_left
      ·intro w'
       go_simp
       with_reducible rfl
      rotate_left
      ·simp only [Act.put, List.setIfInBounds_toArray, List.set_cons_zero, List.set_cons_succ, i64_w, i32_w]
       rfl
      refine done_ (done_of HT_.out (by kernel_rfl)) ?_
      try go_wp2
      go_meet
      case rel => exact ⟨_, (true), sd, H', ⟨by have := HJ3.out; first | omega | exact Nat.le_refl _⟩, ⟨by refine rs ?_; exact HO_414004.out⟩, ⟨by refine rs ?_; exact HO_414005.out⟩, ⟨by refine rs ?_; exact HO_414006.out⟩, ⟨(bo BK405)⟩, ⟨(bo BK413)⟩, ⟨bz⟩⟩
   case rest =>
    clear HC34
    try clear c1
    try clear c2
    try clear p2
    try clear c3
    try clear hcv4
    try clear c17
    try clear c27
    try clear c37
    try clear c39
    try clear hcv46
    try clear hcv47
    obtain ⟨kq, x62_33, rfl, HA, HJ33, HO_414004, HO_414005, HO_414006, BK405, BK413, HB⟩ := hcut
    cases kq with
    | zero => exact absurd HA.out (by simp [impl_GetMsg.j1])
    | succ kj33 =>
     have H := HA.out
     clear HA
     simp only [impl_GetMsg.j1] at H
     by_cases c55 : x62_33 = true
     ·subst c55
      have H1 : (some (0, 0, 0, 0, ([] : List Int), ([] : List ByteArray), ([] : List (S72)), (⟨#[]⟩ : ByteArray), false)) = some (r1, r2, r3, r4, r5, r6, r7, r8, r9) := by rw [if_pos rfl] at H; exact H
      clear H
      have H := H1
      clear H1
      simp only [Option.some.injEq, Prod.mk.injEq] at H
      obtain ⟨rfl, rfl, rfl, rfl, rfl, rfl, rfl, rfl, rfl⟩ := H
      have hnb56 := NB405_413.out
      have hnc56 := NB413_405.out
      obtain ⟨hcz57_0, hcz57_1, hcz57_2, hcz57_3, hcz57_4, hcz57_5, hcz57_6, hcz57_7, hfz57_0, hfz57_1, hfz57_2, hfz57_3, hfz57_4, hfz57_5, hfz57_6, hfz57_7⟩ := bc8 BK405.out
      go_wp2
      refine bodyPost_ret (results_ct rfl _ _ gb405 29 #[.int .i64 0, .int .i64 0, .int .i64 0, .int .i64 0, .slice none 0 0, .slice none 0 0, .slice none 0 0, .string (⟨#[]⟩ : ByteArray)] (0, 0) _ rfl bk Try.underlying29 rfl (by kernel_rfl)) rfl ?_
      exact ⟨_, _, _, rq, nz, nz, nz, bz⟩
     ·replace c55 := Bool.eq_false_iff.mpr c55
      subst c55
      have H1 : (some (t407, t410, x414002_3, x414003_3, x414004_3, x414005_3, x414006_3, x414007_3, true)) = some (r1, r2, r3, r4, r5, r6, r7, r8, r9) := by rw [if_neg (show ¬ (false = true) by decide)] at H; exact H
      clear H
      have H := H1
      clear H1
      simp only [Option.some.injEq, Prod.mk.injEq] at H
      obtain ⟨rfl, rfl, rfl, rfl, rfl, rfl, rfl, rfl, rfl⟩ := H
      have hnb58 := NB413_405.out
      have hnc58 := NB405_413.out
      obtain ⟨hcz59_0, hcz59_1, hcz59_2, hcz59_3, hcz59_4, hcz59_5, hcz59_6, hcz59_7, hfz59_0, hfz59_1, hfz59_2, hfz59_3, hfz59_4, hfz59_5, hfz59_6, hfz59_7⟩ := bc8 BK413.out
      obtain ⟨hcz60_0, hcz60_1, hcz60_2, hcz60_3, hcz60_4, hcz60_5, hcz60_6, hcz60_7, hfz60_0, hfz60_1, hfz60_2, hfz60_3, hfz60_4, hfz60_5, hfz60_6, hfz60_7⟩ := bc8 BK405.out
      obtain ⟨Ao61, co61, eo61⟩ := Kd.R_slice HO_414004.out
      subst eo61
      obtain ⟨Ao62, co62, eo62⟩ := Kd.R_slice HO_414005.out
      subst eo62
      obtain ⟨Ao63, co63, eo63⟩ := Kd.R_slice HO_414006.out
      subst eo63
      go_wp2
      refine bodyPost_ret (results_ct rfl _ _ gb405 29 #[.int .i64 t407, .int .i64 t410, .int .i64 x414002_3, .int .i64 x414003_3, .slice Ao61 x414004_3.length co61, .slice Ao62 x414005_3.length co62, .slice Ao63 x414006_3.length co63, .string x414007_3] (0, 0) _ rfl bk Try.underlying29 rfl (by kernel_rfl)) rfl ?_
      exact ⟨_, _, _, rq, by refine rs ?_; exact Kd.R_mono (Kd.rf (Kd.rf (Kd.rf (Kd.rf (Kd.rf (Kd.rf (Kd.rf (Kd.rf (Kd.R_types HO_414004.out BK405.out (by decide)))))))))) (fun _ hk => trivial), by refine rs ?_; exact Kd.R_mono (Kd.rf (Kd.rf (Kd.rf (Kd.rf (Kd.rf (Kd.rf (Kd.rf (Kd.rf (Kd.R_types HO_414005.out BK405.out (by decide)))))))))) (fun _ hk => trivial), by refine rs ?_; exact Kd.R_mono (Kd.rf (Kd.rf (Kd.rf (Kd.rf (Kd.rf (Kd.rf (Kd.rf (Kd.rf (Kd.R_types HO_414006.out BK405.out (by decide)))))))))) (fun _ hk => trivial), bz⟩

end Go.Proofs.Ytjiaigjmihmdjaa.PFnExactGetMsg
