
/- The machine's side, written by a program of this session (a turned print): each function as a plain Lean function, and that the call comes to it. -/
import Derived.Test.YtjiaigjmihmdjaaPFnExactGetMsgx0
import Derived.Test.YtjiaigjmihmdjaaPFnExactGetMsgx7
import Derived.Test.YtjiaigjmihmdjaaPFnExactGetMsgx9
import Derived.Test.YtjiaigjmihmdjaaPFnExactGetMsgx10
namespace Go.Proofs.Ytjiaigjmihmdjaa.PFnExactGetMsg
open Go.RowKit Go.Proofs.YtjiaigjmihmdjaaW.PrintWords Go.Proofs.YtjiaigjmihmdjaaW.PrintLast Go.Proofs.YtjiaigjmihmdjaaW.PrintMore
attribute [local go_sem] max2_int min2_int max_two min_two max_three min_three max_four min_four   -- for this text's walks alone
set_option linter.unusedVariables false
set_option linter.unusedSimpArgs false

/-! ### impl_readSig: function 24 -/
mutual
def impl_readSig.l0 : Nat → Int → Int → ByteArray → Bool → Int → Int → List Int → List ByteArray → Option (Int × Int × List Int × List ByteArray × Bool)
 | 0, _, _, _, _, _, _, _, _ => none
 | k + 1, x6, x7, x342000, x342001, x349000, x349001, x349002, x349003 => if x7 < x6 then (if x7 ≤ 2500 then (impl_readSig.j1 k x6 x7 (!x342001) x342000 x342001 x349000 x349001 x349002 x349003) else (impl_readSig.j1 k x6 x7 false x342000 x342001 x349000 x349001 x349002 x349003)) else (impl_readSig.j1 k x6 x7 false x342000 x342001 x349000 x349001 x349002 x349003)
def impl_readSig.j1 : Nat → Int → Int → Bool → ByteArray → Bool → Int → Int → List Int → List ByteArray → Option (Int × Int × List Int × List ByteArray × Bool)
 | 0, _, _, _, _, _, _, _, _, _ => none
 | k + 1, x6, x7, x31, x342000, x342001, x349000, x349001, x349002, x349003 => if x31 = true then ((impl_reader_word.f x342000 x342001).bind fun bt352 => (if x349002.length < 35184372088832 then ((impl_reader_take.f bt352.2.1 bt352.2.2 4).bind fun bt358 => (if x349003.length < 8796093022208 then (impl_readSig.l0 k x6 (wrap64 (x7 + 1)) bt358.2.1 bt358.2.2 x349000 x349001 (x349002 ++ [bt352.1]) (x349003 ++ [bt358.1])) else (none))) else (none))) else (if x342001 = true then (impl_readSig.j2 k true x349000 x349001 x349002 x349003) else (if x342000.toList = ([] : List UInt8) then ((impl_SigOk.f k x349000 x349001 x349002 x349003).bind fun t364 => (if t364 = true then (impl_readSig.j2 k ((x349002.length : Int) != x6) x349000 x349001 x349002 x349003) else (impl_readSig.j2 k true x349000 x349001 x349002 x349003))) else (impl_readSig.j2 k true x349000 x349001 x349002 x349003)))
def impl_readSig.j2 : Nat → Bool → Int → Int → List Int → List ByteArray → Option (Int × Int × List Int × List ByteArray × Bool)
 | 0, _, _, _, _, _ => none
 | k + 1, x70, x349000, x349001, x349002, x349003 => if x70 = true then (some (0, 0, ([] : List Int), ([] : List ByteArray), false)) else (some (x349000, x349001, x349002, x349003, true))
end
def impl_readSig.f (k : Nat) (a0 : ByteArray) : Option (Int × Int × List Int × List ByteArray × Bool) := (impl_reader_number.f k a0 false).bind fun bt342 => ((impl_reader_number.f k bt342.2.1 bt342.2.2).bind fun bt345 => ((impl_reader_number.f k bt345.2.1 bt345.2.2).bind fun bt349 => (impl_readSig.l0 k bt349.1 0 bt349.2.1 bt349.2.2 bt342.1 bt345.1 ([] : List Int) ([] : List ByteArray))))
theorem impl_readSig.mono_l : ∀ k, (∀ y0 y1 y2 y3 y4 y5 y6 y7, LeO (impl_readSig.l0 k y0 y1 y2 y3 y4 y5 y6 y7) (impl_readSig.l0 (k + 1) y0 y1 y2 y3 y4 y5 y6 y7)) ∧ (∀ y0 y1 y2 y3 y4 y5 y6 y7 y8, LeO (impl_readSig.j1 k y0 y1 y2 y3 y4 y5 y6 y7 y8) (impl_readSig.j1 (k + 1) y0 y1 y2 y3 y4 y5 y6 y7 y8)) ∧ (∀ y0 y1 y2 y3 y4, LeO (impl_readSig.j2 k y0 y1 y2 y3 y4) (impl_readSig.j2 (k + 1) y0 y1 y2 y3 y4))
 | 0 => ⟨fun _ _ _ _ _ _ _ _ r h => by simp [impl_readSig.l0] at h, fun _ _ _ _ _ _ _ _ _ r h => by simp [impl_readSig.j1] at h, fun _ _ _ _ _ r h => by simp [impl_readSig.j2] at h⟩
 | k + 1 => by
  obtain ⟨ih0, ih1, ih2⟩ := impl_readSig.mono_l k
  refine ⟨?_, ?_, ?_⟩
  ·intro y0 y1 y2 y3 y4 y5 y6 y7
   unfold impl_readSig.l0
   repeat' first | (with_reducible first | exact ih0 _ _ _ _ _ _ _ _ | exact ih1 _ _ _ _ _ _ _ _ _ | exact ih2 _ _ _ _ _ | exact impl_SigOk.mono _ _ _ _ _ | exact impl_reader_number.mono _ _ _ | exact LeO.refl _ | exact LeO.none _ | refine LeO.ite ?_ ?_ | refine LeO.bind ?_ (fun _ => ?_)) | exact ih0 _ _ _ _ _ _ _ _ | exact ih1 _ _ _ _ _ _ _ _ _ | exact ih2 _ _ _ _ _ | exact impl_SigOk.mono _ _ _ _ _ | exact impl_reader_number.mono _ _ _ | exact LeO.none _ | refine LeO.ite ?_ ?_ | refine LeO.bind ?_ (fun _ => ?_)
  ·intro y0 y1 y2 y3 y4 y5 y6 y7 y8
   unfold impl_readSig.j1
   repeat' first | (with_reducible first | exact ih0 _ _ _ _ _ _ _ _ | exact ih1 _ _ _ _ _ _ _ _ _ | exact ih2 _ _ _ _ _ | exact impl_SigOk.mono _ _ _ _ _ | exact impl_reader_number.mono _ _ _ | exact LeO.refl _ | exact LeO.none _ | refine LeO.ite ?_ ?_ | refine LeO.bind ?_ (fun _ => ?_)) | exact ih0 _ _ _ _ _ _ _ _ | exact ih1 _ _ _ _ _ _ _ _ _ | exact ih2 _ _ _ _ _ | exact impl_SigOk.mono _ _ _ _ _ | exact impl_reader_number.mono _ _ _ | exact LeO.none _ | refine LeO.ite ?_ ?_ | refine LeO.bind ?_ (fun _ => ?_)
  ·intro y0 y1 y2 y3 y4
   unfold impl_readSig.j2
   repeat' first | (with_reducible first | exact ih0 _ _ _ _ _ _ _ _ | exact ih1 _ _ _ _ _ _ _ _ _ | exact ih2 _ _ _ _ _ | exact impl_SigOk.mono _ _ _ _ _ | exact impl_reader_number.mono _ _ _ | exact LeO.refl _ | exact LeO.none _ | refine LeO.ite ?_ ?_ | refine LeO.bind ?_ (fun _ => ?_)) | exact ih0 _ _ _ _ _ _ _ _ | exact ih1 _ _ _ _ _ _ _ _ _ | exact ih2 _ _ _ _ _ | exact impl_SigOk.mono _ _ _ _ _ | exact impl_reader_number.mono _ _ _ | exact LeO.none _ | refine LeO.ite ?_ ?_ | refine LeO.bind ?_ (fun _ => ?_)
theorem impl_readSig.mono : ∀ a0 k, LeO (impl_readSig.f k a0) (impl_readSig.f (k + 1) a0) := by
 intro a0 k
 obtain ⟨ih0, ih1, ih2⟩ := impl_readSig.mono_l k
 unfold impl_readSig.f
 repeat' first | (with_reducible first | exact ih0 _ _ _ _ _ _ _ _ | exact ih1 _ _ _ _ _ _ _ _ _ | exact ih2 _ _ _ _ _ | exact impl_SigOk.mono _ _ _ _ _ | exact impl_reader_number.mono _ _ _ | exact LeO.refl _ | exact LeO.none _ | refine LeO.ite ?_ ?_ | refine LeO.bind ?_ (fun _ => ?_)) | exact ih0 _ _ _ _ _ _ _ _ | exact ih1 _ _ _ _ _ _ _ _ _ | exact ih2 _ _ _ _ _ | exact impl_SigOk.mono _ _ _ _ _ | exact impl_reader_number.mono _ _ _ | exact LeO.none _ | refine LeO.ite ?_ ?_ | refine LeO.bind ?_ (fun _ => ?_)
def impl_readSig.T7 : Bool × List (List Nat × List Nat) := (true, [([], []), ([0], [0]), ([], []), ([2], [2]), ([3], [3]), ([1, 4, 3], [1, 4]), ([], []), ([6], [6]), ([], []), ([8, 5], [8]), ([9], [9]), ([7, 10, 9], [7, 10]), ([0, 1, 2, 3, 4, 5, 6, 7], []), ([12, 5, 11, 0, 1, 2, 3, 4, 5, 6, 7], [5, 12]), ([0, 1, 2, 3, 4, 5, 6, 7, 8, 9, 10, 11, 12, 13], []), ([14, 11, 13, 0, 1, 2, 3, 4, 5, 6, 7, 8, 9, 10, 11, 12, 13], [11, 14])])
def impl_readSig.B7 : List Nat := [0, 1, 0, 4, 12, 31, 0, 64, 0, 319, 831, 2047, 255, 8191, 16383, 32767]
theorem impl_readSig.tab7 : rtab .any (opsOf Try.f24 7) = impl_readSig.T7 := by kernel_rfl
theorem impl_readSig.bits7 : waitsOk impl_readSig.T7.2 impl_readSig.B7 = true := by kernel_rfl
set_option maxHeartbeats 8000000 in
set_option maxRecDepth 100000 in
theorem impl_readSig.calls (k : Nat) (a0 : ByteArray) (r1 : Int) (r2 : Int) (r3 : List Int) (r4 : List ByteArray) (r5 : Bool) (w : World) (h : impl_readSig.f k a0 = some (r1, r2, r3, r4, r5)) :
  Calls Try.prog 24 #[.string a0] w fun e w' => ∃ v2_ v3_ : Value, e = .returned (.tuple #[.agg #[.int .i64 r1, .int .i64 r2, v2_, v3_], .bool r5]) ∧ Kd.R (Kd.int .u32) 60 w' w.heap.size (fun _ => True) v2_ r3 ∧ Kd.R Kd.string 9 w' w.heap.size (fun _ => True) v3_ r4 ∧ Below w.heap.size w w' := by
 have hu26 := Try.underlying26
 have hu51 := Try.underlying51
 have HB := Aside0.mk (Below.refl w.heap.size w)
 have H : ((impl_reader_number.f k a0 false).bind fun bt342 => ((impl_reader_number.f k bt342.2.1 bt342.2.2).bind fun bt345 => ((impl_reader_number.f k bt345.2.1 bt345.2.2).bind fun bt349 => (impl_readSig.l0 k bt349.1 0 bt349.2.1 bt349.2.2 bt342.1 bt345.1 ([] : List Int) ([] : List ByteArray))))) = some (r1, r2, r3, r4, r5) := h
 clear h
 replace H := Option.bind_eq_some_iff.mp H
 obtain ⟨⟨t342, t343, t344⟩, A20, H⟩ := H
 try dsimp -simprocs only at H
 have A2 := Aside0.mk A20
 clear A20
 replace H := Option.bind_eq_some_iff.mp H
 obtain ⟨⟨t345, t346, t347⟩, A30, H⟩ := H
 try dsimp -simprocs only at H
 have A3 := Aside0.mk A30
 clear A30
 replace H := Option.bind_eq_some_iff.mp H
 obtain ⟨⟨t349, t350, t351⟩, A40, H⟩ := H
 try dsimp -simprocs only at H
 have A4 := Aside0.mk A40
 clear A40
 have H' := Aside0.mk H
 clear H
 go_enter Try.func24, Try.ntmps24
 go_wp2_with (first | ((with_reducible refine gate_dst (N := 2) rfl ?_); (try (refine gate_guard (by rfl) ?_; dsimp only)); refine box_event ?hg (N := 2) ?hd (cs := #[.int .i64 0, .int .i64 0, .slice none 0 0, .slice none 0 0]) (t := 26) ?hr ?_; (case hd => rfl); (case hg => rfl); (case hr => first | (go_simp; done) | (go_simp; rfl)); intro gb340 hg w5 hbox hb; have n0_ := Aside0.mk (below_step bz hb); have n1_ := Aside0.mk (hbox); have n2_ := Aside0.mk (bg : w.heap.size ≤ gb340); have n3_ := Aside0.mk (bg : w.heap.size ≤ gb340); clear HB; have HB := n0_; have BK340 := n1_; have GW340 := n2_; have GE340 := n3_; clear n0_ n1_ n2_ n3_; clear hb hbox hg) | ((with_reducible refine gate_dst (N := 10) rfl ?_); (try (refine gate_guard (by rfl) ?_; dsimp only)); refine box_event ?hg (N := 10) ?hd (cs := #[.string a0, .bool false]) (t := 51) ?hr ?_; (case hd => rfl); (case hg => rfl); (case hr => first | (go_simp; done) | (go_simp; rfl)); intro g341 hg w6 hbox hb; have n0_ := Aside0.mk (blk_below (bo BK340) hb); have n1_ := Aside0.mk ((by rw [hg]; exact Nat.ne_of_lt (blk_lt (bo BK340)) : gb340 ≠ g341)); have n2_ := Aside0.mk ((by rw [hg]; exact Nat.ne_of_gt (blk_lt (bo BK340)) : g341 ≠ gb340)); have n3_ := Aside0.mk (below_step bz hb); have n4_ := Aside0.mk ((show IsS51 w w6 g341 a0 false from ⟨hbox, (by rw [hg]; exact (below_size bz))⟩)); clear BK340; clear HB; have BK340 := n0_; have NB340_341 := n1_; have NB341_340 := n2_; have HB := n3_; have HI341 := n4_; clear n0_ n1_ n2_ n3_ n4_; clear hb hbox hg) | ((with_reducible refine gate_callee (f := 23) rfl ?_); refine goesL_ (some 12) rfl rfl Try.func23 (by kernel_rfl) rfl #[.pointer (some ⟨g341, 0, none⟩)] rfl mt ?_; (with_reducible refine (impl_reader_number.calls k g341 a0 false t342 t343 t344 w _ ?side1 ?side2 A2.out).mono ?_); (case side1 => repeat (first | (with_reducible first | exact HI341.out | apply IsS51.alloc | apply IsS51.drewN | apply IsS51.drew | apply IsS51.set_0 | apply IsS51.set_1 | refine IsS51.far ?_ NB341_340.out _) | exact HI341.out)); (case side2 => repeat (first | (with_reducible first | exact HB.out | apply below_alloc | apply pw_below_drewN | apply below_drew1 | refine below_set ?_ (IsS51.ge HI341.out) | refine below_set ?_ GE340.out) | exact HB.out)); rintro e w7 ⟨rfl, hi, hb, hk⟩; refine ⟨_, rfl, ?_⟩; have n0_ := Aside0.mk (KeepBut.blk hk (g' := gb340) (o := .cells #[.int .i64 0, .int .i64 0, .slice none 0 0, .slice none 0 0] 26 (0, 0)) (bo BK340) NB340_341.out (by simp)); have n1_ := Aside0.mk (hb); have n2_ := Aside0.mk (hi); clear BK340; clear HB; clear HI341; have BK340 := n0_; have HB := n1_; have HI341 := n2_; clear n0_ n1_ n2_; (try clear hb); (try clear hb2); (try clear hk); (try clear hi)) | ((with_reducible refine gate_callee (f := 23) rfl ?_); refine goesL_ (some 14) rfl rfl Try.func23 (by kernel_rfl) rfl #[.pointer (some ⟨g341, 0, none⟩)] rfl mt ?_; (with_reducible refine (impl_reader_number.calls k g341 t343 t344 t345 t346 t347 w _ ?side1 ?side2 A3.out).mono ?_); (case side1 => repeat (first | (with_reducible first | exact HI341.out | apply IsS51.alloc | apply IsS51.drewN | apply IsS51.drew | apply IsS51.set_0 | apply IsS51.set_1 | refine IsS51.far ?_ NB341_340.out _) | exact HI341.out)); (case side2 => repeat (first | (with_reducible first | exact HB.out | apply below_alloc | apply pw_below_drewN | apply below_drew1 | refine below_set ?_ (IsS51.ge HI341.out) | refine below_set ?_ GE340.out) | exact HB.out)); rintro e w8 ⟨rfl, hi, hb, hk⟩; refine ⟨_, rfl, ?_⟩; have n0_ := Aside0.mk (KeepBut.blk hk (g' := gb340) (o := .cells #[.int .i64 0, .int .i64 0, .slice none 0 0, .slice none 0 0] 26 (0, 0)) (bo BK340) NB340_341.out (by simp)); have n1_ := Aside0.mk (hb); have n2_ := Aside0.mk (hi); clear BK340; clear HB; clear HI341; have BK340 := n0_; have HB := n1_; have HI341 := n2_; clear n0_ n1_ n2_; (try clear hb); (try clear hb2); (try clear hk); (try clear hi)) | ((with_reducible refine gate_dst (N := 5) rfl ?_); (try (refine gate_guard (by rfl) ?_; dsimp only)); refine box_event ?hg (N := 5) ?hd (cs := #[.int .i64 0, .int .i64 0, .slice none 0 0, .slice none 0 0]) (t := 26) ?hr ?_; (case hd => rfl); (case hg => rfl); (case hr => first | (go_simp; done) | (go_simp; rfl)); intro gb348 hg w9 hbox hb; have n0_ := Aside0.mk (blk_below (bo BK340) hb); have n1_ := Aside0.mk (IsS51.below (iz HI341) hb); have n2_ := Aside0.mk (below_step bz hb); have n3_ := Aside0.mk (hbox); have n4_ := Aside0.mk (bg : w.heap.size ≤ gb348); have n5_ := Aside0.mk (bg : w.heap.size ≤ gb348); have n6_ := Aside0.mk ((by rw [hg]; exact Nat.ne_of_lt (blk_lt (bo BK340)) : gb340 ≠ gb348)); have n7_ := Aside0.mk ((by rw [hg]; exact Nat.ne_of_gt (blk_lt (bo BK340)) : gb348 ≠ gb340)); have n8_ := Aside0.mk ((by rw [hg]; exact Nat.ne_of_lt (IsS51.lt (show IsS51 w _ g341 t346 t347 from iz HI341)) : g341 ≠ gb348)); have n9_ := Aside0.mk ((by rw [hg]; exact Nat.ne_of_gt (IsS51.lt (show IsS51 w _ g341 t346 t347 from iz HI341)) : gb348 ≠ g341)); clear BK340; clear HI341; clear HB; have BK340 := n0_; have HI341 := n1_; have HB := n2_; have BK348 := n3_; have GW348 := n4_; have GE348 := n5_; have NB340_348 := n6_; have NB348_340 := n7_; have NB341_348 := n8_; have NB348_341 := n9_; clear n0_ n1_ n2_ n3_ n4_ n5_ n6_ n7_ n8_ n9_; clear hb hbox hg; have hnb10 := NB348_340.out; have hnc10 := NB340_348.out; have hnb11 := NB348_341.out; have hnc11 := NB341_348.out; obtain ⟨hcz12_0, hcz12_1, hcz12_2, hcz12_3, hfz12_0, hfz12_1, hfz12_2, hfz12_3⟩ := bc4 BK348.out) | ((with_reducible refine gate_callee (f := 23) rfl ?_); refine goesL_ (some 17) rfl rfl Try.func23 (by kernel_rfl) rfl #[.pointer (some ⟨g341, 0, none⟩)] rfl mt ?_; (with_reducible refine (impl_reader_number.calls k g341 t346 t347 t349 t350 t351 w _ ?side1 ?side2 A4.out).mono ?_); (case side1 => repeat (first | (with_reducible first | exact HI341.out | apply IsS51.alloc | apply IsS51.drewN | apply IsS51.drew | apply IsS51.set_0 | apply IsS51.set_1 | refine IsS51.far ?_ NB341_340.out _ | refine IsS51.far ?_ NB341_348.out _) | exact HI341.out)); (case side2 => repeat (first | (with_reducible first | exact HB.out | apply below_alloc | apply pw_below_drewN | apply below_drew1 | refine below_set ?_ (IsS51.ge HI341.out) | refine below_set ?_ GE340.out | refine below_set ?_ GE348.out) | exact HB.out)); rintro e w13 ⟨rfl, hi, hb, hk⟩; refine ⟨_, rfl, ?_⟩; have n0_ := Aside0.mk (KeepBut.blk hk (g' := gb340) (o := .cells #[.int .i64 0, .int .i64 0, .slice none 0 0, .slice none 0 0] 26 (0, 0)) (bo BK340) NB340_341.out (by simp)); have n1_ := Aside0.mk (KeepBut.blk hk (g' := gb348) (o := .cells #[.int .i64 t342, .int .i64 t345, .slice none 0 0, .slice none 0 0] 26 (0, 0)) bk NB348_341.out (by simp)); have n2_ := Aside0.mk (hb); have n3_ := Aside0.mk (hi); clear BK340; clear BK348; clear HB; clear HI341; have BK340 := n0_; have BK348 := n1_; have HB := n2_; have HI341 := n3_; clear n0_ n1_ n2_ n3_; (try clear hb); (try clear hb2); (try clear hk); (try clear hi)))
 go_loopg [7] k (fun kq v7 w' => ∃ (x7_1 : Int) (x342000_1 : ByteArray) (x342001_1 : Bool) (x349002_1 : List Int) (x349003_1 : List ByteArray) (u349002 : Value) (u349003 : Value), v7 = .int .i64 x7_1 ∧ Aside0 (impl_readSig.l0 kq t349 x7_1 x342000_1 x342001_1 t342 t345 x349002_1 x349003_1 = some (r1, r2, r3, r4, r5)) ∧ Aside0 (kq ≤ k) ∧ Aside0 (Kd.R (Kd.int .u32) 60 w' w.heap.size (fun _ => True) u349002 x349002_1) ∧ Aside0 (Kd.R Kd.string 9 w' w.heap.size (fun _ => True) u349003 x349003_1) ∧ Aside0 (w'.heap[gb340]? = some (.cells #[.int .i64 0, .int .i64 0, (.slice none 0 0), (.slice none 0 0)] 26 (0, 0))) ∧ Aside0 (w'.heap[gb348]? = some (.cells #[.int .i64 t342, .int .i64 t345, u349002, u349003] 26 (0, 0))) ∧ Aside0 (IsS51 w w' g341 x342000_1 x342001_1) ∧ Aside0 (Below w.heap.size w w'))
 case atStart => exact ⟨(0), (t350), (t351), (([] : List Int)), (([] : List ByteArray)), (.slice none 0 0), (.slice none 0 0), sd, H', ⟨Nat.le_refl _⟩, ⟨nz⟩, ⟨nz⟩, ⟨(bo BK340)⟩, ⟨(bo BK348)⟩, ⟨iz HI341⟩, ⟨bz⟩⟩
 case round =>
  clear H'
  try clear c1
  try clear c2
  try clear p2
  try clear c10
  try clear c11
  try clear hcz12_0 hcz12_1 hcz12_2 hcz12_3 hfz12_0 hfz12_1 hfz12_2 hfz12_3
  obtain ⟨x7_1, x342000_1, x342001_1, x349002_1, x349003_1, u349002, u349003, rfl, HA, HK1, HO_349002, HO_349003, BK340, BK348, HI341, HB⟩ := hrel
  cases gk with
  | zero => exact absurd HA.out (by simp [impl_readSig.l0])
  | succ k1 =>
   have H := HA.out
   clear HA
   simp only [impl_readSig.l0] at H
   have HC14 := Aside0.mk H
   clear H
   go_upto_region 5 with (fail)
   go_cut [31] (fun v31 wc => ∃ (kq : Nat) (x31_13 : Bool), v31 = .bool x31_13 ∧ Aside0 (impl_readSig.j1 kq t349 x7_1 x31_13 x342000_1 x342001_1 t342 t345 x349002_1 x349003_1 = some (r1, r2, r3, r4, r5)) ∧ Aside0 (kq ≤ k1) ∧ Aside0 (Kd.R (Kd.int .u32) 60 wc w.heap.size (fun _ => True) u349002 x349002_1) ∧ Aside0 (Kd.R Kd.string 9 wc w.heap.size (fun _ => True) u349003 x349003_1) ∧ Aside0 (wc.heap[gb340]? = some (.cells #[.int .i64 0, .int .i64 0, (.slice none 0 0), (.slice none 0 0)] 26 (0, 0))) ∧ Aside0 (wc.heap[gb348]? = some (.cells #[.int .i64 t342, .int .i64 t345, u349002, u349003] 26 (0, 0))) ∧ Aside0 (IsS51 w wc g341 x342000_1 x342001_1) ∧ Aside0 (Below w.heap.size w wc))
   case first =>
    have H := HC14.out
    clear HC14
    by_cases c15 : x7_1 < t349
    ·rw [if_pos c15] at H
     have c15b0 : decide (x7_1 < t349) = true := decide_eq_true c15
     clear c15
     (first | rw [c15b0] | (simp only [i64_w, i32_w]; rw [c15b0]) | skip)
     by_cases c16 : x7_1 ≤ 2500
     ·rw [if_pos c16] at H
      have c16b0 : decide (x7_1 ≤ 2500) = true := decide_eq_true c16
      clear c16
      have H' := Aside0.mk H
      clear H
      obtain ⟨HGz17, hgz17⟩ := HI341.out
      have hcz17_0 := cellS51_0 HGz17
      have hcz17_1 := cellS51_1 HGz17
      have hfz17_0 := blk_frozen HGz17 0
      have hfz17_1 := blk_frozen HGz17 1
      clear HGz17 hgz17
      go_wp2
      go_meet
      case rel => exact ⟨_, (!x342001_1), sd, H', ⟨by have := HK1.out; first | omega | exact Nat.le_refl _⟩, ⟨by refine rs ?_; exact HO_349002.out⟩, ⟨by refine rs ?_; exact HO_349003.out⟩, ⟨(bo BK340)⟩, ⟨(bo BK348)⟩, ⟨iz HI341⟩, ⟨bz⟩⟩
     ·rw [if_neg c16] at H
      have c16b0 : decide (x7_1 ≤ 2500) = false := decide_eq_false c16
      clear c16
      have H' := Aside0.mk H
      clear H
      go_wp2
      go_meet
      case rel => exact ⟨_, (false), sd, H', ⟨by have := HK1.out; first | omega | exact Nat.le_refl _⟩, ⟨by refine rs ?_; exact HO_349002.out⟩, ⟨by refine rs ?_; exact HO_349003.out⟩, ⟨(bo BK340)⟩, ⟨(bo BK348)⟩, ⟨iz HI341⟩, ⟨bz⟩⟩
    ·rw [if_neg c15] at H
     have c15b0 : decide (x7_1 < t349) = false := decide_eq_false c15
     clear c15
     (first | rw [c15b0] | (simp only [i64_w, i32_w]; rw [c15b0]) | skip)
     have H' := Aside0.mk H
     clear H
     go_wp2
     go_meet
     case rel => exact ⟨_, (false), sd, H', ⟨by have := HK1.out; first | omega | exact Nat.le_refl _⟩, ⟨by refine rs ?_; exact HO_349002.out⟩, ⟨by refine rs ?_; exact HO_349003.out⟩, ⟨(bo BK340)⟩, ⟨(bo BK348)⟩, ⟨iz HI341⟩, ⟨bz⟩⟩
   case rest =>
    clear HC14
    try clear c1
    try clear c2
    try clear p2
    try clear c10
    try clear c11
    try clear c15
    try clear c15b0
    try clear c16
    try clear c16b0
    try clear hcz12_0 hcz12_1 hcz12_2 hcz12_3 hfz12_0 hfz12_1 hfz12_2 hfz12_3
    try clear hcz17_0 hcz17_1 hfz17_0 hfz17_1
    try clear p2
    obtain ⟨kq, x31_13, rfl, HA, HJ13, HO_349002, HO_349003, BK340, BK348, HI341, HB⟩ := hcut
    cases kq with
    | zero => exact absurd HA.out (by simp [impl_readSig.j1])
    | succ kj13 =>
     have H := HA.out
     clear HA
     simp only [impl_readSig.j1] at H
     by_cases c18 : x31_13 = true
     ·subst c18
      have H1 : ((impl_reader_word.f x342000_1 x342001_1).bind fun bt352 => (if x349002_1.length < 35184372088832 then ((impl_reader_take.f bt352.2.1 bt352.2.2 4).bind fun bt358 => (if x349003_1.length < 8796093022208 then (impl_readSig.l0 kj13 t349 (wrap64 (x7_1 + 1)) bt358.2.1 bt358.2.2 t342 t345 (x349002_1 ++ [bt352.1]) (x349003_1 ++ [bt358.1])) else (none))) else (none))) = some (r1, r2, r3, r4, r5) := by rw [if_pos rfl] at H; exact H
      clear H
      have H := H1
      clear H1
      replace H := Option.bind_eq_some_iff.mp H
      obtain ⟨⟨t352, t353, t354⟩, A190, H⟩ := H
      try dsimp -simprocs only at H
      have A19 := Aside0.mk A190
      clear A190
      by_cases c20 : x349002_1.length < 35184372088832
      ·rw [if_pos c20] at H
       have LMc20 := Aside0.mk c20
       clear c20
       obtain ⟨y355, hy355⟩ : ∃ y_ : List Int, y_ = (x349002_1 ++ [t352]) := ⟨_, rfl⟩
       replace H : ((impl_reader_take.f t353 t354 4).bind fun bt358 => (if x349003_1.length < 8796093022208 then (impl_readSig.l0 kj13 t349 (wrap64 (x7_1 + 1)) bt358.2.1 bt358.2.2 t342 t345 y355 (x349003_1 ++ [bt358.1])) else (none))) = some (r1, r2, r3, r4, r5) := by first | (rw [hy355]; with_reducible exact H) | (have H2_ := (Option.bind_some _ _).symm.trans H; rw [hy355]; with_reducible exact H2_) | (have H2_ := (Option.bind_some _ _).symm.trans H; with_reducible exact H2_) | with_reducible exact H | (rw [hy355]; exact H) | exact H
       have Ny355 := Aside0.mk hy355
       clear hy355
       replace H := Option.bind_eq_some_iff.mp H
       obtain ⟨⟨t358, t359, t360⟩, A210, H⟩ := H
       try dsimp -simprocs only at H
       have A21 := Aside0.mk A210
       clear A210
       by_cases c22 : x349003_1.length < 8796093022208
       ·rw [if_pos c22] at H
        have LMc22 := Aside0.mk c22
        clear c22
        obtain ⟨y361, hy361⟩ : ∃ y_ : List ByteArray, y_ = (x349003_1 ++ [t358]) := ⟨_, rfl⟩
        replace H : (impl_readSig.l0 kj13 t349 (wrap64 (x7_1 + 1)) t359 t360 t342 t345 y355 y361) = some (r1, r2, r3, r4, r5) := by first | (rw [hy361]; with_reducible exact H) | (have H2_ := (Option.bind_some _ _).symm.trans H; rw [hy361]; with_reducible exact H2_) | (have H2_ := (Option.bind_some _ _).symm.trans H; with_reducible exact H2_) | with_reducible exact H | (rw [hy361]; exact H) | exact H
        have Ny361 := Aside0.mk hy361
        clear hy361
        have H' := Aside0.mk H
        clear H
        try go_wp2
        have n0_ := Aside0.mk (Kd.R_drew HO_349002.out)
        have n1_ := Aside0.mk (Kd.R_drew HO_349003.out)
        have n2_ := Aside0.mk (blk_drew BK340.out)
        have n3_ := Aside0.mk (blk_drew BK348.out)
        have n4_ := Aside0.mk (IsS51.drew HI341.out)
        have n5_ := Aside0.mk (below_drew1 HB.out)
        clear HO_349002
        clear HO_349003
        clear BK340
        clear BK348
        clear HI341
        clear HB
        have HO_349002 := n0_
        have HO_349003 := n1_
        have BK340 := n2_
        have BK348 := n3_
        have HI341 := n4_
        have HB := n5_
        clear n0_ n1_ n2_ n3_ n4_ n5_
        refine start_ (n := 16) (S := fun w' => w'.cell? ⟨gb348, 0, none⟩ = some (.int .i64 t342) ∧ w'.cell? ⟨gb348, 1, none⟩ = some (.int .i64 t345) ∧ w'.cell? ⟨gb348, 2, none⟩ = some (u349002) ∧ w'.cell? ⟨gb348, 3, none⟩ = some (u349003)) (ds := [13, 15]) #[false, false, false, false, false, false, false, false, false, false, false, false, false, false, false, false] (by kernel_rfl) rfl rfl ⟨(blk_cell BK348.out 0).trans rfl, (blk_cell BK348.out 1).trans rfl, (blk_cell BK348.out 2).trans rfl, (blk_cell BK348.out 3).trans rfl⟩ (fun hHeld => ?_); refine with_tabW impl_readSig.tab7 impl_readSig.bits7 (fun HT_ HW_ => ?_)
        generalize wc.drew = w23 at HO_349002 HO_349003 BK340 BK348 HI341 HB hHeld ⊢
        refine pure_ (i := 0) (N := some 34) (v := ?_) (a' := ?_) #[true, false, false, false, false, false, false, false, false, false, false, false, false, false, false, false] rfl rfl (any_of HT_.out (by kernel_rfl)) (fun _ _ _ h => h) (Or.inl ⟨by rfl, ?_⟩) ?_ ?_
        rotate_left
        ·intro w'
         go_simp
         with_reducible rfl
        rotate_left
        ·simp only [Act.put, List.setIfInBounds_toArray, List.set_cons_zero, List.set_cons_succ, i64_w, i32_w]
         rfl
        refine pure_ (i := 2) (N := some 36) (v := ?_) (a' := ?_) #[true, false, true, false, false, false, false, false, false, false, false, false, false, false, false, false] rfl rfl (any_of HT_.out (by kernel_rfl)) (fun _ _ _ h => h) (Or.inl ⟨by rfl, ?_⟩) ?_ ?_
        rotate_left
        ·intro w'
         go_simp
         with_reducible rfl
        rotate_left
        ·simp only [Act.put, List.setIfInBounds_toArray, List.set_cons_zero, List.set_cons_succ, i64_w, i32_w]
         rfl
        refine pure_ (i := 6) (N := some 40) (v := ?_) (a' := ?_) #[true, false, true, false, false, false, true, false, false, false, false, false, false, false, false, false] rfl rfl (any_of HT_.out (by kernel_rfl)) (fun _ _ _ h => h) (Or.inl ⟨by rfl, ?_⟩) ?_ ?_
        rotate_left
        ·intro w'
         go_simp
         with_reducible rfl
        rotate_left
        ·simp only [Act.put, List.setIfInBounds_toArray, List.set_cons_zero, List.set_cons_succ, i64_w, i32_w]
         rfl
        refine pure_ (i := 8) (N := some 42) (v := ?_) (a' := ?_) #[true, false, true, false, false, false, true, false, true, false, false, false, false, false, false, false] rfl rfl (any_of HT_.out (by kernel_rfl)) (fun _ _ _ h => h) (Or.inl ⟨by rfl, ?_⟩) ?_ ?_
        rotate_left
        ·intro w'
         go_simp
         with_reducible rfl
        rotate_left
        ·simp only [Act.put, List.setIfInBounds_toArray, List.set_cons_zero, List.set_cons_succ, i64_w, i32_w]
         rfl
        refine take_ (i := 1) (N := some 35) (v := ?_) (a' := ?_) #[true, true, true, false, false, false, true, false, true, false, false, false, false, false, false, false] rfl rfl (take_ofW HT_.out HW_.out (by kernel_rfl)) (fun _ _ _ h => h) (Or.inl ⟨by rfl, ?_⟩) hHeld ?_ ?_
        rotate_left
        ·rintro w' ⟨s0, s1, s2, s3⟩
         go_simp
         with_reducible rfl
        rotate_left
        ·simp only [Act.put, List.setIfInBounds_toArray, List.set_cons_zero, List.set_cons_succ, i64_w, i32_w]
         rfl
        refine take_ (i := 7) (N := some 41) (v := ?_) (a' := ?_) #[true, true, true, false, false, false, true, true, true, false, false, false, false, false, false, false] rfl rfl (take_ofW HT_.out HW_.out (by kernel_rfl)) (fun _ _ _ h => h) (Or.inl ⟨by rfl, ?_⟩) hHeld ?_ ?_
        rotate_left
        ·rintro w' ⟨s0, s1, s2, s3⟩
         go_simp
         with_reducible rfl
        rotate_left
        ·simp only [Act.put, List.setIfInBounds_toArray, List.set_cons_zero, List.set_cons_succ, i64_w, i32_w]
         rfl
        refine one_ (i := 3) (N := some 37) #[true, true, true, true, false, false, true, true, true, false, false, false, false, false, false, false] rfl rfl (one_of HT_.out (by kernel_rfl)) (by decide) (fun K hK => ?_)
        refine goes_ Try.func48 (by kernel_rfl) rfl #[.pointer (some ⟨g341, 0, none⟩)] (by rfl) rfl rfl mt ?_
        with_reducible refine (impl_reader_word.calls g341 x342000_1 x342001_1 t352 t353 t354 w _ ?side1 ?side2 A19.out).mono ?_
        (case side1 => repeat (first | (with_reducible first | exact HI341.out | apply IsS51.alloc | apply IsS51.drewN | apply IsS51.drew | apply IsS51.set_0 | apply IsS51.set_1 | refine IsS51.far ?_ NB341_340.out _ | refine IsS51.far ?_ NB341_348.out _) | exact HI341.out))
        (case side2 => repeat (first | (with_reducible first | exact HB.out | apply below_alloc | apply pw_below_drewN | apply below_drew1 | refine below_set ?_ (IsS51.ge HI341.out) | refine below_set ?_ GE340.out | refine below_set ?_ GE348.out) | exact HB.out))
        rintro e w24 ⟨rfl, hi, hb, hk⟩
        refine ⟨_, rfl, ?_⟩
        have n0_ := Aside0.mk (Kd.R_mono (Kd.R_keep (IsS51.apart (show IsS51 w _ g341 x342000_1 x342001_1 from iz HI341) (by refine rs ?_; exact HO_349002.out) (by decide)) hk (fun _ h => h.2)) (fun _ h => h.1))
        have n1_ := Aside0.mk (Kd.R_mono (Kd.R_keep (IsS51.apart (show IsS51 w _ g341 x342000_1 x342001_1 from iz HI341) (by refine rs ?_; exact HO_349003.out) (by decide)) hk (fun _ h => h.2)) (fun _ h => h.1))
        have n2_ := Aside0.mk (KeepBut.blk hk (g' := gb340) (o := .cells #[.int .i64 0, .int .i64 0, .slice none 0 0, .slice none 0 0] 26 (0, 0)) (bo BK340) NB340_341.out (by simp))
        have n3_ := Aside0.mk (KeepBut.blk hk (g' := gb348) (o := .cells #[.int .i64 t342, .int .i64 t345, u349002, u349003] 26 (0, 0)) (bo BK348) NB348_341.out (by simp))
        have n4_ := Aside0.mk (hb)
        have n5_ := Aside0.mk (hi)
        clear HO_349002
        clear HO_349003
        clear BK340
        clear BK348
        clear HB
        clear HI341
        have HO_349002 := n0_
        have HO_349003 := n1_
        have BK340 := n2_
        have BK348 := n3_
        have HB := n4_
        have HI341 := n5_
        clear n0_ n1_ n2_ n3_ n4_ n5_
        (try clear hb)
        (try clear hb2)
        (try clear hk)
        (try clear hi)
        refine hK.out _ _ ⟨(blk_cell BK348.out 0).trans rfl, (blk_cell BK348.out 1).trans rfl, (blk_cell BK348.out 2).trans rfl, (blk_cell BK348.out 3).trans rfl⟩ (fun hHeld => ?_)
        clear hK K
        refine norm_ (a' := ?_) ?_ ?_
        rotate_left
        ·show Act.put _ (some 37) _ = _
         simp only [Act.put, List.setIfInBounds_toArray, List.set_cons_zero, List.set_cons_succ, i64_w, i32_w]
         rfl
        refine one_ (i := 4) (N := some 38) #[true, true, true, true, true, false, true, true, true, false, false, false, false, false, false, false] rfl rfl (one_of HT_.out (by kernel_rfl)) (by decide) (fun K hK => ?_)
        refine value_ (w1 := ?_) (v := ?_) (by rfl) rfl ?_ ?_
        rotate_left 2
        ·go_simp
         constructor
         ·rfl
         ·rfl
        refine hK.out _ _ ⟨(blk_cell (blk_alloc BK348.out _) 0).trans rfl, (blk_cell (blk_alloc BK348.out _) 1).trans rfl, (blk_cell (blk_alloc BK348.out _) 2).trans rfl, (blk_cell (blk_alloc BK348.out _) 3).trans rfl⟩ (fun hHeld => ?_)
        clear hK K
        refine norm_ (a' := ?_) ?_ ?_
        rotate_left
        ·show Act.put _ (some 38) _ = _
         simp only [Act.put, List.setIfInBounds_toArray, List.set_cons_zero, List.set_cons_succ, i64_w, i32_w]
         rfl
        refine one_ (i := 5) (N := some 39) #[true, true, true, true, true, true, true, true, true, false, false, false, false, false, false, false] rfl rfl (one_of HT_.out (by kernel_rfl)) (by decide) (fun K hK => ?_)
        refine Kd.R_append_step (Kd.int .u32) (w0 := w) w.heap.size (by rfl) (.tmp 35) (.tmp 38) 23 60 (.int .u32 0) 4 rfl Try.underlying23 info60 rfl (by decide) (by omega) u349002 x349002_1 t352 [.int .u32 t352] (fun _ => True) (fun _ => False) rfl rfl ?aP (fun _ hk => hk.elim) ?aF ?aO ?aB ?aS ?aL ?_
        (case aP => exact rfl)
        (case aB => exact bz)
        (case aF => exact (fun _ _ => trivial))
        (case aO => exact (by refine rs ?_; exact HO_349002.out))
        (case aS => exact (below_size bz))
        (case aL => have := LMc20.out; omega)
        intro v356 w25 ho hb hg hat
        rw [← Ny355.out] at ho
        have n0_ := Aside0.mk (Kd.R_over' (by refine rs ?_; exact HO_349003.out) (Kd.R_typed (by refine rs ?_; exact HO_349002.out)) (by decide) hg)
        have n1_ := Aside0.mk (blk_grown (g := gb340) (o := .cells #[.int .i64 0, .int .i64 0, .slice none 0 0, .slice none 0 0] 26 (0, 0)) (bo BK340) hg (Kd.R_ne HO_349002.out BK340.out (by decide)))
        have n2_ := Aside0.mk (blk_grown (g := gb348) (o := .cells #[.int .i64 t342, .int .i64 t345, u349002, u349003] 26 (0, 0)) (bo BK348) hg (Kd.R_ne HO_349002.out BK348.out (by decide)))
        have n3_ := Aside0.mk (IsS51.grown (iz HI341) hg (IsS51.own_ne HI341.out HO_349002.out (by decide)))
        have n4_ := Aside0.mk (hb)
        have n5_ := Aside0.mk (ho)
        clear HO_349003
        clear BK340
        clear BK348
        clear HI341
        clear HB
        clear HO_349002
        have HO_349003 := n0_
        have BK340 := n1_
        have BK348 := n2_
        have HI341 := n3_
        have HB := n4_
        have HO357 := n5_
        clear n0_ n1_ n2_ n3_ n4_ n5_
        clear ho hb hg hat
        refine hK.out _ _ ⟨(blk_cell BK348.out 0).trans rfl, (blk_cell BK348.out 1).trans rfl, (blk_cell BK348.out 2).trans rfl, (blk_cell BK348.out 3).trans rfl⟩ (fun hHeld => ?_)
        clear hK K
        refine norm_ (a' := ?_) ?_ ?_
        rotate_left
        ·show Act.put _ (some 39) _ = _
         simp only [Act.put, List.setIfInBounds_toArray, List.set_cons_zero, List.set_cons_succ, i64_w, i32_w]
         rfl
        refine pure_ (i := 12) (N := some 46) (v := ?_) (a' := ?_) #[true, true, true, true, true, true, true, true, true, false, false, false, true, false, false, false] rfl rfl (any_of HT_.out (by kernel_rfl)) (fun _ _ _ h => h) (Or.inl ⟨by rfl, ?_⟩) ?_ ?_
        rotate_left
        ·intro w'
         go_simp
         with_reducible rfl
        rotate_left
        ·simp only [Act.put, List.setIfInBounds_toArray, List.set_cons_zero, List.set_cons_succ, i64_w, i32_w]
         rfl
        refine one_ (i := 9) (N := some 43) #[true, true, true, true, true, true, true, true, true, true, false, false, true, false, false, false] rfl rfl (one_of HT_.out (by kernel_rfl)) (by decide) (fun K hK => ?_)
        refine goes_ Try.func25 (by kernel_rfl) rfl #[.pointer (some ⟨g341, 0, none⟩), .int .i64 4] (by rfl) rfl rfl mt ?_
        with_reducible refine (impl_reader_take.calls g341 t353 t354 4 t358 t359 t360 w _ ?side1 ?side2 A21.out).mono ?_
        (case side1 => repeat (first | (with_reducible first | exact HI341.out | apply IsS51.alloc | apply IsS51.drewN | apply IsS51.drew | apply IsS51.set_0 | apply IsS51.set_1 | refine IsS51.far ?_ NB341_340.out _ | refine IsS51.far ?_ NB341_348.out _) | exact HI341.out))
        (case side2 => repeat (first | (with_reducible first | exact HB.out | apply below_alloc | apply pw_below_drewN | apply below_drew1 | refine below_set ?_ (IsS51.ge HI341.out) | refine below_set ?_ GE340.out | refine below_set ?_ GE348.out) | exact HB.out))
        rintro e w26 ⟨rfl, hi, hb, hk⟩
        refine ⟨_, rfl, ?_⟩
        have n0_ := Aside0.mk (Kd.R_mono (Kd.R_keep (IsS51.apart (show IsS51 w _ g341 t353 t354 from iz HI341) (by refine rs ?_; exact HO_349003.out) (by decide)) hk (fun _ h => h.2)) (fun _ h => h.1))
        have n1_ := Aside0.mk (KeepBut.blk hk (g' := gb340) (o := .cells #[.int .i64 0, .int .i64 0, .slice none 0 0, .slice none 0 0] 26 (0, 0)) (bo BK340) NB340_341.out (by simp))
        have n2_ := Aside0.mk (KeepBut.blk hk (g' := gb348) (o := .cells #[.int .i64 t342, .int .i64 t345, u349002, u349003] 26 (0, 0)) (bo BK348) NB348_341.out (by simp))
        have n3_ := Aside0.mk (Kd.R_mono (Kd.R_keep (IsS51.apart (show IsS51 w _ g341 t353 t354 from iz HI341) (by refine rs ?_; exact HO357.out) (by decide)) hk (fun _ h => h.2)) (fun _ h => h.1))
        have n4_ := Aside0.mk (hb)
        have n5_ := Aside0.mk (hi)
        clear HO_349003
        clear BK340
        clear BK348
        clear HO357
        clear HB
        clear HI341
        have HO_349003 := n0_
        have BK340 := n1_
        have BK348 := n2_
        have HO357 := n3_
        have HB := n4_
        have HI341 := n5_
        clear n0_ n1_ n2_ n3_ n4_ n5_
        (try clear hb)
        (try clear hb2)
        (try clear hk)
        (try clear hi)
        refine hK.out _ _ ⟨(blk_cell BK348.out 0).trans rfl, (blk_cell BK348.out 1).trans rfl, (blk_cell BK348.out 2).trans rfl, (blk_cell BK348.out 3).trans rfl⟩ (fun hHeld => ?_)
        clear hK K
        refine norm_ (a' := ?_) ?_ ?_
        rotate_left
        ·show Act.put _ (some 43) _ = _
         simp only [Act.put, List.setIfInBounds_toArray, List.set_cons_zero, List.set_cons_succ, i64_w, i32_w]
         rfl
        refine one_ (i := 10) (N := some 44) #[true, true, true, true, true, true, true, true, true, true, true, false, true, false, false, false] rfl rfl (one_of HT_.out (by kernel_rfl)) (by decide) (fun K hK => ?_)
        refine value_ (w1 := ?_) (v := ?_) (by rfl) rfl ?_ ?_
        rotate_left 2
        ·go_simp
         constructor
         ·rfl
         ·rfl
        refine hK.out _ _ ⟨(blk_cell (blk_alloc BK348.out _) 0).trans rfl, (blk_cell (blk_alloc BK348.out _) 1).trans rfl, (blk_cell (blk_alloc BK348.out _) 2).trans rfl, (blk_cell (blk_alloc BK348.out _) 3).trans rfl⟩ (fun hHeld => ?_)
        clear hK K
        refine norm_ (a' := ?_) ?_ ?_
        rotate_left
        ·show Act.put _ (some 44) _ = _
         simp only [Act.put, List.setIfInBounds_toArray, List.set_cons_zero, List.set_cons_succ, i64_w, i32_w]
         rfl
        refine one_ (i := 11) (N := some 45) #[true, true, true, true, true, true, true, true, true, true, true, true, true, false, false, false] rfl rfl (one_of HT_.out (by kernel_rfl)) (by decide) (fun K hK => ?_)
        refine Kd.R_append_step Kd.string (w0 := w) w.heap.size (by rfl) (.tmp 41) (.tmp 44) 24 9 (.string ⟨#[]⟩) 16 rfl Try.underlying24 info9 rfl (by decide) (by omega) u349003 x349003_1 t358 [.string t358] (fun _ => True) (fun _ => False) rfl rfl ?aP (fun _ hk => hk.elim) ?aF ?aO ?aB ?aS ?aL ?_
        (case aP => exact rfl)
        (case aB => exact bz)
        (case aF => exact (fun _ _ => trivial))
        (case aO => exact (by refine rs ?_; exact HO_349003.out))
        (case aS => exact (below_size bz))
        (case aL => have := LMc22.out; omega)
        intro v362 w27 ho hb hg hat
        rw [← Ny361.out] at ho
        have n0_ := Aside0.mk (blk_grown (g := gb340) (o := .cells #[.int .i64 0, .int .i64 0, .slice none 0 0, .slice none 0 0] 26 (0, 0)) (bo BK340) hg (Kd.R_ne HO_349003.out BK340.out (by decide)))
        have n1_ := Aside0.mk (blk_grown (g := gb348) (o := .cells #[.int .i64 t342, .int .i64 t345, u349002, u349003] 26 (0, 0)) (bo BK348) hg (Kd.R_ne HO_349003.out BK348.out (by decide)))
        have n2_ := Aside0.mk (IsS51.grown (iz HI341) hg (IsS51.own_ne HI341.out HO_349003.out (by decide)))
        have n3_ := Aside0.mk (Kd.R_over' (by refine rs ?_; exact HO357.out) (Kd.R_typed (by refine rs ?_; exact HO_349003.out)) (by decide) hg)
        have n4_ := Aside0.mk (hb)
        have n5_ := Aside0.mk (ho)
        clear BK340
        clear BK348
        clear HI341
        clear HO357
        clear HB
        clear HO_349003
        have BK340 := n0_
        have BK348 := n1_
        have HI341 := n2_
        have HO357 := n3_
        have HB := n4_
        have HO363 := n5_
        clear n0_ n1_ n2_ n3_ n4_ n5_
        clear ho hb hg hat
        obtain ⟨Ao28, co28, eo28⟩ := Kd.R_slice HO357.out
        (first | subst eo28 | (injection eo28 with f1_ f2_ f3_; have f4_ := f1_.symm; have f5_ := f3_.symm; clear f1_ f2_ f3_; subst f4_; subst f5_))
        obtain ⟨Ao30, co30, eo30⟩ := Kd.R_slice HO363.out
        (first | subst eo30 | (injection eo30 with f1_ f2_ f3_; have f4_ := f1_.symm; have f5_ := f3_.symm; clear f1_ f2_ f3_; subst f4_; subst f5_))
        refine hK.out _ _ ⟨(blk_cell BK348.out 0).trans rfl, (blk_cell BK348.out 1).trans rfl, (blk_cell BK348.out 2).trans rfl, (blk_cell BK348.out 3).trans rfl⟩ (fun hHeld => ?_)
        clear hK K
        refine norm_ (a' := ?_) ?_ ?_
        rotate_left
        ·show Act.put _ (some 45) _ = _
         simp only [Act.put, List.setIfInBounds_toArray, List.set_cons_zero, List.set_cons_succ, i64_w, i32_w]
         rfl
        refine last_ (i := 13) (N := none) #[true, true, true, true, true, true, true, true, true, true, true, true, true, true, false, false] rfl rfl (one_of HT_.out (by kernel_rfl)) (by decide) (fun K hK => ?_)
        have hs29 : w27.cell? ⟨gb348, 2, none⟩ = some (u349002) := (blk_cell BK348.out 2).trans rfl
        have hfs29 := blk_frozen BK348.out 2
        have hns29_0 := NB340_348.out
        have hms29_0 := NB348_340.out
        refine skip_ (w1 := ?_) (by rfl) rfl ?_ ?_
        rotate_left
        ·go_simp
         rfl
        refine hK.out _ _ ?_
        clear hK K
        refine pure_ (i := 14) (N := some 47) (v := ?_) (a' := ?_) #[true, true, true, true, true, true, true, true, true, true, true, true, true, true, true, false] rfl rfl (any_of HT_.out (by kernel_rfl)) (fun _ _ _ h => h) (Or.inl ⟨by rfl, ?_⟩) ?_ ?_
        rotate_left
        ·intro w'
         go_simp
         with_reducible rfl
        rotate_left
        ·simp only [Act.put, List.setIfInBounds_toArray, List.set_cons_zero, List.set_cons_succ, i64_w, i32_w]
         rfl
        refine last_ (i := 15) (N := none) #[true, true, true, true, true, true, true, true, true, true, true, true, true, true, true, true] rfl rfl (one_of HT_.out (by kernel_rfl)) (by decide) (fun K hK => ?_)
        have hs31 : w27.cell? ⟨gb348, 3, none⟩ = some (u349003) := (blk_cell BK348.out 3).trans rfl
        have hfs31 := blk_frozen BK348.out 3
        have hns31_0 := NB340_348.out
        have hms31_0 := NB348_340.out
        refine skip_ (w1 := ?_) (by rfl) rfl ?_ ?_
        rotate_left
        ·go_simp
         rfl
        refine hK.out _ _ ?_
        clear hK K
        refine done_ (done_of HT_.out (by kernel_rfl)) ?_
        try go_wp2
        go_roundg kj13
        case measure => have := HK1.out; have := HJ13.out; omega
        case rel => exact ⟨(wrap64 (x7_1 + 1)), (t359), (t360), (y355), (y361), (.slice Ao28 y355.length co28), (.slice Ao30 y361.length co30), sd, H', ⟨by have := HK1.out; have := HJ13.out; omega⟩, ⟨by refine rs ?_; exact Kd.R_mono (Kd.rf (Kd.rf (Kd.R_types HO357.out BK348.out (by decide)))) (fun _ hk => trivial)⟩, ⟨by refine rs ?_; exact Kd.R_mono (Kd.rf (Kd.rf (Kd.R_types HO363.out BK348.out (by decide)))) (fun _ hk => trivial)⟩, ⟨(bo BK340)⟩, ⟨bk⟩, ⟨iz HI341⟩, ⟨bz⟩⟩
       ·rw [if_neg c22] at H
        exact absurd H (by simp)
      ·rw [if_neg c20] at H
       exact absurd H (by simp)
     ·replace c18 := Bool.eq_false_iff.mpr c18
      subst c18
      have H1 : (if x342001_1 = true then (impl_readSig.j2 kj13 true t342 t345 x349002_1 x349003_1) else (if x342000_1.toList = ([] : List UInt8) then ((impl_SigOk.f kj13 t342 t345 x349002_1 x349003_1).bind fun t364 => (if t364 = true then (impl_readSig.j2 kj13 ((x349002_1.length : Int) != t349) t342 t345 x349002_1 x349003_1) else (impl_readSig.j2 kj13 true t342 t345 x349002_1 x349003_1))) else (impl_readSig.j2 kj13 true t342 t345 x349002_1 x349003_1))) = some (r1, r2, r3, r4, r5) := by rw [if_neg (show ¬ (false = true) by decide)] at H; exact H
      clear H
      have H := H1
      clear H1
      have HC32 := Aside0.mk H
      clear H
      go_upto_region 8 with (fail)
      go_cut [70] (fun v70 wc => ∃ (kq : Nat) (x70_31 : Bool), v70 = .bool x70_31 ∧ Aside0 (impl_readSig.j2 kq x70_31 t342 t345 x349002_1 x349003_1 = some (r1, r2, r3, r4, r5)) ∧ Aside0 (kq ≤ kj13) ∧ Aside0 (Kd.R (Kd.int .u32) 60 wc w.heap.size (fun _ => True) u349002 x349002_1) ∧ Aside0 (Kd.R Kd.string 9 wc w.heap.size (fun _ => True) u349003 x349003_1) ∧ Aside0 (wc.heap[gb340]? = some (.cells #[.int .i64 0, .int .i64 0, (.slice none 0 0), (.slice none 0 0)] 26 (0, 0))) ∧ Aside0 (wc.heap[gb348]? = some (.cells #[.int .i64 t342, .int .i64 t345, u349002, u349003] 26 (0, 0))) ∧ Aside0 (Below w.heap.size w wc))
      case first =>
       have H := HC32.out
       clear HC32
       by_cases c33 : x342001_1 = true
       ·subst c33
        have H1 : (impl_readSig.j2 kj13 true t342 t345 x349002_1 x349003_1) = some (r1, r2, r3, r4, r5) := by rw [if_pos rfl] at H; exact H
        clear H
        have H := H1
        clear H1
        have H' := Aside0.mk H
        clear H
        obtain ⟨HGz34, hgz34⟩ := HI341.out
        have hcz34_0 := cellS51_0 HGz34
        have hcz34_1 := cellS51_1 HGz34
        have hfz34_0 := blk_frozen HGz34 0
        have hfz34_1 := blk_frozen HGz34 1
        clear HGz34 hgz34
        go_wp2
        go_meet
        case rel => exact ⟨_, (true), sd, H', ⟨by have := HK1.out; have := HJ13.out; first | omega | exact Nat.le_refl _⟩, ⟨by refine rs ?_; exact HO_349002.out⟩, ⟨by refine rs ?_; exact HO_349003.out⟩, ⟨(bo BK340)⟩, ⟨(bo BK348)⟩, ⟨bz⟩⟩
       ·replace c33 := Bool.eq_false_iff.mpr c33
        subst c33
        have H1 : (if x342000_1.toList = ([] : List UInt8) then ((impl_SigOk.f kj13 t342 t345 x349002_1 x349003_1).bind fun t364 => (if t364 = true then (impl_readSig.j2 kj13 ((x349002_1.length : Int) != t349) t342 t345 x349002_1 x349003_1) else (impl_readSig.j2 kj13 true t342 t345 x349002_1 x349003_1))) else (impl_readSig.j2 kj13 true t342 t345 x349002_1 x349003_1)) = some (r1, r2, r3, r4, r5) := by rw [if_neg (show ¬ (false = true) by decide)] at H; exact H
        clear H
        have H := H1
        clear H1
        by_cases c35 : x342000_1.toList = ([] : List UInt8)
        ·rw [if_pos c35] at H
         have c35b0 : (x342000_1.toList == ([] : List UInt8)) = true := beq_iff_eq.mpr c35
         have c35b1 : (x342000_1.toList != ([] : List UInt8)) = false := bne_eq_false_iff_eq.mpr c35
         clear c35
         (first | rw [c35b0] | (simp only [i64_w, i32_w]; rw [c35b0]) | skip)
         replace H := Option.bind_eq_some_iff.mp H
         obtain ⟨t364, A360, H⟩ := H
         try dsimp -simprocs only at H
         have A36 := Aside0.mk A360
         clear A360
         by_cases c37 : t364 = true
         ·subst c37
          have H1 : (impl_readSig.j2 kj13 ((x349002_1.length : Int) != t349) t342 t345 x349002_1 x349003_1) = some (r1, r2, r3, r4, r5) := by rw [if_pos rfl] at H; exact H
          clear H
          have H := H1
          clear H1
          have H' := Aside0.mk H
          clear H
          obtain ⟨HGz38, hgz38⟩ := HI341.out
          have hcz38_0 := cellS51_0 HGz38
          have hcz38_1 := cellS51_1 HGz38
          have hfz38_0 := blk_frozen HGz38 0
          have hfz38_1 := blk_frozen HGz38 1
          clear HGz38 hgz38
          have hnb39 := NB348_340.out
          have hnc39 := NB340_348.out
          have hnb40 := NB348_341.out
          have hnc40 := NB341_348.out
          obtain ⟨hcz41_0, hcz41_1, hcz41_2, hcz41_3, hfz41_0, hfz41_1, hfz41_2, hfz41_3⟩ := bc4 BK348.out
          obtain ⟨Ao42, co42, eo42⟩ := Kd.R_slice HO_349002.out
          subst eo42
          obtain ⟨Ao43, co43, eo43⟩ := Kd.R_slice HO_349003.out
          subst eo43
          go_wp2_with (first | (go_at_call 41; (with_reducible refine (impl_SigOk.calls kj13 t342 t345 _ _ x349002_1 _ _ x349003_1 true _ ?side1 ?side2 ?side3 ?side4 A36.out).mono ?_); (case side1 => repeat (first | exact (Kd.R_reads' HO_349002.out).2.2 | (with_reducible refine Kd.C_alloc ?_ _) | (with_reducible refine Kd.C_drewN ?_ _) | (with_reducible refine Kd.C_drew ?_))); (case side2 => exact (Kd.R_reads' HO_349002.out).2.1); (case side3 => repeat (first | exact (Kd.R_reads' HO_349003.out).2.2 | (with_reducible refine Kd.C_alloc ?_ _) | (with_reducible refine Kd.C_drewN ?_ _) | (with_reducible refine Kd.C_drew ?_))); (case side4 => exact (Kd.R_reads' HO_349003.out).2.1); rintro e w44 ⟨rfl, hb⟩; have n0_ := Aside0.mk (Kd.R_below (by refine rs ?_; exact HO_349002.out) hb); have n1_ := Aside0.mk (Kd.R_below (by refine rs ?_; exact HO_349003.out) hb); have n2_ := Aside0.mk (blk_below (bo BK340) hb); have n3_ := Aside0.mk (blk_below (bo BK348) hb); have n4_ := Aside0.mk (IsS51.below (iz HI341) hb); have n5_ := Aside0.mk (below_step bz hb); clear HO_349002; clear HO_349003; clear BK340; clear BK348; clear HI341; clear HB; have HO_349002 := n0_; have HO_349003 := n1_; have BK340 := n2_; have BK348 := n3_; have HI341 := n4_; have HB := n5_; clear n0_ n1_ n2_ n3_ n4_ n5_; (try clear hb); (try clear hb2); (try clear hk); (try clear hi); obtain ⟨hcz45_0, hcz45_1, hcz45_2, hcz45_3, hfz45_0, hfz45_1, hfz45_2, hfz45_3⟩ := bc4 BK348.out))
          go_meet
          case rel => exact ⟨_, (((x349002_1.length : Int) != t349)), sd, H', ⟨by have := HK1.out; have := HJ13.out; first | omega | exact Nat.le_refl _⟩, ⟨by refine rs ?_; exact HO_349002.out⟩, ⟨by refine rs ?_; exact HO_349003.out⟩, ⟨(bo BK340)⟩, ⟨(bo BK348)⟩, ⟨bz⟩⟩
         ·replace c37 := Bool.eq_false_iff.mpr c37
          subst c37
          have H1 : (impl_readSig.j2 kj13 true t342 t345 x349002_1 x349003_1) = some (r1, r2, r3, r4, r5) := by rw [if_neg (show ¬ (false = true) by decide)] at H; exact H
          clear H
          have H := H1
          clear H1
          have H' := Aside0.mk H
          clear H
          obtain ⟨HGz46, hgz46⟩ := HI341.out
          have hcz46_0 := cellS51_0 HGz46
          have hcz46_1 := cellS51_1 HGz46
          have hfz46_0 := blk_frozen HGz46 0
          have hfz46_1 := blk_frozen HGz46 1
          clear HGz46 hgz46
          have hnb47 := NB348_340.out
          have hnc47 := NB340_348.out
          have hnb48 := NB348_341.out
          have hnc48 := NB341_348.out
          obtain ⟨hcz49_0, hcz49_1, hcz49_2, hcz49_3, hfz49_0, hfz49_1, hfz49_2, hfz49_3⟩ := bc4 BK348.out
          obtain ⟨Ao50, co50, eo50⟩ := Kd.R_slice HO_349002.out
          subst eo50
          obtain ⟨Ao51, co51, eo51⟩ := Kd.R_slice HO_349003.out
          subst eo51
          go_wp2_with (first | (go_at_call 41; (with_reducible refine (impl_SigOk.calls kj13 t342 t345 _ _ x349002_1 _ _ x349003_1 false _ ?side1 ?side2 ?side3 ?side4 A36.out).mono ?_); (case side1 => repeat (first | exact (Kd.R_reads' HO_349002.out).2.2 | (with_reducible refine Kd.C_alloc ?_ _) | (with_reducible refine Kd.C_drewN ?_ _) | (with_reducible refine Kd.C_drew ?_))); (case side2 => exact (Kd.R_reads' HO_349002.out).2.1); (case side3 => repeat (first | exact (Kd.R_reads' HO_349003.out).2.2 | (with_reducible refine Kd.C_alloc ?_ _) | (with_reducible refine Kd.C_drewN ?_ _) | (with_reducible refine Kd.C_drew ?_))); (case side4 => exact (Kd.R_reads' HO_349003.out).2.1); rintro e w52 ⟨rfl, hb⟩; have n0_ := Aside0.mk (Kd.R_below (by refine rs ?_; exact HO_349002.out) hb); have n1_ := Aside0.mk (Kd.R_below (by refine rs ?_; exact HO_349003.out) hb); have n2_ := Aside0.mk (blk_below (bo BK340) hb); have n3_ := Aside0.mk (blk_below (bo BK348) hb); have n4_ := Aside0.mk (IsS51.below (iz HI341) hb); have n5_ := Aside0.mk (below_step bz hb); clear HO_349002; clear HO_349003; clear BK340; clear BK348; clear HI341; clear HB; have HO_349002 := n0_; have HO_349003 := n1_; have BK340 := n2_; have BK348 := n3_; have HI341 := n4_; have HB := n5_; clear n0_ n1_ n2_ n3_ n4_ n5_; (try clear hb); (try clear hb2); (try clear hk); (try clear hi)))
          go_meet
          case rel => exact ⟨_, (true), sd, H', ⟨by have := HK1.out; have := HJ13.out; first | omega | exact Nat.le_refl _⟩, ⟨by refine rs ?_; exact HO_349002.out⟩, ⟨by refine rs ?_; exact HO_349003.out⟩, ⟨(bo BK340)⟩, ⟨(bo BK348)⟩, ⟨bz⟩⟩
        ·rw [if_neg c35] at H
         have c35b0 : (x342000_1.toList == ([] : List UInt8)) = false := beq_eq_false_iff_ne.mpr c35
         have c35b1 : (x342000_1.toList != ([] : List UInt8)) = true := bne_iff_ne.mpr c35
         (first | rw [c35b0] | (simp only [i64_w, i32_w]; rw [c35b0]) | skip)
         have H' := Aside0.mk H
         clear H
         obtain ⟨HGz53, hgz53⟩ := HI341.out
         have hcz53_0 := cellS51_0 HGz53
         have hcz53_1 := cellS51_1 HGz53
         have hfz53_0 := blk_frozen HGz53 0
         have hfz53_1 := blk_frozen HGz53 1
         clear HGz53 hgz53
         go_wp2
         go_meet
         case rel => exact ⟨_, (true), sd, H', ⟨by have := HK1.out; have := HJ13.out; first | omega | exact Nat.le_refl _⟩, ⟨by refine rs ?_; exact HO_349002.out⟩, ⟨by refine rs ?_; exact HO_349003.out⟩, ⟨(bo BK340)⟩, ⟨(bo BK348)⟩, ⟨bz⟩⟩
      case rest =>
       clear HC32
       try clear c1
       try clear c2
       try clear p2
       try clear c3
       try clear c4
       try clear p6
       try clear c10
       try clear c11
       try clear c15
       try clear c15b0
       try clear c16
       try clear c16b0
       try clear c18
       try clear c20
       try clear c22
       try clear c23
       try clear c24
       try clear c25
       try clear c33
       try clear c35
       try clear c35b0
       try clear c35b1
       try clear c37
       try clear c39
       try clear c40
       try clear c47
       try clear c48
       try clear hcz12_0 hcz12_1 hcz12_2 hcz12_3 hfz12_0 hfz12_1 hfz12_2 hfz12_3
       try clear hcz17_0 hcz17_1 hfz17_0 hfz17_1
       try clear hcz34_0 hcz34_1 hfz34_0 hfz34_1
       try clear hcz38_0 hcz38_1 hfz38_0 hfz38_1
       try clear hcz41_0 hcz41_1 hcz41_2 hcz41_3 hfz41_0 hfz41_1 hfz41_2 hfz41_3
       try clear hcz45_0 hcz45_1 hcz45_2 hcz45_3 hfz45_0 hfz45_1 hfz45_2 hfz45_3
       try clear hcz46_0 hcz46_1 hfz46_0 hfz46_1
       try clear hcz49_0 hcz49_1 hcz49_2 hcz49_3 hfz49_0 hfz49_1 hfz49_2 hfz49_3
       try clear hcz53_0 hcz53_1 hfz53_0 hfz53_1
       try clear p2
       obtain ⟨kq, x70_31, rfl, HA, HJ31, HO_349002, HO_349003, BK340, BK348, HB⟩ := hcut
       cases kq with
       | zero => exact absurd HA.out (by simp [impl_readSig.j2])
       | succ kj31 =>
        have H := HA.out
        clear HA
        simp only [impl_readSig.j2] at H
        by_cases c54 : x70_31 = true
        ·subst c54
         have H1 : (some (0, 0, ([] : List Int), ([] : List ByteArray), false)) = some (r1, r2, r3, r4, r5) := by rw [if_pos rfl] at H; exact H
         clear H
         have H := H1
         clear H1
         simp only [Option.some.injEq, Prod.mk.injEq] at H
         obtain ⟨rfl, rfl, rfl, rfl, rfl⟩ := H
         have hnb55 := NB340_348.out
         have hnc55 := NB348_340.out
         obtain ⟨hcz56_0, hcz56_1, hcz56_2, hcz56_3, hfz56_0, hfz56_1, hfz56_2, hfz56_3⟩ := bc4 BK340.out
         go_wp2
         refine bodyPost_ret (results_ct rfl _ _ gb340 26 #[.int .i64 0, .int .i64 0, .slice none 0 0, .slice none 0 0] (0, 0) _ rfl bk Try.underlying26 rfl (by kernel_rfl)) rfl ?_
         exact ⟨_, _, rq, nz, nz, bz⟩
        ·replace c54 := Bool.eq_false_iff.mpr c54
         subst c54
         have H1 : (some (t342, t345, x349002_1, x349003_1, true)) = some (r1, r2, r3, r4, r5) := by rw [if_neg (show ¬ (false = true) by decide)] at H; exact H
         clear H
         have H := H1
         clear H1
         simp only [Option.some.injEq, Prod.mk.injEq] at H
         obtain ⟨rfl, rfl, rfl, rfl, rfl⟩ := H
         have hnb57 := NB348_340.out
         have hnc57 := NB340_348.out
         obtain ⟨hcz58_0, hcz58_1, hcz58_2, hcz58_3, hfz58_0, hfz58_1, hfz58_2, hfz58_3⟩ := bc4 BK348.out
         obtain ⟨hcz59_0, hcz59_1, hcz59_2, hcz59_3, hfz59_0, hfz59_1, hfz59_2, hfz59_3⟩ := bc4 BK340.out
         obtain ⟨Ao60, co60, eo60⟩ := Kd.R_slice HO_349002.out
         subst eo60
         obtain ⟨Ao61, co61, eo61⟩ := Kd.R_slice HO_349003.out
         subst eo61
         go_wp2
         refine bodyPost_ret (results_ct rfl _ _ gb340 26 #[.int .i64 t342, .int .i64 t345, .slice Ao60 x349002_1.length co60, .slice Ao61 x349003_1.length co61] (0, 0) _ rfl bk Try.underlying26 rfl (by kernel_rfl)) rfl ?_
         exact ⟨_, _, rq, by refine rs ?_; exact Kd.R_mono (Kd.rf (Kd.rf (Kd.rf (Kd.rf (Kd.R_types HO_349002.out BK340.out (by decide)))))) (fun _ hk => trivial), by refine rs ?_; exact Kd.R_mono (Kd.rf (Kd.rf (Kd.rf (Kd.rf (Kd.R_types HO_349003.out BK340.out (by decide)))))) (fun _ hk => trivial), bz⟩

end Go.Proofs.Ytjiaigjmihmdjaa.PFnExactGetMsg
