
/- The strong sums: what the program's and the reference's functions of them come to. No statement of a law stands here. -/
import Derived.Test.YtjiaigjmihmdjaaDoorMine
import Derived.Test.YtjiaigjmihmdjaaDoorSum1
import Derived.Below
import Derived.Deep.Draws
import Derived.Deep.AppendLies
import Derived.Maps.AppendAt
import Derived.OwnWalk
import Derived.Laws.BytesArg
import Derived.Laws.MakeOwn
import Derived.Laws.OwnMore
import Derived.Deep.OwnRows
import Derived.Tactics
import Derived.Lib.ConvBytes
import Derived.Laws.Slices
import Derived.WalkKit
import Derived.KernelRfl
import Derived.RowKit3
import Derived.Deep.LoopGhost
import Derived.Deep.QuietTactic
import Derived.BigQuiet
import Derived.WideLaws
import Derived.Deep.DeepCutAuto
import Derived.Deep.CutBlock
import Derived.Deep.RegionHeld3
import Derived.Laws.Rows
import Derived.Lib.AppendStr
import Derived.ArgAppend
import Derived.Laws.IdiomCopy
import Derived.OrdersHeld
import Derived.Laws.BitsLemmas
import Derived.RowKit
import Derived.Test.YtjiaigjmihmdjaaDoorK0
namespace Go.Proofs.YtjiaigjmihmdjaaDoor.Sum
open Go.RowKit Go.Proofs.YtjiaigjmihmdjaaDoorW.PrintWords Go.Proofs.YtjiaigjmihmdjaaDoorW.PrintLast Go.Proofs.YtjiaigjmihmdjaaDoorW.PrintMore
attribute [local go_sem] max2_int min2_int max_two min_two max_three min_three max_four min_four
set_option linter.unusedVariables false
set_option linter.unusedSimpArgs false
/-! ### spec_l04K: function 161 -/
def spec_l04K.f (a0 : Int) : Option (Int) := (some (([3614090360, 3905402710, 606105819, 3250441966, 4118548399, 1200080426, 2821735955, 4249261313, 1770035416, 2336552879, 4294925233, 2304563134, 1804603682, 4254626195, 2792965006, 1236535329, 4129170786, 3225465664, 643717713, 3921069994, 3593408605, 38016083, 3634488961, 3889429448, 568446438, 3275163606, 4107603335, 1163531501, 2850285829, 4243563512, 1735328473, 2368359562, 4294588738, 2272392833, 1839030562, 4259657740, 2763975236, 1272893353, 4139469664, 3200236656, 681279174, 3936430074, 3572445317, 76029189, 3654602809, 3873151461, 530742520, 3299628645, 4096336452, 1126891415, 2878612391, 4237533241, 1700485571, 2399980690, 4293915773, 2240044497, 1873313359, 4264355552, 2734768916, 1309151649, 4149444226, 3174756917, 718787259, 3951481745] : List Int) : List Int)).bind fun y121 => (if 0 ≤ a0 then (if a0 < (y121.length : Int) then (some (rd y121 a0)) else (none)) else (none))
set_option maxHeartbeats 8000000 in
set_option maxRecDepth 100000 in
theorem spec_l04K.calls (a0 : Int) (r : Int) (w : World) (h : spec_l04K.f a0 = some r) :
  Calls Tryd.prog 161 #[.int .i64 a0] w fun e w' => e = .returned (.int .u32 r) ∧ Below w.heap.size w w' := by
 have HB := Aside0.mk (Below.refl w.heap.size w)
 have H : ((some (([3614090360, 3905402710, 606105819, 3250441966, 4118548399, 1200080426, 2821735955, 4249261313, 1770035416, 2336552879, 4294925233, 2304563134, 1804603682, 4254626195, 2792965006, 1236535329, 4129170786, 3225465664, 643717713, 3921069994, 3593408605, 38016083, 3634488961, 3889429448, 568446438, 3275163606, 4107603335, 1163531501, 2850285829, 4243563512, 1735328473, 2368359562, 4294588738, 2272392833, 1839030562, 4259657740, 2763975236, 1272893353, 4139469664, 3200236656, 681279174, 3936430074, 3572445317, 76029189, 3654602809, 3873151461, 530742520, 3299628645, 4096336452, 1126891415, 2878612391, 4237533241, 1700485571, 2399980690, 4293915773, 2240044497, 1873313359, 4264355552, 2734768916, 1309151649, 4149444226, 3174756917, 718787259, 3951481745] : List Int) : List Int)).bind fun y121 => (if 0 ≤ a0 then (if a0 < (y121.length : Int) then (some (rd y121 a0)) else (none)) else (none))) = some r := h
 clear h
 obtain ⟨y121, hy121⟩ : ∃ y_ : List Int, y_ = (([3614090360, 3905402710, 606105819, 3250441966, 4118548399, 1200080426, 2821735955, 4249261313, 1770035416, 2336552879, 4294925233, 2304563134, 1804603682, 4254626195, 2792965006, 1236535329, 4129170786, 3225465664, 643717713, 3921069994, 3593408605, 38016083, 3634488961, 3889429448, 568446438, 3275163606, 4107603335, 1163531501, 2850285829, 4243563512, 1735328473, 2368359562, 4294588738, 2272392833, 1839030562, 4259657740, 2763975236, 1272893353, 4139469664, 3200236656, 681279174, 3936430074, 3572445317, 76029189, 3654602809, 3873151461, 530742520, 3299628645, 4096336452, 1126891415, 2878612391, 4237533241, 1700485571, 2399980690, 4293915773, 2240044497, 1873313359, 4264355552, 2734768916, 1309151649, 4149444226, 3174756917, 718787259, 3951481745] : List Int)) := ⟨_, rfl⟩
 replace H : (if 0 ≤ a0 then (if a0 < (y121.length : Int) then (some (rd y121 a0)) else (none)) else (none)) = some r := by first | (rw [hy121]; with_reducible exact H) | (have H2_ := (Option.bind_some _ _).symm.trans H; rw [hy121]; with_reducible exact H2_) | (have H2_ := (Option.bind_some _ _).symm.trans H; with_reducible exact H2_) | with_reducible exact H | (rw [hy121]; exact H) | exact H
 have Ny121 := Aside0.mk hy121
 clear hy121
 by_cases c2 : 0 ≤ a0
 ·rw [if_pos c2] at H
  have c2b0 : decide (0 ≤ a0) = true := decide_eq_true c2
  clear c2
  by_cases c3 : a0 < (y121.length : Int)
  ·rw [if_pos c3] at H
   have c3b0 : decide (a0 < (y121.length : Int)) = true := decide_eq_true c3
   clear c3
   obtain rfl := Option.some.inj H
   go_enter Tryd.func161, Tryd.ntmps161
   go_wp2_with (first | ((with_reducible refine gate_dst (N := 4) rfl ?_); refine Kd.R_lit (Kd.int .u32) _ 24 ?hg (N := 4) ?hd (xs := ([3614090360, 3905402710, 606105819, 3250441966, 4118548399, 1200080426, 2821735955, 4249261313, 1770035416, 2336552879, 4294925233, 2304563134, 1804603682, 4254626195, 2792965006, 1236535329, 4129170786, 3225465664, 643717713, 3921069994, 3593408605, 38016083, 3634488961, 3889429448, 568446438, 3275163606, 4107603335, 1163531501, 2850285829, 4243563512, 1735328473, 2368359562, 4294588738, 2272392833, 1839030562, 4259657740, 2763975236, 1272893353, 4139469664, 3200236656, 681279174, 3936430074, 3572445317, 76029189, 3654602809, 3873151461, 530742520, 3299628645, 4096336452, 1126891415, 2878612391, 4237533241, 1700485571, 2399980690, 4293915773, 2240044497, 1873313359, 4264355552, 2734768916, 1309151649, 4149444226, 3174756917, 718787259, 3951481745] : List Int)) (inner := [.int .u32 3614090360, .int .u32 3905402710, .int .u32 606105819, .int .u32 3250441966, .int .u32 4118548399, .int .u32 1200080426, .int .u32 2821735955, .int .u32 4249261313, .int .u32 1770035416, .int .u32 2336552879, .int .u32 4294925233, .int .u32 2304563134, .int .u32 1804603682, .int .u32 4254626195, .int .u32 2792965006, .int .u32 1236535329, .int .u32 4129170786, .int .u32 3225465664, .int .u32 643717713, .int .u32 3921069994, .int .u32 3593408605, .int .u32 38016083, .int .u32 3634488961, .int .u32 3889429448, .int .u32 568446438, .int .u32 3275163606, .int .u32 4107603335, .int .u32 1163531501, .int .u32 2850285829, .int .u32 4243563512, .int .u32 1735328473, .int .u32 2368359562, .int .u32 4294588738, .int .u32 2272392833, .int .u32 1839030562, .int .u32 4259657740, .int .u32 2763975236, .int .u32 1272893353, .int .u32 4139469664, .int .u32 3200236656, .int .u32 681279174, .int .u32 3936430074, .int .u32 3572445317, .int .u32 76029189, .int .u32 3654602809, .int .u32 3873151461, .int .u32 530742520, .int .u32 3299628645, .int .u32 4096336452, .int .u32 1126891415, .int .u32 2878612391, .int .u32 4237533241, .int .u32 1700485571, .int .u32 2399980690, .int .u32 4293915773, .int .u32 2240044497, .int .u32 1873313359, .int .u32 4264355552, .int .u32 2734768916, .int .u32 1309151649, .int .u32 4149444226, .int .u32 3174756917, .int .u32 718787259, .int .u32 3951481745]) (ok := fun _ => True) (okp := fun _ => True) ?hr ?hp (fun _ hk => hk) trivial (Below.refl _ _) (Nat.le_refl _) (by simp) ?_; (case hd => rfl); (case hg => rfl); (case hr => first | (go_simp; done) | (go_simp; rfl)); (case hp => exact (Reps.one (show Kd.M (Kd.int .u32) _ _ _ 3614090360 [.int .u32 3614090360] from rfl) (Reps.one (show Kd.M (Kd.int .u32) _ _ _ 3905402710 [.int .u32 3905402710] from rfl) (Reps.one (show Kd.M (Kd.int .u32) _ _ _ 606105819 [.int .u32 606105819] from rfl) (Reps.one (show Kd.M (Kd.int .u32) _ _ _ 3250441966 [.int .u32 3250441966] from rfl) (Reps.one (show Kd.M (Kd.int .u32) _ _ _ 4118548399 [.int .u32 4118548399] from rfl) (Reps.one (show Kd.M (Kd.int .u32) _ _ _ 1200080426 [.int .u32 1200080426] from rfl) (Reps.one (show Kd.M (Kd.int .u32) _ _ _ 2821735955 [.int .u32 2821735955] from rfl) (Reps.one (show Kd.M (Kd.int .u32) _ _ _ 4249261313 [.int .u32 4249261313] from rfl) (Reps.one (show Kd.M (Kd.int .u32) _ _ _ 1770035416 [.int .u32 1770035416] from rfl) (Reps.one (show Kd.M (Kd.int .u32) _ _ _ 2336552879 [.int .u32 2336552879] from rfl) (Reps.one (show Kd.M (Kd.int .u32) _ _ _ 4294925233 [.int .u32 4294925233] from rfl) (Reps.one (show Kd.M (Kd.int .u32) _ _ _ 2304563134 [.int .u32 2304563134] from rfl) (Reps.one (show Kd.M (Kd.int .u32) _ _ _ 1804603682 [.int .u32 1804603682] from rfl) (Reps.one (show Kd.M (Kd.int .u32) _ _ _ 4254626195 [.int .u32 4254626195] from rfl) (Reps.one (show Kd.M (Kd.int .u32) _ _ _ 2792965006 [.int .u32 2792965006] from rfl) (Reps.one (show Kd.M (Kd.int .u32) _ _ _ 1236535329 [.int .u32 1236535329] from rfl) (Reps.one (show Kd.M (Kd.int .u32) _ _ _ 4129170786 [.int .u32 4129170786] from rfl) (Reps.one (show Kd.M (Kd.int .u32) _ _ _ 3225465664 [.int .u32 3225465664] from rfl) (Reps.one (show Kd.M (Kd.int .u32) _ _ _ 643717713 [.int .u32 643717713] from rfl) (Reps.one (show Kd.M (Kd.int .u32) _ _ _ 3921069994 [.int .u32 3921069994] from rfl) (Reps.one (show Kd.M (Kd.int .u32) _ _ _ 3593408605 [.int .u32 3593408605] from rfl) (Reps.one (show Kd.M (Kd.int .u32) _ _ _ 38016083 [.int .u32 38016083] from rfl) (Reps.one (show Kd.M (Kd.int .u32) _ _ _ 3634488961 [.int .u32 3634488961] from rfl) (Reps.one (show Kd.M (Kd.int .u32) _ _ _ 3889429448 [.int .u32 3889429448] from rfl) (Reps.one (show Kd.M (Kd.int .u32) _ _ _ 568446438 [.int .u32 568446438] from rfl) (Reps.one (show Kd.M (Kd.int .u32) _ _ _ 3275163606 [.int .u32 3275163606] from rfl) (Reps.one (show Kd.M (Kd.int .u32) _ _ _ 4107603335 [.int .u32 4107603335] from rfl) (Reps.one (show Kd.M (Kd.int .u32) _ _ _ 1163531501 [.int .u32 1163531501] from rfl) (Reps.one (show Kd.M (Kd.int .u32) _ _ _ 2850285829 [.int .u32 2850285829] from rfl) (Reps.one (show Kd.M (Kd.int .u32) _ _ _ 4243563512 [.int .u32 4243563512] from rfl) (Reps.one (show Kd.M (Kd.int .u32) _ _ _ 1735328473 [.int .u32 1735328473] from rfl) (Reps.one (show Kd.M (Kd.int .u32) _ _ _ 2368359562 [.int .u32 2368359562] from rfl) (Reps.one (show Kd.M (Kd.int .u32) _ _ _ 4294588738 [.int .u32 4294588738] from rfl) (Reps.one (show Kd.M (Kd.int .u32) _ _ _ 2272392833 [.int .u32 2272392833] from rfl) (Reps.one (show Kd.M (Kd.int .u32) _ _ _ 1839030562 [.int .u32 1839030562] from rfl) (Reps.one (show Kd.M (Kd.int .u32) _ _ _ 4259657740 [.int .u32 4259657740] from rfl) (Reps.one (show Kd.M (Kd.int .u32) _ _ _ 2763975236 [.int .u32 2763975236] from rfl) (Reps.one (show Kd.M (Kd.int .u32) _ _ _ 1272893353 [.int .u32 1272893353] from rfl) (Reps.one (show Kd.M (Kd.int .u32) _ _ _ 4139469664 [.int .u32 4139469664] from rfl) (Reps.one (show Kd.M (Kd.int .u32) _ _ _ 3200236656 [.int .u32 3200236656] from rfl) (Reps.one (show Kd.M (Kd.int .u32) _ _ _ 681279174 [.int .u32 681279174] from rfl) (Reps.one (show Kd.M (Kd.int .u32) _ _ _ 3936430074 [.int .u32 3936430074] from rfl) (Reps.one (show Kd.M (Kd.int .u32) _ _ _ 3572445317 [.int .u32 3572445317] from rfl) (Reps.one (show Kd.M (Kd.int .u32) _ _ _ 76029189 [.int .u32 76029189] from rfl) (Reps.one (show Kd.M (Kd.int .u32) _ _ _ 3654602809 [.int .u32 3654602809] from rfl) (Reps.one (show Kd.M (Kd.int .u32) _ _ _ 3873151461 [.int .u32 3873151461] from rfl) (Reps.one (show Kd.M (Kd.int .u32) _ _ _ 530742520 [.int .u32 530742520] from rfl) (Reps.one (show Kd.M (Kd.int .u32) _ _ _ 3299628645 [.int .u32 3299628645] from rfl) (Reps.one (show Kd.M (Kd.int .u32) _ _ _ 4096336452 [.int .u32 4096336452] from rfl) (Reps.one (show Kd.M (Kd.int .u32) _ _ _ 1126891415 [.int .u32 1126891415] from rfl) (Reps.one (show Kd.M (Kd.int .u32) _ _ _ 2878612391 [.int .u32 2878612391] from rfl) (Reps.one (show Kd.M (Kd.int .u32) _ _ _ 4237533241 [.int .u32 4237533241] from rfl) (Reps.one (show Kd.M (Kd.int .u32) _ _ _ 1700485571 [.int .u32 1700485571] from rfl) (Reps.one (show Kd.M (Kd.int .u32) _ _ _ 2399980690 [.int .u32 2399980690] from rfl) (Reps.one (show Kd.M (Kd.int .u32) _ _ _ 4293915773 [.int .u32 4293915773] from rfl) (Reps.one (show Kd.M (Kd.int .u32) _ _ _ 2240044497 [.int .u32 2240044497] from rfl) (Reps.one (show Kd.M (Kd.int .u32) _ _ _ 1873313359 [.int .u32 1873313359] from rfl) (Reps.one (show Kd.M (Kd.int .u32) _ _ _ 4264355552 [.int .u32 4264355552] from rfl) (Reps.one (show Kd.M (Kd.int .u32) _ _ _ 2734768916 [.int .u32 2734768916] from rfl) (Reps.one (show Kd.M (Kd.int .u32) _ _ _ 1309151649 [.int .u32 1309151649] from rfl) (Reps.one (show Kd.M (Kd.int .u32) _ _ _ 4149444226 [.int .u32 4149444226] from rfl) (Reps.one (show Kd.M (Kd.int .u32) _ _ _ 3174756917 [.int .u32 3174756917] from rfl) (Reps.one (show Kd.M (Kd.int .u32) _ _ _ 718787259 [.int .u32 718787259] from rfl) (Reps.one (show Kd.M (Kd.int .u32) _ _ _ 3951481745 [.int .u32 3951481745] from rfl) (Reps.none _ _)))))))))))))))))))))))))))))))))))))))))))))))))))))))))))))))))); intro v122 w4 ho5 hb hg_ hnew_; clear hg_ hnew_; (first | rw [← Ny121.out] at ho5 | (simp only [Int.reduceToNat] at ho5; rw [← Ny121.out] at ho5)); have n0_ := Aside0.mk (Kd.R_lower ho5 (below_size (by repeat (first | (with_reducible first | exact HB.out | apply below_alloc | apply pw_below_drewN | apply below_drew1) | exact HB.out)))); have n1_ := Aside0.mk (below_step (by repeat (first | (with_reducible first | exact HB.out | apply below_alloc | apply pw_below_drewN | apply below_drew1) | exact HB.out)) hb); clear HB; have HO123 := n0_; have HB := n1_; clear n0_ n1_; clear hb ho5; obtain ⟨Ao6, co6, eo6⟩ := Kd.R_slice HO123.out; subst eo6; have p124 : 0 ≤ (a0 : Int) := of_decide_eq_true (by first | (with_reducible assumption) | assumption); have q124 : a0 < (y121.length : Int) := of_decide_eq_true (by first | (with_reducible assumption) | assumption); obtain ⟨ad124, e124, hx124_0⟩ := Kd.at_int (Kd.R_reads' HO123.out).2.2 a0 p124 q124; cases e124; replace p124 := eq_true p124; replace q124 := eq_true q124))
   go_ret
   exact ⟨by first | rfl | (simp [errW_none, errW_some] <;> rfl) | (simp [*, errW_none, errW_some] <;> rfl), by repeat (first | (with_reducible first | exact HB.out | apply below_alloc | apply pw_below_drewN | apply below_drew1) | exact HB.out)⟩
  ·rw [if_neg c3] at H
   exact absurd H (by simp)
 ·rw [if_neg c2] at H
  exact absurd H (by simp)


/-! ### spec_l04S: function 162 -/
def spec_l04S.f (a0 : Int) : Option (Int) := (some (([7, 12, 17, 22, 5, 9, 14, 20, 4, 11, 16, 23, 6, 10, 15, 21] : List Int) : List Int)).bind fun y125 => (if 0 ≤ (wrap64 ((wrap64 (4 * (wrap64 (Int.tdiv a0 16)))) + (Int.tmod a0 4))) then (if (wrap64 ((wrap64 (4 * (wrap64 (Int.tdiv a0 16)))) + (Int.tmod a0 4))) < (y125.length : Int) then (some (rd y125 (wrap64 ((wrap64 (4 * (wrap64 (Int.tdiv a0 16)))) + (Int.tmod a0 4))))) else (none)) else (none))
set_option maxHeartbeats 8000000 in
set_option maxRecDepth 100000 in
theorem spec_l04S.calls (a0 : Int) (r : Int) (w : World) (h : spec_l04S.f a0 = some r) :
  Calls Tryd.prog 162 #[.int .i64 a0] w fun e w' => e = .returned (.int .i64 r) ∧ Below w.heap.size w w' := by
 have HB := Aside0.mk (Below.refl w.heap.size w)
 have H : ((some (([7, 12, 17, 22, 5, 9, 14, 20, 4, 11, 16, 23, 6, 10, 15, 21] : List Int) : List Int)).bind fun y125 => (if 0 ≤ (wrap64 ((wrap64 (4 * (wrap64 (Int.tdiv a0 16)))) + (Int.tmod a0 4))) then (if (wrap64 ((wrap64 (4 * (wrap64 (Int.tdiv a0 16)))) + (Int.tmod a0 4))) < (y125.length : Int) then (some (rd y125 (wrap64 ((wrap64 (4 * (wrap64 (Int.tdiv a0 16)))) + (Int.tmod a0 4))))) else (none)) else (none))) = some r := h
 clear h
 obtain ⟨y125, hy125⟩ : ∃ y_ : List Int, y_ = (([7, 12, 17, 22, 5, 9, 14, 20, 4, 11, 16, 23, 6, 10, 15, 21] : List Int)) := ⟨_, rfl⟩
 replace H : (if 0 ≤ (wrap64 ((wrap64 (4 * (wrap64 (Int.tdiv a0 16)))) + (Int.tmod a0 4))) then (if (wrap64 ((wrap64 (4 * (wrap64 (Int.tdiv a0 16)))) + (Int.tmod a0 4))) < (y125.length : Int) then (some (rd y125 (wrap64 ((wrap64 (4 * (wrap64 (Int.tdiv a0 16)))) + (Int.tmod a0 4))))) else (none)) else (none)) = some r := by first | (rw [hy125]; with_reducible exact H) | (have H2_ := (Option.bind_some _ _).symm.trans H; rw [hy125]; with_reducible exact H2_) | (have H2_ := (Option.bind_some _ _).symm.trans H; with_reducible exact H2_) | with_reducible exact H | (rw [hy125]; exact H) | exact H
 have Ny125 := Aside0.mk hy125
 clear hy125
 obtain ⟨ji2, hji2⟩ : ∃ j_ : Int, (wrap64 ((wrap64 (4 * (wrap64 (Int.tdiv a0 16)))) + (Int.tmod a0 4))) = j_ := ⟨_, rfl⟩
 replace H : (if 0 ≤ (ji2) then (if (ji2) < (y125.length : Int) then (some (rd y125 (ji2))) else (none)) else (none)) = some r := by first | (rw [hji2] at H; exact H) | (simp only [hji2] at H ⊢; exact H)
 have hji2w : (IntKind.i64.wrap ((wrap64 (4 * (wrap64 (Int.tdiv a0 16)))) + (Int.tmod a0 4))) = ji2 := (i64_w _).trans hji2
 by_cases c3 : 0 ≤ (ji2)
 ·rw [if_pos c3] at H
  have c3b0 : decide (0 ≤ (ji2)) = true := decide_eq_true c3
  clear c3
  by_cases c4 : (ji2) < (y125.length : Int)
  ·rw [if_pos c4] at H
   have c4b0 : decide ((ji2) < (y125.length : Int)) = true := decide_eq_true c4
   clear c4
   obtain rfl := Option.some.inj H
   go_enter Tryd.func162, Tryd.ntmps162
   go_wp2_with (first | ((with_reducible refine gate_dst (N := 4) rfl ?_); refine Kd.R_lit (Kd.int .i64) _ 3 ?hg (N := 4) ?hd (xs := ([7, 12, 17, 22, 5, 9, 14, 20, 4, 11, 16, 23, 6, 10, 15, 21] : List Int)) (inner := [.int .i64 7, .int .i64 12, .int .i64 17, .int .i64 22, .int .i64 5, .int .i64 9, .int .i64 14, .int .i64 20, .int .i64 4, .int .i64 11, .int .i64 16, .int .i64 23, .int .i64 6, .int .i64 10, .int .i64 15, .int .i64 21]) (ok := fun _ => True) (okp := fun _ => True) ?hr ?hp (fun _ hk => hk) trivial (Below.refl _ _) (Nat.le_refl _) (by simp) ?_; (case hd => rfl); (case hg => rfl); (case hr => first | (go_simp; done) | (go_simp; rfl)); (case hp => exact (Reps.one (show Kd.M (Kd.int .i64) _ _ _ 7 [.int .i64 7] from rfl) (Reps.one (show Kd.M (Kd.int .i64) _ _ _ 12 [.int .i64 12] from rfl) (Reps.one (show Kd.M (Kd.int .i64) _ _ _ 17 [.int .i64 17] from rfl) (Reps.one (show Kd.M (Kd.int .i64) _ _ _ 22 [.int .i64 22] from rfl) (Reps.one (show Kd.M (Kd.int .i64) _ _ _ 5 [.int .i64 5] from rfl) (Reps.one (show Kd.M (Kd.int .i64) _ _ _ 9 [.int .i64 9] from rfl) (Reps.one (show Kd.M (Kd.int .i64) _ _ _ 14 [.int .i64 14] from rfl) (Reps.one (show Kd.M (Kd.int .i64) _ _ _ 20 [.int .i64 20] from rfl) (Reps.one (show Kd.M (Kd.int .i64) _ _ _ 4 [.int .i64 4] from rfl) (Reps.one (show Kd.M (Kd.int .i64) _ _ _ 11 [.int .i64 11] from rfl) (Reps.one (show Kd.M (Kd.int .i64) _ _ _ 16 [.int .i64 16] from rfl) (Reps.one (show Kd.M (Kd.int .i64) _ _ _ 23 [.int .i64 23] from rfl) (Reps.one (show Kd.M (Kd.int .i64) _ _ _ 6 [.int .i64 6] from rfl) (Reps.one (show Kd.M (Kd.int .i64) _ _ _ 10 [.int .i64 10] from rfl) (Reps.one (show Kd.M (Kd.int .i64) _ _ _ 15 [.int .i64 15] from rfl) (Reps.one (show Kd.M (Kd.int .i64) _ _ _ 21 [.int .i64 21] from rfl) (Reps.none _ _)))))))))))))))))); intro v126 w5 ho6 hb hg_ hnew_; clear hg_ hnew_; (first | rw [← Ny125.out] at ho6 | (simp only [Int.reduceToNat] at ho6; rw [← Ny125.out] at ho6)); have n0_ := Aside0.mk (Kd.R_lower ho6 (below_size (by repeat (first | (with_reducible first | exact HB.out | apply below_alloc | apply pw_below_drewN | apply below_drew1) | exact HB.out)))); have n1_ := Aside0.mk (below_step (by repeat (first | (with_reducible first | exact HB.out | apply below_alloc | apply pw_below_drewN | apply below_drew1) | exact HB.out)) hb); clear HB; have HO127 := n0_; have HB := n1_; clear n0_ n1_; clear hb ho6; obtain ⟨Ao7, co7, eo7⟩ := Kd.R_slice HO127.out; subst eo7; have p128 : 0 ≤ ((ji2) : Int) := of_decide_eq_true (by first | (with_reducible assumption) | assumption); have q128 : (ji2) < (y125.length : Int) := of_decide_eq_true (by first | (with_reducible assumption) | assumption); obtain ⟨ad128, e128, hx128_0⟩ := Kd.at_int (Kd.R_reads' HO127.out).2.2 (ji2) p128 q128; cases e128; replace p128 := eq_true p128; replace q128 := eq_true q128))
   go_ret
   exact ⟨by first | rfl | (simp [errW_none, errW_some] <;> rfl) | (simp only [← hji2]; first | rfl | (simp [errW_none, errW_some] <;> rfl)) | (simp [*, errW_none, errW_some] <;> rfl), by repeat (first | (with_reducible first | exact HB.out | apply below_alloc | apply pw_below_drewN | apply below_drew1) | exact HB.out)⟩
  ·rw [if_neg c4] at H
   exact absurd H (by simp)
 ·rw [if_neg c3] at H
  exact absurd H (by simp)


/-! ### spec_PutWord: function 102 -/
def spec_PutWord.f (a0 : Int) : Option (List Int) := some (([(Int.tmod (wrap64 (a0)) 256) % 256, (Int.tmod (wrap64 (Int.tdiv (wrap64 (a0)) 256)) 256) % 256, (Int.tmod (wrap64 (Int.tdiv (wrap64 (a0)) 65536)) 256) % 256, (wrap64 (Int.tdiv (wrap64 (a0)) 16777216)) % 256] : List Int))
set_option maxHeartbeats 8000000 in
set_option maxRecDepth 100000 in
theorem spec_PutWord.calls (a0 : Int) (r : List Int) (w : World) (h : spec_PutWord.f a0 = some r) :
  Calls Tryd.prog 102 #[.int .u32 a0] w fun e w' => ∃ v0_ : Value, e = .returned (v0_) ∧ Kd.R (Kd.int .u8) 5 w' w.heap.size (fun _ => True) v0_ r ∧ Below w.heap.size w w' := by
 have HB := Aside0.mk (Below.refl w.heap.size w)
 have H : (some (([(Int.tmod (wrap64 (a0)) 256) % 256, (Int.tmod (wrap64 (Int.tdiv (wrap64 (a0)) 256)) 256) % 256, (Int.tmod (wrap64 (Int.tdiv (wrap64 (a0)) 65536)) 256) % 256, (wrap64 (Int.tdiv (wrap64 (a0)) 16777216)) % 256] : List Int))) = some r := h
 clear h
 obtain ⟨y129, hy129⟩ : ∃ y_ : List Int, y_ = (([(Int.tmod (wrap64 (a0)) 256) % 256, (Int.tmod (wrap64 (Int.tdiv (wrap64 (a0)) 256)) 256) % 256, (Int.tmod (wrap64 (Int.tdiv (wrap64 (a0)) 65536)) 256) % 256, (wrap64 (Int.tdiv (wrap64 (a0)) 16777216)) % 256] : List Int)) := ⟨_, rfl⟩
 replace H : (some y129) = some r := by first | (rw [hy129]; with_reducible exact H) | (have H2_ := (Option.bind_some _ _).symm.trans H; rw [hy129]; with_reducible exact H2_) | (have H2_ := (Option.bind_some _ _).symm.trans H; with_reducible exact H2_) | with_reducible exact H | (rw [hy129]; exact H) | exact H
 have Ny129 := Aside0.mk hy129
 clear hy129
 obtain rfl := Option.some.inj H
 go_enter Tryd.func102, Tryd.ntmps102
 go_wp2_with (first | ((with_reducible refine gate_dst (N := 20) rfl ?_); refine Kd.R_lit (Kd.int .u8) _ 5 ?hg (N := 20) ?hd (xs := ([(Int.tmod (wrap64 (a0)) 256) % 256, (Int.tmod (wrap64 (Int.tdiv (wrap64 (a0)) 256)) 256) % 256, (Int.tmod (wrap64 (Int.tdiv (wrap64 (a0)) 65536)) 256) % 256, (wrap64 (Int.tdiv (wrap64 (a0)) 16777216)) % 256] : List Int)) (inner := [.int .u8 ((Int.tmod (wrap64 (a0)) 256) % 256), .int .u8 ((Int.tmod (wrap64 (Int.tdiv (wrap64 (a0)) 256)) 256) % 256), .int .u8 ((Int.tmod (wrap64 (Int.tdiv (wrap64 (a0)) 65536)) 256) % 256), .int .u8 ((wrap64 (Int.tdiv (wrap64 (a0)) 16777216)) % 256)]) (ok := fun _ => True) (okp := fun _ => True) ?hr ?hp (fun _ hk => hk) trivial (Below.refl _ _) (Nat.le_refl _) (by simp) ?_; (case hd => rfl); (case hg => rfl); (case hr => first | (go_simp; done) | (go_simp; rfl)); (case hp => exact (Reps.one (show Kd.M (Kd.int .u8) _ _ _ ((Int.tmod (wrap64 (a0)) 256) % 256) [.int .u8 ((Int.tmod (wrap64 (a0)) 256) % 256)] from rfl) (Reps.one (show Kd.M (Kd.int .u8) _ _ _ ((Int.tmod (wrap64 (Int.tdiv (wrap64 (a0)) 256)) 256) % 256) [.int .u8 ((Int.tmod (wrap64 (Int.tdiv (wrap64 (a0)) 256)) 256) % 256)] from rfl) (Reps.one (show Kd.M (Kd.int .u8) _ _ _ ((Int.tmod (wrap64 (Int.tdiv (wrap64 (a0)) 65536)) 256) % 256) [.int .u8 ((Int.tmod (wrap64 (Int.tdiv (wrap64 (a0)) 65536)) 256) % 256)] from rfl) (Reps.one (show Kd.M (Kd.int .u8) _ _ _ ((wrap64 (Int.tdiv (wrap64 (a0)) 16777216)) % 256) [.int .u8 ((wrap64 (Int.tdiv (wrap64 (a0)) 16777216)) % 256)] from rfl) (Reps.none _ _)))))); intro v130 w2 ho3 hb hg_ hnew_; clear hg_ hnew_; (first | rw [← Ny129.out] at ho3 | (simp only [Int.reduceToNat] at ho3; rw [← Ny129.out] at ho3)); have n0_ := Aside0.mk (Kd.R_lower ho3 (below_size (by repeat (first | (with_reducible first | exact HB.out | apply below_alloc | apply pw_below_drewN | apply below_drew1) | exact HB.out)))); have n1_ := Aside0.mk (below_step (by repeat (first | (with_reducible first | exact HB.out | apply below_alloc | apply pw_below_drewN | apply below_drew1) | exact HB.out)) hb); clear HB; have HO131 := n0_; have HB := n1_; clear n0_ n1_; clear hb ho3))
 go_ret
 exact ⟨_, by first | rfl | (simp [errW_none, errW_some] <;> rfl) | (simp [*, errW_none, errW_some] <;> rfl), by (with_reducible repeat (first | apply Kd.R_alloc | apply Kd.R_drewN | apply Kd.R_drew)); exact HO131.out, by repeat (first | (with_reducible first | exact HB.out | apply below_alloc | apply pw_below_drewN | apply below_drew1) | exact HB.out)⟩


theorem MxW.step {w : World} {s : Array Value} {w' w'' : World} (h : MxW w s w') (hb : Below w'.heap.size w' w'') : MxW w s w'' :=
 ⟨below_step h.below hb, blk_below h.row hb, blk_below h.out hb⟩
theorem MxW.grown {w : World} {s : Array Value} {w' w'' : World} (h : MxW w s w') (hb : Below w.heap.size w w'') (hg : w'.grownBy w'' none) : MxW w s w'' :=
 ⟨hb, (hg.block _ (blk_lt h.row) (by simp)).trans h.row, (hg.block _ (blk_lt h.out) (by simp)).trans h.out⟩
theorem kF {i : Nat} (h : i < 64) : spec_l04K.f i = some (mxKi i) := by
 unfold spec_l04K.f
 rw [Option.bind_some, if_pos (by omega)]
 show (if (i : Int) < (mxK.length : Int) then some (rd mxK (i : Int)) else none) = _
 rw [mxK_len, if_pos (by omega)]
 rfl
theorem sF {i : Nat} (h : i < 64) : spec_l04S.f i = some (mxSi (i / 16 * 4 + i % 4)) := by
 have e1 : Int.tdiv (i : Int) 16 = ((i / 16 : Nat) : Int) := by rw [Int.tdiv_eq_ediv_of_nonneg (by omega)]; omega
 have e2 : Int.tmod (i : Int) 4 = ((i % 4 : Nat) : Int) := by rw [Int.tmod_eq_emod_of_nonneg (by omega)]; omega
 have e3 : wrap64 (wrap64 (4 * wrap64 (Int.tdiv (i : Int) 16)) + Int.tmod (i : Int) 4) = ((i / 16 * 4 + i % 4 : Nat) : Int) := by
  rw [e1, e2, wrap64_id (x := ((i / 16 : Nat) : Int)) (by omega) (by omega), wrap64_id (x := 4 * ((i / 16 : Nat) : Int)) (by omega) (by omega), wrap64_id (by omega) (by omega)]
  omega
 unfold spec_l04S.f
 rw [Option.bind_some, e3, if_pos (by omega)]
 show (if ((i / 16 * 4 + i % 4 : Nat) : Int) < (mxS.length : Int) then some (rd mxS ((i / 16 * 4 + i % 4 : Nat) : Int)) else none) = _
 rw [mxS_len, if_pos (by omega)]
 rfl
theorem gW {B : ByteArray} {a b : Nat} {g : Int} (hB : B.size = 64) (ha : (a : Int) = 4 * g) (hb : (b : Int) = 4 * g + 4) (hg : 4 * g ≤ 60) : spec_GetWord.f (bytesOf (B.extract a b)) = some (mxW B g, true) := by
 have hl : B.data.toList.length = 64 := by rw [← hB]; rfl
 have e : bytesOf (B.extract a b) = nums ((B.data.toList.drop a).take 4) := by
  show nums (B.extract a b).data.toList = _
  rw [Lib.extract_data, show b - a = 4 from by omega]
 rw [e, specWord _ (by rw [List.length_take, List.length_drop]; omega)]
 have e2 : w4 ((B.data.toList.drop a).take 4) = w4 (B.data.toList.drop a) := by
  unfold w4
  simp [List.getD_eq_getElem?_getD, List.getElem?_take]
 rw [e2]
 unfold mxW
 rw [← ha]
 rfl
theorem wrapS {s : Int} (h : 4 ≤ s ∧ s ≤ 23) : IntKind.u64.wrap s = s := by rw [IntKind.wrap_u64]; omega
theorem wrapT {s : Int} (h : 4 ≤ s ∧ s ≤ 23) : IntKind.u64.wrap (32 - s) = 32 - s := by rw [IntKind.wrap_u64]; omega
theorem mxX_is (B : ByteArray) (i : Nat) (a b c d : Int) (h1 : 4 ≤ mxSi (i / 16 * 4 + i % 4)) (h2 : mxSi (i / 16 * 4 + i % 4) ≤ 23) : mxX B i a b c d = (b + Go.bits .or .u32 ((a + mxF i b c d + mxKi i + mxW B (mxG i)) % 4294967296 * 2 ^ (mxSi (i / 16 * 4 + i % 4)).toNat % 4294967296) ((a + mxF i b c d + mxKi i + mxW B (mxG i)) % 4294967296 / 2 ^ (32 - mxSi (i / 16 * 4 + i % 4)).toNat)) % 4294967296 := by
 have e1 : min (mxSi (i / 16 * 4 + i % 4)).toNat IntKind.u32.bits = (mxSi (i / 16 * 4 + i % 4)).toNat := Nat.min_eq_left (by show _ ≤ 32; omega)
 have e2 : min (32 - mxSi (i / 16 * 4 + i % 4)).toNat IntKind.u32.bits = (32 - mxSi (i / 16 * 4 + i % 4)).toNat := Nat.min_eq_left (by show _ ≤ 32; omega)
 unfold mxX mxT shl shr
 rw [e1, e2, IntKind.wrap_u32]
set_option maxHeartbeats 8000000 in
set_option maxRecDepth 100000 in
theorem mixs_calls (a b c d : Int) (B : ByteArray) (w : World) (hB : B.size = 64) :
  Calls Tryd.prog 101 #[.agg #[.int .u32 a, .int .u32 b, .int .u32 c, .int .u32 d], .string B] w fun e w' => e = .returned (.agg #[.int .u32 (mxB B (a, b, c, d)).1, .int .u32 (mxB B (a, b, c, d)).2.1, .int .u32 (mxB B (a, b, c, d)).2.2.1, .int .u32 (mxB B (a, b, c, d)).2.2.2]) ∧ Below w.heap.size w w' := by
 have hBl : (64 : Int) ≤ B.size := by omega
 have hBl2 : B.size ≤ 64 := by omega
 have hBn : ((B.size : Int) != 64) = false := by rw [hB]; rfl
 have HB := Aside0.mk hB
 clear hB
 go_enter Tryd.func101, Tryd.ntmps101
 go_wp2
 go_quiet (fail)
 go_wp2
 go_loopw [5, 6, 7, 8, 9] (fun v5 v6 v7 v8 v9 w' => ∃ (i : Nat) (a' b' c' d' : Int), v5 = .int .u32 a' ∧ v6 = .int .u32 b' ∧ v7 = .int .u32 c' ∧ v8 = .int .u32 d' ∧ v9 = .int .i64 i ∧ Aside0 (i ≤ 64) ∧ Aside0 (mxN (64 - i) i B (a', b', c', d') = mxN 64 0 B (a, b, c, d)) ∧ Aside0 (MxW w #[.int .u32 a, .int .u32 b, .int .u32 c, .int .u32 d] w')) (fun _ _ _ _ v9 _ => 64 - (intOf v9).toNat)
 case atStart => exact ⟨0, a, b, c, d, rfl, rfl, rfl, rfl, rfl, ⟨by omega⟩, ⟨rfl⟩, ⟨(MxW.mk0 _ _).drewN _⟩⟩
 case round =>
  obtain ⟨i, a', b', c', d', rfl, rfl, rfl, rfl, rfl, Hi, HN, HW⟩ := hrel
  by_cases hi : i < 64
  ·have hbd := mxSi_bound (i / 16 * 4 + i % 4) (by omega)
   have hws := wrapS hbd
   have hws2 := wrapT hbd
   obtain ⟨hs1, hs2⟩ := hbd
   have hs3 : 0 ≤ mxSi (i / 16 * 4 + i % 4) := by omega
   have hs4 : 0 ≤ 32 - mxSi (i / 16 * 4 + i % 4) := by omega
   have h0 : (i : Int) / 16 = 0 ∨ (i : Int) / 16 = 1 ∨ (i : Int) / 16 = 2 ∨ (i : Int) / 16 = 3 := by omega
   rcases h0 with h0 | h0 | h0 | h0
   focus
    have HF : Aside0 (mxF i b' c' d' = bits .or .u32 (bits .and .u32 b' c') (bits .and .u32 (bits .xor .u32 IntKind.u32.max b') d')) := ⟨by unfold mxF; rw [if_pos (by omega)]⟩
    have HG : Aside0 (mxG i = (i : Int)) := ⟨by unfold mxG; rw [if_pos (by omega)]⟩
    have b0 : ((i : Int) / 16 == 0) = true := beq_iff_eq.2 h0
    have hg : 4 * ((i : Int)) ≤ 60 := by omega
    have k1 : decide (4 * ((i : Int)) + 4 ≤ (B.size : Int)) = true := decide_eq_true (by omega)
    have k3 : (4 * ((i : Int)) + 4 ≤ (B.size : Int)) = True := eq_true (by omega)
    have k0 : decide (0 ≤ 4 * ((i : Int))) = true := decide_eq_true (by omega)
    have k0' : (0 ≤ 4 * ((i : Int))) = True := eq_true (by omega)
    have k5 : decide (4 * ((i : Int)) ≤ 4 * ((i : Int)) + 4) = true := decide_eq_true (by omega)
    have k5' : (4 * ((i : Int)) ≤ 4 * ((i : Int)) + 4) = True := eq_true (by omega)
    have k6 : decide (0 ≤ 4 * ((i : Int)) + 4) = true := decide_eq_true (by omega)
    have k6' : (0 ≤ 4 * ((i : Int)) + 4) = True := eq_true (by omega)
    have hmx : (B.extract (4 * ((i : Int))).toNat (4 * ((i : Int)) + 4).toNat).size ≤ 9223372036854775807 := by rw [ByteArray.size_extract]; omega
    clear h0
   rotate_left
   focus
    have HF : Aside0 (mxF i b' c' d' = bits .or .u32 (bits .and .u32 d' b') (bits .and .u32 (bits .xor .u32 IntKind.u32.max d') c')) := ⟨by unfold mxF; rw [if_neg (by omega)]; rw [if_pos (by omega)]⟩
    have HG : Aside0 (mxG i = (5 * (i : Int) + 1) % 16) := ⟨by unfold mxG; rw [if_neg (by omega)]; rw [if_pos (by omega)]⟩
    have b0 : ((i : Int) / 16 == 0) = false := beq_eq_false_iff_ne.2 (by omega)
    have b1 : ((i : Int) / 16 == 1) = true := beq_iff_eq.2 h0
    have hg : 4 * ((5 * (i : Int) + 1) % 16) ≤ 60 := by omega
    have k1 : decide (4 * ((5 * (i : Int) + 1) % 16) + 4 ≤ (B.size : Int)) = true := decide_eq_true (by omega)
    have k3 : (4 * ((5 * (i : Int) + 1) % 16) + 4 ≤ (B.size : Int)) = True := eq_true (by omega)
    have k0 : decide (0 ≤ 4 * ((5 * (i : Int) + 1) % 16)) = true := decide_eq_true (by omega)
    have k0' : (0 ≤ 4 * ((5 * (i : Int) + 1) % 16)) = True := eq_true (by omega)
    have k5 : decide (4 * ((5 * (i : Int) + 1) % 16) ≤ 4 * ((5 * (i : Int) + 1) % 16) + 4) = true := decide_eq_true (by omega)
    have k5' : (4 * ((5 * (i : Int) + 1) % 16) ≤ 4 * ((5 * (i : Int) + 1) % 16) + 4) = True := eq_true (by omega)
    have k6 : decide (0 ≤ 4 * ((5 * (i : Int) + 1) % 16) + 4) = true := decide_eq_true (by omega)
    have k6' : (0 ≤ 4 * ((5 * (i : Int) + 1) % 16) + 4) = True := eq_true (by omega)
    have hmx : (B.extract (4 * ((5 * (i : Int) + 1) % 16)).toNat (4 * ((5 * (i : Int) + 1) % 16) + 4).toNat).size ≤ 9223372036854775807 := by rw [ByteArray.size_extract]; omega
    clear h0
   rotate_left
   focus
    have HF : Aside0 (mxF i b' c' d' = bits .xor .u32 (bits .xor .u32 b' c') d') := ⟨by unfold mxF; rw [if_neg (by omega)]; rw [if_neg (by omega)]; rw [if_pos (by omega)]⟩
    have HG : Aside0 (mxG i = (3 * (i : Int) + 5) % 16) := ⟨by unfold mxG; rw [if_neg (by omega)]; rw [if_neg (by omega)]; rw [if_pos (by omega)]⟩
    have b0 : ((i : Int) / 16 == 0) = false := beq_eq_false_iff_ne.2 (by omega)
    have b1 : ((i : Int) / 16 == 1) = false := beq_eq_false_iff_ne.2 (by omega)
    have b2 : ((i : Int) / 16 == 2) = true := beq_iff_eq.2 h0
    have hg : 4 * ((3 * (i : Int) + 5) % 16) ≤ 60 := by omega
    have k1 : decide (4 * ((3 * (i : Int) + 5) % 16) + 4 ≤ (B.size : Int)) = true := decide_eq_true (by omega)
    have k3 : (4 * ((3 * (i : Int) + 5) % 16) + 4 ≤ (B.size : Int)) = True := eq_true (by omega)
    have k0 : decide (0 ≤ 4 * ((3 * (i : Int) + 5) % 16)) = true := decide_eq_true (by omega)
    have k0' : (0 ≤ 4 * ((3 * (i : Int) + 5) % 16)) = True := eq_true (by omega)
    have k5 : decide (4 * ((3 * (i : Int) + 5) % 16) ≤ 4 * ((3 * (i : Int) + 5) % 16) + 4) = true := decide_eq_true (by omega)
    have k5' : (4 * ((3 * (i : Int) + 5) % 16) ≤ 4 * ((3 * (i : Int) + 5) % 16) + 4) = True := eq_true (by omega)
    have k6 : decide (0 ≤ 4 * ((3 * (i : Int) + 5) % 16) + 4) = true := decide_eq_true (by omega)
    have k6' : (0 ≤ 4 * ((3 * (i : Int) + 5) % 16) + 4) = True := eq_true (by omega)
    have hmx : (B.extract (4 * ((3 * (i : Int) + 5) % 16)).toNat (4 * ((3 * (i : Int) + 5) % 16) + 4).toNat).size ≤ 9223372036854775807 := by rw [ByteArray.size_extract]; omega
    clear h0
   rotate_left
   focus
    have HF : Aside0 (mxF i b' c' d' = bits .xor .u32 c' (bits .or .u32 b' (bits .xor .u32 IntKind.u32.max d'))) := ⟨by unfold mxF; rw [if_neg (by omega)]; rw [if_neg (by omega)]; rw [if_neg (by omega)]⟩
    have HG : Aside0 (mxG i = 7 * (i : Int) % 16) := ⟨by unfold mxG; rw [if_neg (by omega)]; rw [if_neg (by omega)]; rw [if_neg (by omega)]⟩
    have b0 : ((i : Int) / 16 == 0) = false := beq_eq_false_iff_ne.2 (by omega)
    have b1 : ((i : Int) / 16 == 1) = false := beq_eq_false_iff_ne.2 (by omega)
    have b2 : ((i : Int) / 16 == 2) = false := beq_eq_false_iff_ne.2 (by omega)
    have hg : 4 * (7 * (i : Int) % 16) ≤ 60 := by omega
    have k1 : decide (4 * (7 * (i : Int) % 16) + 4 ≤ (B.size : Int)) = true := decide_eq_true (by omega)
    have k3 : (4 * (7 * (i : Int) % 16) + 4 ≤ (B.size : Int)) = True := eq_true (by omega)
    have k0 : decide (0 ≤ 4 * (7 * (i : Int) % 16)) = true := decide_eq_true (by omega)
    have k0' : (0 ≤ 4 * (7 * (i : Int) % 16)) = True := eq_true (by omega)
    have k5 : decide (4 * (7 * (i : Int) % 16) ≤ 4 * (7 * (i : Int) % 16) + 4) = true := decide_eq_true (by omega)
    have k5' : (4 * (7 * (i : Int) % 16) ≤ 4 * (7 * (i : Int) % 16) + 4) = True := eq_true (by omega)
    have k6 : decide (0 ≤ 4 * (7 * (i : Int) % 16) + 4) = true := decide_eq_true (by omega)
    have k6' : (0 ≤ 4 * (7 * (i : Int) % 16) + 4) = True := eq_true (by omega)
    have hmx : (B.extract (4 * (7 * (i : Int) % 16)).toNat (4 * (7 * (i : Int) % 16) + 4).toNat).size ≤ 9223372036854775807 := by rw [ByteArray.size_extract]; omega
    clear h0
   rotate_left
   all_goals
    go_wp2_with (first
     | ((with_reducible refine gate_dst (N := 87) rfl ?_); refine Kd.V_conv w.heap.size 5 9 22 rfl (N := 87) rfl _ rfl _ rfl Tryd.underlying9 Tryd.underlying22 Tryd.underlying5 (by rw [ByteArray.size_extract]; omega) HW.out.below HW.out.below.size ?_; intro v1 w1 hv hb hg hat; obtain ⟨A1, c1, rfl, hle, hF⟩ := hv; have HW1 := Aside0.mk (MxW.grown HW.out hb hg); have HC := Aside0.mk (Kd.F_now hF); have HL := Aside0.mk hle; clear hF hg hat hb hle)
     | (go_at_call 160; refine (spec_GetWord.calls _ _ _ _ _ _ HC.out HL.out (gW (g := mxG i) HB.out (by rw [HG.out]; omega) (by rw [HG.out]; omega) (by rw [HG.out]; omega))).mono ?_; rintro e w' ⟨rfl, ⟨nd, rfl⟩⟩)
     | (go_at_call 161; refine (spec_l04K.calls _ _ _ (kF hi)).mono ?_; rintro e w2 ⟨rfl, hb2⟩; have HW2 := Aside0.mk (MxW.step (HW1.out.drewN _) hb2); clear hb2)
     | (go_at_call 162; refine (spec_l04S.calls _ _ _ (sF hi)).mono ?_; rintro e w3 ⟨rfl, hb3⟩; have HW3 := Aside0.mk (MxW.step HW2.out hb3); clear hb3))
    go_roundw
    case rel => exact ⟨i + 1, d', _, b', c', rfl, rfl, rfl, rfl, by go_num, ⟨by omega⟩, ⟨by rw [← HN.out, mxN_step hi, mxX_is _ _ _ _ _ _ hs1 hs2, HF.out]; try rfl⟩, HW3⟩
    case measure => simp [intOf]; omega
  ·have HE := Aside0.mk (show i = 64 by have := Hi.out; omega)
   have h64 : 64 ≤ i := by omega
   clear hi
   obtain ⟨hb, hr, ho⟩ := HW.out
   have c0 := blk_cell hr 0
   have c1 := blk_cell hr 1
   have c2 := blk_cell hr 2
   have c3 := blk_cell hr 3
   have d0 := blk_cell ho 0
   have d1 := blk_cell ho 1
   have d2 := blk_cell ho 2
   have d3 := blk_cell ho 3
   have f0 := blk_frozen ho 0
   have f1 := blk_frozen ho 1
   have f2 := blk_frozen ho 2
   have f3 := blk_frozen ho 3
   simp only [List.getElem?_toArray, List.getElem?_cons_zero, List.getElem?_cons_succ] at c0 c1 c2 c3 d0 d1 d2 d3
   clear hb hr ho
   go_wp2
   refine bodyPost_ret (results_cell_row rfl _ _ (w.heap.size + 1) 125 #[.int .u32 ((a + a') % 4294967296), .int .u32 ((b + b') % 4294967296), .int .u32 ((c + c') % 4294967296), .int .u32 ((d + d') % 4294967296)] (0, 0) _ rfl (HW.out.put _ _ _ _).1 Tryd.underlying125 rfl (by kernel_rfl)) rfl ⟨?_, (HW.out.put _ _ _ _).2⟩
   have hN := HN.out
   rw [HE.out] at hN
   unfold mxB
   rw [← hN]
   rfl
def bl : Nat → Nat → List Int
 | 0, _ => []
 | i + 1, n => ((n : Int) % 256) :: bl i (n / 256)
theorem bl_length : ∀ (i n : Nat), (bl i n).length = i
 | 0, _ => rfl
 | i + 1, n => by simp [bl, bl_length i]
theorem bl8 (n : Nat) : bl 8 n = le4 (n % 4294967296) ++ le4 (n / 4294967296 % 4294967296) := by
 unfold le4
 simp only [bl, List.cons_append, List.nil_append, List.cons.injEq, and_true]
 omega
theorem padL_eq (s : ByteArray) : padL s = (bytesOf s ++ [128] ++ List.replicate (padZ s.size) 0) ++ bl 8 (8 * s.size) := by rw [bl8]; rfl
theorem padL_length (s : ByteArray) : (padL s).length ≤ s.size + 100 := by
 rw [padL_eq]
 simp only [List.length_append, bl_length, List.length_replicate, bytesOf_length, List.length_singleton]
 unfold padZ
 omega
/-- What PadStrong lays. -/
def padS (s : ByteArray) : List Int := if s.size ≤ 20000 then padL s else []
set_option maxHeartbeats 4000000 in
set_option maxRecDepth 100000 in
theorem pads_calls (s : ByteArray) (w : World) (hs : s.size ≤ 1000000000) :
  Calls Tryd.prog 100 #[.string s] w fun e w' => ∃ A c, e = .returned (.slice A (padS s).length c) ∧ (padS s).length ≤ c ∧ Kd.C (Kd.int .u8) w' A (padS s).length (padS s) ∧ Below w.heap.size w w' := by
 have HL := Aside0.mk (bytesOf_length s)
 have HB := Aside0.mk (Below.refl w.heap.size w)
 by_cases hbig : 20000 < s.size
 ·have HE : Aside0 (padS s = []) := ⟨by unfold padS; rw [if_neg (by omega)]⟩
  have HPost := Aside0.mk (fun (w' : World) (A : Option Addr) (c : Nat) (hb : Below w.heap.size w w') => (⟨A, c, by rw [HE.out]; rfl, by rw [HE.out]; exact Nat.zero_le _, by rw [HE.out]; exact Kd.C_of_reads (d := (0 : Int)) (h1 := fun _ => rfl) ⟨rfl, by simp, fun h0 => absurd h0 (by simp)⟩, hb⟩ : ∃ A' c', Ending.returned (Value.slice A 0 c) = Ending.returned (.slice A' (padS s).length c') ∧ (padS s).length ≤ c' ∧ Kd.C (Kd.int .u8) w' A' (padS s).length (padS s) ∧ Below w.heap.size w w'))
  go_enter Tryd.func100, Tryd.ntmps100
  go_wp2
  go_ret
  exact HPost.out _ _ _ (below_alloc HB.out _)
 have hs2 : s.size ≤ 20000 := by omega
 have HE : Aside0 (padS s = padL s) := ⟨by unfold padS; rw [if_pos (by omega)]⟩
 clear hbig
 go_enter Tryd.func100, Tryd.ntmps100
 go_wp2_with (first
  | ((with_reducible refine gate_dst (N := 11) rfl ?_); refine X_conv w.heap.size 5 9 22 rfl _ rfl _ rfl Tryd.underlying9 Tryd.underlying22 Tryd.underlying5 hs HB.out HB.out.size ?_; intro v1 w1 ho hb; have HO := Aside0.mk ho; clear HB; have HB := Aside0.mk hb; clear ho hb)
  | (at_builtin; refine X_append w.heap.size rfl _ _ 22 5 rfl Tryd.underlying22 info5 v1 _ _ (.int .u8 128) rfl rfl rfl HO.out HB.out HB.out.size (by rw [HL.out]; omega) ?_; intro v2 w2 ho hb; clear HB HO; have HO := Aside0.mk ho; have HB := Aside0.mk hb; clear ho hb))
 have HM := Aside0.mk (show (bytesOf s ++ [128]).length = s.size + 1 by rw [List.length_append, HL.out]; rfl)
 have HO2 : Aside0 (OwnX w2 w.heap.size 5 v2 (bytesOf s ++ [128]).length ((bytesOf s ++ [128]).map (Value.int .u8))) := ⟨by have := HO.out; rw [List.map_append, HM.out]; rw [HL.out] at this; exact this⟩
 clear HO
 go_loopg [3] (padZ s.size) (fun kq v3 w' => ∃ xs : List Int, Aside0 (OwnX w' w.heap.size 5 v3 xs.length (xs.map (Value.int .u8))) ∧ Aside0 (xs ++ List.replicate kq 0 = bytesOf s ++ [128] ++ List.replicate (padZ s.size) 0) ∧ Aside0 (kq = (120 - xs.length % 64) % 64) ∧ Aside0 (xs.length + kq ≤ 1000000100) ∧ Aside0 (Below w.heap.size w w'))
 case atStart => exact ⟨bytesOf s ++ [128], HO2, ⟨rfl⟩, ⟨by rw [HM.out]; unfold padZ; omega⟩, ⟨by rw [HM.out]; unfold padZ; omega⟩, HB⟩
 case round =>
  clear HB HO2 HM
  obtain ⟨xs, HO, HX, HK, HN, HB⟩ := hrel
  obtain ⟨A3, c3, rfl, hle, hC⟩ := OwnX.reads HO.out
  have hxl : xs.length ≤ 1000000100 := by have := HN.out; omega
  clear hC hle
  by_cases h56 : xs.length % 64 = 56
  ·have hne : ((xs.length : Int) % 64 != 56) = false := by rw [bne_eq_false_iff_eq]; omega
   have HE2 : Aside0 (xs = bytesOf s ++ [128] ++ List.replicate (padZ s.size) 0) := ⟨by have h1 := HX.out; rw [HK.out, show (120 - xs.length % 64) % 64 = 0 by omega, List.replicate_zero, List.append_nil] at h1; exact h1⟩
   clear h56
   go_wp2
   go_loopg [3, 4, 5] 8 (fun kq v3 v4 v5 w' => ∃ (ys : List Int) (b i : Nat), v4 = .int .i64 b ∧ v5 = .int .i64 i ∧ Aside0 (i + kq = 8) ∧ Aside0 (b ≤ 160000) ∧ Aside0 (OwnX w' w.heap.size 5 v3 ys.length (ys.map (Value.int .u8))) ∧ Aside0 (ys ++ bl kq b = padL s) ∧ Aside0 (Below w.heap.size w w'))
   case atStart => exact ⟨xs, 8 * s.size, 0, by go_num, by go_num, ⟨rfl⟩, ⟨by omega⟩, HO, ⟨by rw [padL_eq, HE2.out]⟩, HB⟩
   case round =>
    clear HB HO HX HK HN hne HE2 hxl
    obtain ⟨ys, b, i, rfl, rfl, HI, Hb, HO, HY, HB⟩ := hrel
    have hb16 : b ≤ 160000 := Hb.out
    have hyl : ys.length ≤ 1000000100 := by
     have h1 := congrArg List.length HY.out
     have h2 := padL_length s
     rw [List.length_append, bl_length] at h1
     omega
    cases gk with
    | zero =>
     have hi8 : 8 ≤ i := by have := HI.out; omega
     obtain ⟨A4, c4, rfl, hle, hC⟩ := OwnX.reads HO.out
     have HYe : Aside0 (ys = padS s) := ⟨by rw [HE.out, ← HY.out]; exact (List.append_nil _).symm⟩
     have HC := Aside0.mk hC
     have Hle := Aside0.mk hle
     clear hC hle
     go_wp2
     go_ret
     obtain rfl := HYe.out
     exact ⟨A4, c4, rfl, Hle.out, HC.out, HB.out⟩
    | succ k1 =>
     have hi8 : i < 8 := by have := HI.out; omega
     obtain ⟨A4, c4, rfl, hle, hC⟩ := OwnX.reads HO.out
     clear hC hle
     go_wp2_with (at_builtin; refine X_append w.heap.size rfl _ _ 22 5 rfl Tryd.underlying22 info5 (.slice A4 ys.length c4) ys.length (ys.map (Value.int .u8)) (.int .u8 ((b : Int) % 256)) rfl rfl rfl HO.out HB.out HB.out.size (by omega) ?_; intro v2 w2 ho hb; clear HB HO; have HO := Aside0.mk ho; have HB := Aside0.mk hb; clear ho hb)
     go_roundg k1
     case measure => omega
     case rel => exact ⟨ys ++ [(b : Int) % 256], b / 256, i + 1, by go_num, by go_num, ⟨by have := HI.out; omega⟩, ⟨by omega⟩, ⟨by have := HO.out; rw [List.map_append, List.length_append]; exact this⟩, ⟨by rw [← HY.out, List.append_assoc]; rfl⟩, HB⟩
  ·cases gk with
   | zero => exact absurd HK.out (by omega)
   | succ k1 =>
    have hne : ((xs.length : Int) % 64 != 56) = true := by rw [bne_iff_ne]; omega
    have HQ := Aside0.mk h56
    clear h56
    go_wp2_with (at_builtin; refine X_append w.heap.size rfl _ _ 22 5 rfl Tryd.underlying22 info5 (.slice A3 xs.length c3) xs.length (xs.map (Value.int .u8)) (.int .u8 0) rfl rfl rfl HO.out HB.out HB.out.size (by omega) ?_; intro v2 w2 ho hb; clear HB HO; have HO := Aside0.mk ho; have HB := Aside0.mk hb; clear ho hb)
    go_roundg k1
    case measure => omega
    case rel => exact ⟨xs ++ [0], ⟨by have := HO.out; rw [List.map_append, List.length_append]; exact this⟩, ⟨by rw [← HX.out, List.append_assoc]; rfl⟩, ⟨by have h1 := HK.out; have h2 := padZ_next HQ.out; rw [List.length_append]; simp only [List.length_singleton]; omega⟩, ⟨by rw [List.length_append]; simp only [List.length_singleton]; have := HN.out; omega⟩, HB⟩
def w4b (x : Int) : List Int := [x % 256, (x / 256) % 256, (x / 65536) % 256, (x / 16777216) % 256]
def words4 (t : Int × Int × Int × Int) : List Int := [t.1, t.2.1, t.2.2.1, t.2.2.2]
/-- The sixteen numbers of a sum. -/
def out16 (t : Int × Int × Int × Int) : List Int := w4b t.1 ++ w4b t.2.1 ++ w4b t.2.2.1 ++ w4b t.2.2.2
def osOf (t : Int × Int × Int × Int) (n : Nat) : List Int := (out16 t).take n ++ List.replicate (16 - n) 0
theorem out16_length (t : Int × Int × Int × Int) : (out16 t).length = 16 := rfl
theorem osOf_length (t : Int × Int × Int × Int) (n : Nat) (h : n ≤ 16) : (osOf t n).length = 16 := by
 unfold osOf
 rw [List.length_append, List.length_take, out16_length, List.length_replicate]
 omega
theorem osOf_set (t : Int × Int × Int × Int) (n : Nat) (h : n < 16) : (osOf t n).set n ((out16 t).getD n 0) = osOf t (n + 1) := by
 unfold osOf
 have hl : ((out16 t).take n).length = n := by rw [List.length_take, out16_length]; omega
 rw [List.set_append, if_neg (by omega), hl, Nat.sub_self, show 16 - n = (16 - (n + 1)) + 1 by omega, List.replicate_succ, List.set_cons_zero, List.take_succ_eq_append_getElem (by rw [out16_length]; exact h), List.getD_eq_getElem?_getD, List.getElem?_eq_getElem (by rw [out16_length]; exact h), List.append_assoc]
 rfl
theorem out16_at (t : Int × Int × Int × Int) : ∀ (k i : Nat), k < 4 → i < 4 → (w4b ((words4 t).getD k 0)).getD i 0 = (out16 t).getD (4 * k + i) 0
 | 0, 0, _, _ | 0, 1, _, _ | 0, 2, _, _ | 0, 3, _, _ | 1, 0, _, _ | 1, 1, _, _ | 1, 2, _, _ | 1, 3, _, _ | 2, 0, _, _ | 2, 1, _, _ | 2, 2, _, _ | 2, 3, _, _ | 3, 0, _, _ | 3, 1, _, _ | 3, 2, _, _ | 3, 3, _, _ => rfl
 | k + 4, _, h, _ => absurd h (by omega)
 | 0, i + 4, _, h | 1, i + 4, _, h | 2, i + 4, _, h | 3, i + 4, _, h => absurd h (by omega)
/-- The sum as StrongOf tells it. -/
def strongS (s : ByteArray) : List Int := if s.size ≤ 20000 then out16 (sumOf s) else List.replicate 16 0
def InR (t : Int × Int × Int × Int) : Prop := (0 ≤ t.1 ∧ t.1 < 4294967296) ∧ (0 ≤ t.2.1 ∧ t.2.1 < 4294967296) ∧ (0 ≤ t.2.2.1 ∧ t.2.2.1 < 4294967296) ∧ (0 ≤ t.2.2.2 ∧ t.2.2.2 < 4294967296)
theorem mxB_in (B : ByteArray) (t : Int × Int × Int × Int) : InR (mxB B t) := by
 unfold InR mxB
 refine ⟨⟨?_, ?_⟩, ⟨?_, ?_⟩, ⟨?_, ?_⟩, ⟨?_, ?_⟩⟩ <;> first | exact Int.emod_nonneg _ (by decide) | exact Int.emod_lt_of_pos _ (by decide)
theorem sum0_in : InR sum0 := by unfold InR sum0; decide
theorem InR.at {t : Int × Int × Int × Int} (h : InR t) : ∀ k, k < 4 → 0 ≤ (words4 t).getD k 0 ∧ (words4 t).getD k 0 < 4294967296
 | 0, _ => h.1
 | 1, _ => h.2.1
 | 2, _ => h.2.2.1
 | 3, _ => h.2.2.2
 | k + 4, hk => absurd hk (by omega)
theorem putW {x : Int} (h0 : 0 ≤ x) (h1 : x < 4294967296) : spec_PutWord.f x = some (w4b x) := by
 have e : wrap64 x = x := wrap64_id (by omega) (by omega)
 have d1 : Int.tdiv x 256 = x / 256 := Int.tdiv_eq_ediv_of_nonneg h0
 have d2 : Int.tdiv x 65536 = x / 65536 := Int.tdiv_eq_ediv_of_nonneg h0
 have d3 : Int.tdiv x 16777216 = x / 16777216 := Int.tdiv_eq_ediv_of_nonneg h0
 unfold spec_PutWord.f w4b
 rw [e, d1, d2, d3, wrap64_id (x := x / 256) (by omega) (by omega), wrap64_id (x := x / 65536) (by omega) (by omega), wrap64_id (x := x / 16777216) (by omega) (by omega)]
 rw [Int.tmod_eq_emod_of_nonneg h0, Int.tmod_eq_emod_of_nonneg (show 0 ≤ x / 256 by omega), Int.tmod_eq_emod_of_nonneg (show 0 ≤ x / 65536 by omega)]
 simp only [Option.some.injEq, List.cons.injEq, and_true]
 omega
theorem cutM {A : Option Addr} {c : Nat} {L : List Int} {i : Nat} (h : i + 64 ≤ L.length) (hc : L.length ≤ c) : ∃ A2 c2, (∀ W, (Instr.slice 22 (.slice A L.length c) (some (.int .i64 (i : Int))) (some (.int .i64 ((i : Int) + 64))) none).run Tryd.prog W = .ok (.slice A2 64 c2) W) ∧ ∀ W, Kd.C (Kd.int .u8) W A L.length L → Kd.C (Kd.int .u8) W A2 64 ((L.take (i + 64)).drop i) := by
 obtain ⟨i0, hi0, _, hsz, _⟩ := info_parts info5
 have hcut := cut_mid (P := Tryd.prog) 22 5 .i64 .i64 Tryd.underlying22 hi0 1 hsz A L.length c (i : Int) ((i : Int) + 64) (by omega) (by omega) (by omega) hc
 have e1 : ((i : Int) + 64).toNat - (i : Int).toNat = 64 := by omega
 have e2 : (i : Int).toNat = i := by omega
 rw [e1, e2] at hcut
 refine ⟨_, _, hcut, fun W hC => ?_⟩
 have hm := Kd.C_mid (lo := i) (hi := i + 64) hC (by omega) h hc
 have hl : ((L.take (i + 64)).drop i).length = 64 := by rw [List.length_drop, List.length_take]; omega
 rw [hl] at hm
 exact hm
theorem strOfNums_data (L : List Int) : (strOfNums L).data.toList = L.map fun n => n.toNat.toUInt8 := by unfold strOfNums; simp
theorem strOfNums_ext (L : List Int) (a b : Nat) : (strOfNums L).extract a b = strOfNums ((L.take b).drop a) := by
 unfold strOfNums
 apply ByteArray.ext
 simp [ByteArray.extract, ByteArray.copySlice, List.drop_take, List.map_drop, List.map_take]
theorem sum_step {L : List Int} {kq i : Nat} {t : Int × Int × Int × Int} : sumN (kq + 1) (strOfNums (L.drop i)) t = sumN kq (strOfNums (L.drop (i + 64))) (mxB (strOfNums ((L.take (i + 64)).drop i)) t) := by
 show sumN kq ((strOfNums (L.drop i)).extract 64 (strOfNums (L.drop i)).size) (mxB ((strOfNums (L.drop i)).extract 0 64) t) = _
 rw [strOfNums_ext, strOfNums_ext]
 have e1 : ((L.drop i).take (strOfNums (L.drop i)).size).drop 64 = L.drop (i + 64) := by
  rw [List.take_of_length_le (by rw [strOfNums_size]; exact Nat.le_refl _), List.drop_drop]
 have e2 : ((L.drop i).take 64).drop 0 = (L.take (i + 64)).drop i := by rw [List.drop_zero, List.drop_take, Nat.add_sub_cancel_left]
 rw [e1, e2]
theorem put16 {w : World} {g : Nat} {t : TypeId} {a0 a1 a2 a3 a4 a5 a6 a7 a8 a9 a10 a11 a12 a13 a14 a15 x0 x1 x2 x3 x4 x5 x6 x7 x8 x9 x10 x11 x12 x13 x14 x15 : Value} (h : w.heap[g]? = some (.cells #[a0, a1, a2, a3, a4, a5, a6, a7, a8, a9, a10, a11, a12, a13, a14, a15] t (0, 0))) : ((((((((((((((((w.setCell ⟨g, 0, none⟩ x0).setCell ⟨g, 1, none⟩ x1).setCell ⟨g, 2, none⟩ x2).setCell ⟨g, 3, none⟩ x3).setCell ⟨g, 4, none⟩ x4).setCell ⟨g, 5, none⟩ x5).setCell ⟨g, 6, none⟩ x6).setCell ⟨g, 7, none⟩ x7).setCell ⟨g, 8, none⟩ x8).setCell ⟨g, 9, none⟩ x9).setCell ⟨g, 10, none⟩ x10).setCell ⟨g, 11, none⟩ x11).setCell ⟨g, 12, none⟩ x12).setCell ⟨g, 13, none⟩ x13).setCell ⟨g, 14, none⟩ x14).setCell ⟨g, 15, none⟩ x15).heap[g]? = some (.cells #[x0, x1, x2, x3, x4, x5, x6, x7, x8, x9, x10, x11, x12, x13, x14, x15] t (0, 0)) := by
 have h0 := blk_put (cs' := #[x0, a1, a2, a3, a4, a5, a6, a7, a8, a9, a10, a11, a12, a13, a14, a15]) h 0 x0 rfl
 have h1 := blk_put (cs' := #[x0, x1, a2, a3, a4, a5, a6, a7, a8, a9, a10, a11, a12, a13, a14, a15]) h0 1 x1 rfl
 have h2 := blk_put (cs' := #[x0, x1, x2, a3, a4, a5, a6, a7, a8, a9, a10, a11, a12, a13, a14, a15]) h1 2 x2 rfl
 have h3 := blk_put (cs' := #[x0, x1, x2, x3, a4, a5, a6, a7, a8, a9, a10, a11, a12, a13, a14, a15]) h2 3 x3 rfl
 have h4 := blk_put (cs' := #[x0, x1, x2, x3, x4, a5, a6, a7, a8, a9, a10, a11, a12, a13, a14, a15]) h3 4 x4 rfl
 have h5 := blk_put (cs' := #[x0, x1, x2, x3, x4, x5, a6, a7, a8, a9, a10, a11, a12, a13, a14, a15]) h4 5 x5 rfl
 have h6 := blk_put (cs' := #[x0, x1, x2, x3, x4, x5, x6, a7, a8, a9, a10, a11, a12, a13, a14, a15]) h5 6 x6 rfl
 have h7 := blk_put (cs' := #[x0, x1, x2, x3, x4, x5, x6, x7, a8, a9, a10, a11, a12, a13, a14, a15]) h6 7 x7 rfl
 have h8 := blk_put (cs' := #[x0, x1, x2, x3, x4, x5, x6, x7, x8, a9, a10, a11, a12, a13, a14, a15]) h7 8 x8 rfl
 have h9 := blk_put (cs' := #[x0, x1, x2, x3, x4, x5, x6, x7, x8, x9, a10, a11, a12, a13, a14, a15]) h8 9 x9 rfl
 have h10 := blk_put (cs' := #[x0, x1, x2, x3, x4, x5, x6, x7, x8, x9, x10, a11, a12, a13, a14, a15]) h9 10 x10 rfl
 have h11 := blk_put (cs' := #[x0, x1, x2, x3, x4, x5, x6, x7, x8, x9, x10, x11, a12, a13, a14, a15]) h10 11 x11 rfl
 have h12 := blk_put (cs' := #[x0, x1, x2, x3, x4, x5, x6, x7, x8, x9, x10, x11, x12, a13, a14, a15]) h11 12 x12 rfl
 have h13 := blk_put (cs' := #[x0, x1, x2, x3, x4, x5, x6, x7, x8, x9, x10, x11, x12, x13, a14, a15]) h12 13 x13 rfl
 have h14 := blk_put (cs' := #[x0, x1, x2, x3, x4, x5, x6, x7, x8, x9, x10, x11, x12, x13, x14, a15]) h13 14 x14 rfl
 have h15 := blk_put (cs' := #[x0, x1, x2, x3, x4, x5, x6, x7, x8, x9, x10, x11, x12, x13, x14, x15]) h14 15 x15 rfl
 exact h15
theorem bel16 {w0 w : World} {x0 x1 x2 x3 x4 x5 x6 x7 x8 x9 x10 x11 x12 x13 x14 x15 : Value} (h : Below w0.heap.size w0 w) : Below w0.heap.size w0 ((((((((((((((((w.setCell ⟨w0.heap.size, 0, none⟩ x0).setCell ⟨w0.heap.size, 1, none⟩ x1).setCell ⟨w0.heap.size, 2, none⟩ x2).setCell ⟨w0.heap.size, 3, none⟩ x3).setCell ⟨w0.heap.size, 4, none⟩ x4).setCell ⟨w0.heap.size, 5, none⟩ x5).setCell ⟨w0.heap.size, 6, none⟩ x6).setCell ⟨w0.heap.size, 7, none⟩ x7).setCell ⟨w0.heap.size, 8, none⟩ x8).setCell ⟨w0.heap.size, 9, none⟩ x9).setCell ⟨w0.heap.size, 10, none⟩ x10).setCell ⟨w0.heap.size, 11, none⟩ x11).setCell ⟨w0.heap.size, 12, none⟩ x12).setCell ⟨w0.heap.size, 13, none⟩ x13).setCell ⟨w0.heap.size, 14, none⟩ x14).setCell ⟨w0.heap.size, 15, none⟩ x15) := by
 have h0 := below_set (j := 0) (v := x0) h (Nat.le_refl _)
 have h1 := below_set (j := 1) (v := x1) h0 (Nat.le_refl _)
 have h2 := below_set (j := 2) (v := x2) h1 (Nat.le_refl _)
 have h3 := below_set (j := 3) (v := x3) h2 (Nat.le_refl _)
 have h4 := below_set (j := 4) (v := x4) h3 (Nat.le_refl _)
 have h5 := below_set (j := 5) (v := x5) h4 (Nat.le_refl _)
 have h6 := below_set (j := 6) (v := x6) h5 (Nat.le_refl _)
 have h7 := below_set (j := 7) (v := x7) h6 (Nat.le_refl _)
 have h8 := below_set (j := 8) (v := x8) h7 (Nat.le_refl _)
 have h9 := below_set (j := 9) (v := x9) h8 (Nat.le_refl _)
 have h10 := below_set (j := 10) (v := x10) h9 (Nat.le_refl _)
 have h11 := below_set (j := 11) (v := x11) h10 (Nat.le_refl _)
 have h12 := below_set (j := 12) (v := x12) h11 (Nat.le_refl _)
 have h13 := below_set (j := 13) (v := x13) h12 (Nat.le_refl _)
 have h14 := below_set (j := 14) (v := x14) h13 (Nat.le_refl _)
 have h15 := below_set (j := 15) (v := x15) h14 (Nat.le_refl _)
 exact h15
theorem osCell (t : Int × Int × Int × Int) (n : Nat) (h : n < 16) : (((osOf t n).map (Value.int .u8)).toArray)[n]? = some (.int .u8 ((osOf t n).getD n 0)) := by
 rw [List.getElem?_toArray, List.getElem?_map, List.getD_eq_getElem?_getD, List.getElem?_eq_getElem (by rw [osOf_length t n (by omega)]; exact h)]
 rfl
theorem osPut {t : Int × Int × Int × Int} {n : Nat} {y : Int} (h : n < 16) (hy : y = (out16 t).getD n 0) : ((osOf t n).map (Value.int .u8)).toArray.setIfInBounds n (.int .u8 y) = ((osOf t (n + 1)).map (Value.int .u8)).toArray := by
 subst hy
 rw [List.setIfInBounds_toArray, ← List.map_set, osOf_set t n h]
theorem cellR {W : World} {A : Option Addr} {x : Int} (hC : Kd.C (Kd.int .u8) W A (w4b x).length (w4b x)) (j : Nat) (hj : j < 4) : ∃ ad, A = some ad ∧ W.cell? (ad.add j) = some (.int .u8 ((w4b x).getD j 0)) := by
 obtain ⟨ad, rfl, h⟩ := hC.2.2 (by show 0 < 4; decide)
 have hl : j < (w4b x).length := hj
 obtain ⟨cs, h1, h2, h3⟩ := h j ((w4b x)[j]) (List.getElem?_eq_getElem hl)
 refine ⟨ad, rfl, ?_⟩
 have h4 := h3 0 (.int .u8 ((w4b x)[j])) (by rw [h2]; rfl)
 rw [show j * (Kd.int IntKind.u8).sz + 0 = j from Nat.mul_one j] at h4
 rw [h4, List.getD_eq_getElem?_getD, List.getElem?_eq_getElem hl]
 rfl
set_option maxHeartbeats 2000000 in
set_option maxRecDepth 100000 in
theorem strongof_calls (s : ByteArray) (w : World) (hs : s.size ≤ 1000000000) :
  Calls Tryd.prog 30 #[.string s] w fun e w' => e = .returned (.agg ((strongS s).map (Value.int .u8)).toArray) ∧ Below w.heap.size w w' := by
 have HB := Aside0.mk (Below.refl w.heap.size w)
 by_cases hbig : 20000 < s.size
 ·have HE : Aside0 (padS s = []) := ⟨by unfold padS; rw [if_neg (by omega)]⟩
  have hlen : ((padS s).length : Int) = 0 := by rw [HE.out]; rfl
  have BR := Aside0.mk (blk_alloc (blk_new w (.cells #[.int .u8 0, .int .u8 0, .int .u8 0, .int .u8 0, .int .u8 0, .int .u8 0, .int .u8 0, .int .u8 0, .int .u8 0, .int .u8 0, .int .u8 0, .int .u8 0, .int .u8 0, .int .u8 0, .int .u8 0, .int .u8 0] 59)) (.cells #[.int .u8 0, .int .u8 0, .int .u8 0, .int .u8 0, .int .u8 0, .int .u8 0, .int .u8 0, .int .u8 0, .int .u8 0, .int .u8 0, .int .u8 0, .int .u8 0, .int .u8 0, .int .u8 0, .int .u8 0, .int .u8 0] 59))
  have BO : Aside0 (((w.alloc (.cells #[.int .u8 0, .int .u8 0, .int .u8 0, .int .u8 0, .int .u8 0, .int .u8 0, .int .u8 0, .int .u8 0, .int .u8 0, .int .u8 0, .int .u8 0, .int .u8 0, .int .u8 0, .int .u8 0, .int .u8 0, .int .u8 0] 59)).alloc (.cells #[.int .u8 0, .int .u8 0, .int .u8 0, .int .u8 0, .int .u8 0, .int .u8 0, .int .u8 0, .int .u8 0, .int .u8 0, .int .u8 0, .int .u8 0, .int .u8 0, .int .u8 0, .int .u8 0, .int .u8 0, .int .u8 0] 59)).heap[w.heap.size + 1]? = some (.cells #[.int .u8 0, .int .u8 0, .int .u8 0, .int .u8 0, .int .u8 0, .int .u8 0, .int .u8 0, .int .u8 0, .int .u8 0, .int .u8 0, .int .u8 0, .int .u8 0, .int .u8 0, .int .u8 0, .int .u8 0, .int .u8 0] 59)) := ⟨by have h1 := blk_new (w.alloc (.cells #[.int .u8 0, .int .u8 0, .int .u8 0, .int .u8 0, .int .u8 0, .int .u8 0, .int .u8 0, .int .u8 0, .int .u8 0, .int .u8 0, .int .u8 0, .int .u8 0, .int .u8 0, .int .u8 0, .int .u8 0, .int .u8 0] 59)) (.cells #[.int .u8 0, .int .u8 0, .int .u8 0, .int .u8 0, .int .u8 0, .int .u8 0, .int .u8 0, .int .u8 0, .int .u8 0, .int .u8 0, .int .u8 0, .int .u8 0, .int .u8 0, .int .u8 0, .int .u8 0, .int .u8 0] 59); simpa using h1⟩
  have HB0 := Aside0.mk (below_alloc (below_alloc HB.out (.cells #[.int .u8 0, .int .u8 0, .int .u8 0, .int .u8 0, .int .u8 0, .int .u8 0, .int .u8 0, .int .u8 0, .int .u8 0, .int .u8 0, .int .u8 0, .int .u8 0, .int .u8 0, .int .u8 0, .int .u8 0, .int .u8 0] 59)) (.cells #[.int .u8 0, .int .u8 0, .int .u8 0, .int .u8 0, .int .u8 0, .int .u8 0, .int .u8 0, .int .u8 0, .int .u8 0, .int .u8 0, .int .u8 0, .int .u8 0, .int .u8 0, .int .u8 0, .int .u8 0, .int .u8 0] 59))
  have HLn := Aside0.mk hlen
  clear hlen
  go_enter Tryd.func30, Tryd.ntmps30
  go_wp2_with fail
  refine (pads_calls s _ hs).mono ?_
  rintro e w2 ⟨A, c, rfl, hle, hC, hb⟩
  have HB3 := Aside0.mk (below_step HB0.out hb)
  replace BR := Aside0.mk (blk_below BR.out hb)
  replace BO := Aside0.mk (blk_below BO.out hb)
  have hlen0 : (padS s).length = 0 := by rw [HE.out]; rfl
  have hne : ((padS s).length == 0) = true := beq_iff_eq.2 hlen0
  have hne2 : (((padS s).length : Int) == 0) = true := beq_iff_eq.2 HLn.out
  clear hlen0 hC hle hb
  have c0 := (blk_cell BO.out 0).trans rfl
  have d0 := (blk_cell BR.out 0).trans rfl
  have f0 := blk_frozen BR.out 0
  have c1 := (blk_cell BO.out 1).trans rfl
  have d1 := (blk_cell BR.out 1).trans rfl
  have f1 := blk_frozen BR.out 1
  have c2 := (blk_cell BO.out 2).trans rfl
  have d2 := (blk_cell BR.out 2).trans rfl
  have f2 := blk_frozen BR.out 2
  have c3 := (blk_cell BO.out 3).trans rfl
  have d3 := (blk_cell BR.out 3).trans rfl
  have f3 := blk_frozen BR.out 3
  have c4 := (blk_cell BO.out 4).trans rfl
  have d4 := (blk_cell BR.out 4).trans rfl
  have f4 := blk_frozen BR.out 4
  have c5 := (blk_cell BO.out 5).trans rfl
  have d5 := (blk_cell BR.out 5).trans rfl
  have f5 := blk_frozen BR.out 5
  have c6 := (blk_cell BO.out 6).trans rfl
  have d6 := (blk_cell BR.out 6).trans rfl
  have f6 := blk_frozen BR.out 6
  have c7 := (blk_cell BO.out 7).trans rfl
  have d7 := (blk_cell BR.out 7).trans rfl
  have f7 := blk_frozen BR.out 7
  have c8 := (blk_cell BO.out 8).trans rfl
  have d8 := (blk_cell BR.out 8).trans rfl
  have f8 := blk_frozen BR.out 8
  have c9 := (blk_cell BO.out 9).trans rfl
  have d9 := (blk_cell BR.out 9).trans rfl
  have f9 := blk_frozen BR.out 9
  have c10 := (blk_cell BO.out 10).trans rfl
  have d10 := (blk_cell BR.out 10).trans rfl
  have f10 := blk_frozen BR.out 10
  have c11 := (blk_cell BO.out 11).trans rfl
  have d11 := (blk_cell BR.out 11).trans rfl
  have f11 := blk_frozen BR.out 11
  have c12 := (blk_cell BO.out 12).trans rfl
  have d12 := (blk_cell BR.out 12).trans rfl
  have f12 := blk_frozen BR.out 12
  have c13 := (blk_cell BO.out 13).trans rfl
  have d13 := (blk_cell BR.out 13).trans rfl
  have f13 := blk_frozen BR.out 13
  have c14 := (blk_cell BO.out 14).trans rfl
  have d14 := (blk_cell BR.out 14).trans rfl
  have f14 := blk_frozen BR.out 14
  have c15 := (blk_cell BO.out 15).trans rfl
  have d15 := (blk_cell BR.out 15).trans rfl
  have f15 := blk_frozen BR.out 15
  go_wp2
  refine bodyPost_ret (results_cell_row rfl _ _ w.heap.size 59 #[.int .u8 0, .int .u8 0, .int .u8 0, .int .u8 0, .int .u8 0, .int .u8 0, .int .u8 0, .int .u8 0, .int .u8 0, .int .u8 0, .int .u8 0, .int .u8 0, .int .u8 0, .int .u8 0, .int .u8 0, .int .u8 0] (0, 0) _ rfl (put16 BR.out) Tryd.underlying59 rfl (by kernel_rfl)) rfl ⟨?_, bel16 HB3.out⟩
  unfold strongS
  rw [if_neg (by omega)]
  rfl
 have hs2 : s.size ≤ 20000 := by omega
 have HE : Aside0 (padS s = padL s) := ⟨by unfold padS; rw [if_pos (by omega)]⟩
 have HP := Aside0.mk (padB_size s)
 have HPl : Aside0 ((padS s).length = (padB s).size) := ⟨by rw [HE.out]; unfold padB; rw [strOfNums_size]⟩
 have hpl : 64 ≤ (padS s).length := by
  rw [HPl.out]
  have h1 := HP.out
  have h2 : 0 < (padB s).size := by unfold padB; rw [strOfNums_size, padL_eq, List.length_append, bl_length]; omega
  omega
 have hpl2 : (padS s).length ≤ 20200 := by rw [HE.out]; have := padL_length s; omega
 clear hbig
 go_enter Tryd.func30, Tryd.ntmps30
 have BR := Aside0.mk (blk_alloc (blk_new w (.cells #[.int .u8 0, .int .u8 0, .int .u8 0, .int .u8 0, .int .u8 0, .int .u8 0, .int .u8 0, .int .u8 0, .int .u8 0, .int .u8 0, .int .u8 0, .int .u8 0, .int .u8 0, .int .u8 0, .int .u8 0, .int .u8 0] 59)) (.cells #[.int .u8 0, .int .u8 0, .int .u8 0, .int .u8 0, .int .u8 0, .int .u8 0, .int .u8 0, .int .u8 0, .int .u8 0, .int .u8 0, .int .u8 0, .int .u8 0, .int .u8 0, .int .u8 0, .int .u8 0, .int .u8 0] 59))
 have BO : Aside0 (((w.alloc (.cells #[.int .u8 0, .int .u8 0, .int .u8 0, .int .u8 0, .int .u8 0, .int .u8 0, .int .u8 0, .int .u8 0, .int .u8 0, .int .u8 0, .int .u8 0, .int .u8 0, .int .u8 0, .int .u8 0, .int .u8 0, .int .u8 0] 59)).alloc (.cells #[.int .u8 0, .int .u8 0, .int .u8 0, .int .u8 0, .int .u8 0, .int .u8 0, .int .u8 0, .int .u8 0, .int .u8 0, .int .u8 0, .int .u8 0, .int .u8 0, .int .u8 0, .int .u8 0, .int .u8 0, .int .u8 0] 59)).heap[w.heap.size + 1]? = some (.cells #[.int .u8 0, .int .u8 0, .int .u8 0, .int .u8 0, .int .u8 0, .int .u8 0, .int .u8 0, .int .u8 0, .int .u8 0, .int .u8 0, .int .u8 0, .int .u8 0, .int .u8 0, .int .u8 0, .int .u8 0, .int .u8 0] 59)) := ⟨by have h1 := blk_new (w.alloc (.cells #[.int .u8 0, .int .u8 0, .int .u8 0, .int .u8 0, .int .u8 0, .int .u8 0, .int .u8 0, .int .u8 0, .int .u8 0, .int .u8 0, .int .u8 0, .int .u8 0, .int .u8 0, .int .u8 0, .int .u8 0, .int .u8 0] 59)) (.cells #[.int .u8 0, .int .u8 0, .int .u8 0, .int .u8 0, .int .u8 0, .int .u8 0, .int .u8 0, .int .u8 0, .int .u8 0, .int .u8 0, .int .u8 0, .int .u8 0, .int .u8 0, .int .u8 0, .int .u8 0, .int .u8 0] 59); simpa using h1⟩
 have HB0 := Aside0.mk (below_alloc (below_alloc HB.out (.cells #[.int .u8 0, .int .u8 0, .int .u8 0, .int .u8 0, .int .u8 0, .int .u8 0, .int .u8 0, .int .u8 0, .int .u8 0, .int .u8 0, .int .u8 0, .int .u8 0, .int .u8 0, .int .u8 0, .int .u8 0, .int .u8 0] 59)) (.cells #[.int .u8 0, .int .u8 0, .int .u8 0, .int .u8 0, .int .u8 0, .int .u8 0, .int .u8 0, .int .u8 0, .int .u8 0, .int .u8 0, .int .u8 0, .int .u8 0, .int .u8 0, .int .u8 0, .int .u8 0, .int .u8 0] 59))
 go_wp2_with fail
 refine (pads_calls s _ hs).mono ?_
 rintro e w2 ⟨A, c, rfl, hle, hC, hb⟩
 clear HB
 have HW := Aside0.mk hb.size
 have HB := Aside0.mk (below_step HB0.out hb)
 replace BR := Aside0.mk (blk_below BR.out hb)
 replace BO := Aside0.mk (blk_below BO.out hb)
 have hne : ((padS s).length == 0) = false := beq_eq_false_iff_ne.2 (by omega)
 have hne2 : (((padS s).length : Int) == 0) = false := beq_eq_false_iff_ne.2 (by omega)
 have HC := Aside0.mk hC
 have Hle := Aside0.mk hle
 have BK := Aside0.mk (blk_new w2 (.cells (cells4 sum0) 125))
 have HB2 := Aside0.mk (below_alloc (Below.refl w2.heap.size w2) (.cells (cells4 sum0) 125))
 clear hb HB0 hC hle
 go_wp2_with fail
 go_loopg [6] ((padS s).length / 64) (fun kq v6 w' => ∃ (i : Nat) (t : Int × Int × Int × Int), v6 = .int .i64 i ∧ Aside0 (i + 64 * kq = (padS s).length) ∧ Aside0 (sumN kq (strOfNums ((padS s).drop i)) t = sumOf s) ∧ Aside0 (InR t) ∧ Aside0 (w'.heap[w2.heap.size]? = some (.cells (cells4 t) 125 (0, 0))) ∧ Aside0 (Below w2.heap.size w2 w'))
 case atStart => exact ⟨0, sum0, by go_num, ⟨by have h1 := HP.out; have h2 := HPl.out; omega⟩, ⟨by rw [List.drop_zero, HPl.out, HE.out]; rfl⟩, ⟨sum0_in⟩, BK, HB2⟩
 case round =>
  clear HB2 BK
  obtain ⟨i, t, rfl, HI, HS, HR, BK, HB2⟩ := hrel
  cases gk with
  | zero =>
   have hi1 : (padS s).length < i + 64 := by have := HI.out; omega
   have HT : Aside0 (t = sumOf s) := ⟨HS.out⟩
   have hi2 : i ≤ 20200 := by have := HI.out; omega
   replace BR := Aside0.mk (blk_below BR.out HB2.out)
   replace BO := Aside0.mk (blk_below BO.out HB2.out)
   replace HB := Aside0.mk (below_step HB.out HB2.out)
   go_wp2
   go_loopg [7] 4 (fun kq v7 w' => ∃ k : Nat, v7 = .int .i64 k ∧ Aside0 (k + kq = 4) ∧ Aside0 (w'.heap[w.heap.size + 1]? = some (.cells ((osOf t (4 * k)).map (Value.int .u8)).toArray 59 (0, 0))) ∧ Aside0 (w'.heap[w.heap.size]? = some (.cells ((osOf t 0).map (Value.int .u8)).toArray 59 (0, 0))) ∧ Aside0 (w'.heap[w2.heap.size]? = some (.cells (cells4 t) 125 (0, 0))) ∧ Aside0 (Below w.heap.size w w'))
   case atStart => exact ⟨0, by go_num, ⟨rfl⟩, BO, BR, BK, HB⟩
   case round =>
    clear HB BO BR BK HB2 HC
    obtain ⟨k, rfl, HK, BO, BR, BK, HB⟩ := hrel
    cases gk with
    | zero =>
     have hk4 : 4 ≤ k := by have := HK.out; omega
     have HK4 : Aside0 (k = 4) := ⟨by have := HK.out; omega⟩
     have BO2 : wr.heap[w.heap.size + 1]? = some (.cells #[(.int .u8 (t.1 % 256)), (.int .u8 (t.1 / 256 % 256)), (.int .u8 (t.1 / 65536 % 256)), (.int .u8 (t.1 / 16777216 % 256)), (.int .u8 (t.2.1 % 256)), (.int .u8 (t.2.1 / 256 % 256)), (.int .u8 (t.2.1 / 65536 % 256)), (.int .u8 (t.2.1 / 16777216 % 256)), (.int .u8 (t.2.2.1 % 256)), (.int .u8 (t.2.2.1 / 256 % 256)), (.int .u8 (t.2.2.1 / 65536 % 256)), (.int .u8 (t.2.2.1 / 16777216 % 256)), (.int .u8 (t.2.2.2 % 256)), (.int .u8 (t.2.2.2 / 256 % 256)), (.int .u8 (t.2.2.2 / 65536 % 256)), (.int .u8 (t.2.2.2 / 16777216 % 256))] 59 (0, 0)) := by have h1 := BO.out; rw [HK4.out] at h1; exact h1
     have BR2 : wr.heap[w.heap.size]? = some (.cells #[.int .u8 0, .int .u8 0, .int .u8 0, .int .u8 0, .int .u8 0, .int .u8 0, .int .u8 0, .int .u8 0, .int .u8 0, .int .u8 0, .int .u8 0, .int .u8 0, .int .u8 0, .int .u8 0, .int .u8 0, .int .u8 0] 59 (0, 0)) := BR.out
     have c0 := (blk_cell BO2 0).trans rfl
     have d0 := (blk_cell BR2 0).trans rfl
     have f0 := blk_frozen BR2 0
     have c1 := (blk_cell BO2 1).trans rfl
     have d1 := (blk_cell BR2 1).trans rfl
     have f1 := blk_frozen BR2 1
     have c2 := (blk_cell BO2 2).trans rfl
     have d2 := (blk_cell BR2 2).trans rfl
     have f2 := blk_frozen BR2 2
     have c3 := (blk_cell BO2 3).trans rfl
     have d3 := (blk_cell BR2 3).trans rfl
     have f3 := blk_frozen BR2 3
     have c4 := (blk_cell BO2 4).trans rfl
     have d4 := (blk_cell BR2 4).trans rfl
     have f4 := blk_frozen BR2 4
     have c5 := (blk_cell BO2 5).trans rfl
     have d5 := (blk_cell BR2 5).trans rfl
     have f5 := blk_frozen BR2 5
     have c6 := (blk_cell BO2 6).trans rfl
     have d6 := (blk_cell BR2 6).trans rfl
     have f6 := blk_frozen BR2 6
     have c7 := (blk_cell BO2 7).trans rfl
     have d7 := (blk_cell BR2 7).trans rfl
     have f7 := blk_frozen BR2 7
     have c8 := (blk_cell BO2 8).trans rfl
     have d8 := (blk_cell BR2 8).trans rfl
     have f8 := blk_frozen BR2 8
     have c9 := (blk_cell BO2 9).trans rfl
     have d9 := (blk_cell BR2 9).trans rfl
     have f9 := blk_frozen BR2 9
     have c10 := (blk_cell BO2 10).trans rfl
     have d10 := (blk_cell BR2 10).trans rfl
     have f10 := blk_frozen BR2 10
     have c11 := (blk_cell BO2 11).trans rfl
     have d11 := (blk_cell BR2 11).trans rfl
     have f11 := blk_frozen BR2 11
     have c12 := (blk_cell BO2 12).trans rfl
     have d12 := (blk_cell BR2 12).trans rfl
     have f12 := blk_frozen BR2 12
     have c13 := (blk_cell BO2 13).trans rfl
     have d13 := (blk_cell BR2 13).trans rfl
     have f13 := blk_frozen BR2 13
     have c14 := (blk_cell BO2 14).trans rfl
     have d14 := (blk_cell BR2 14).trans rfl
     have f14 := blk_frozen BR2 14
     have c15 := (blk_cell BO2 15).trans rfl
     have d15 := (blk_cell BR2 15).trans rfl
     have f15 := blk_frozen BR2 15
     have HBR := Aside0.mk BR2
     clear BO2 BR2
     go_wp2
     refine bodyPost_ret (results_cell_row rfl _ _ w.heap.size 59 #[(.int .u8 (t.1 % 256)), (.int .u8 (t.1 / 256 % 256)), (.int .u8 (t.1 / 65536 % 256)), (.int .u8 (t.1 / 16777216 % 256)), (.int .u8 (t.2.1 % 256)), (.int .u8 (t.2.1 / 256 % 256)), (.int .u8 (t.2.1 / 65536 % 256)), (.int .u8 (t.2.1 / 16777216 % 256)), (.int .u8 (t.2.2.1 % 256)), (.int .u8 (t.2.2.1 / 256 % 256)), (.int .u8 (t.2.2.1 / 65536 % 256)), (.int .u8 (t.2.2.1 / 16777216 % 256)), (.int .u8 (t.2.2.2 % 256)), (.int .u8 (t.2.2.2 / 256 % 256)), (.int .u8 (t.2.2.2 / 65536 % 256)), (.int .u8 (t.2.2.2 / 16777216 % 256))] (0, 0) _ rfl (put16 HBR.out) Tryd.underlying59 rfl (by kernel_rfl)) rfl ⟨?_, bel16 HB.out⟩
     unfold strongS
     rw [if_pos hs2, ← HT.out]
     rfl
    | succ k1 =>
     have hk4 : k < 4 := by have := HK.out; omega
     obtain ⟨hx0, hx1⟩ := HR.out.at k hk4
     have Hx0 := Aside0.mk hx0
     have Hx1 := Aside0.mk hx1
     have hck : wr.cell? ⟨w2.heap.size, k, none⟩ = some (.int .u32 ((words4 t).getD k 0)) := by
      rw [blk_cell BK.out k]
      match k, hk4 with
      | 0, _ => rfl
      | 1, _ => rfl
      | 2, _ => rfl
      | 3, _ => rfl
     generalize hxw : (words4 t).getD k 0 = xw at hck Hx0 Hx1
     have HXW := Aside0.mk hxw
     clear hx0 hx1 hxw
     go_wp2_with (go_at_call 102; refine (spec_PutWord.calls _ _ _ (putW Hx0.out Hx1.out)).mono ?_; rintro e w3 ⟨v3, rfl, hr, hb⟩; have HRW := Aside0.mk (Kd.R_mono (Kd.R_bound hr) (fun k_ hk_ => hk_.2.1)); have BO3 := Aside0.mk (blk_below BO.out hb); have BR3 := Aside0.mk (blk_below BR.out hb); have BK3 := Aside0.mk (blk_below BK.out hb); have HB3 := Aside0.mk (below_step HB.out hb); clear hr hb)
     go_loopg [9] 4 (fun kq v9 w' => ∃ j : Nat, v9 = .int .i64 j ∧ Aside0 (j + kq = 4) ∧ Aside0 (Kd.R (Kd.int .u8) 5 w' wr.heap.size (fun k_ => wr.heap.size ≤ k_) v3 (w4b xw)) ∧ Aside0 (w'.heap[w.heap.size + 1]? = some (.cells ((osOf t (4 * k + j)).map (Value.int .u8)).toArray 59 (0, 0))) ∧ Aside0 (w'.heap[w.heap.size]? = some (.cells ((osOf t 0).map (Value.int .u8)).toArray 59 (0, 0))) ∧ Aside0 (w'.heap[w2.heap.size]? = some (.cells (cells4 t) 125 (0, 0))) ∧ Aside0 (Below w.heap.size w w'))
     case atStart => exact ⟨0, by go_num, ⟨rfl⟩, HRW, BO3, BR3, BK3, HB3⟩
     case round =>
      have HLT := Aside0.mk (blk_lt BO.out)
      clear HB3 BO3 BR3 BK3 HRW
      obtain ⟨j, rfl, HJ, HRW, BO3, BR3, BK3, HB3⟩ := hrel
      obtain ⟨A3, c3, rfl, hle3, hC3⟩ := Kd.R_reads HRW.out
      cases gk with
      | zero =>
       have hj4 : 4 ≤ j := by have := HJ.out; omega
       have HJ4 : Aside0 (j = 4) := ⟨by have := HJ.out; omega⟩
       clear hC3 hle3
       go_wp2
       go_roundg k1
       case measure => omega
       case rel => exact ⟨k + 1, by go_num, ⟨by have := HK.out; omega⟩, ⟨by have h1 := BO3.out; rw [HJ4.out] at h1; exact h1⟩, BR3, BK3, HB3⟩
      | succ j1 =>
       have hj4 : j < 4 := by have := HJ.out; omega
       obtain ⟨ad, rfl, hcell⟩ := cellR hC3 j hj4
       have Hn := Aside0.mk (show 4 * k + j < 16 by omega)
       have hn16 : 4 * k + j < 16 := Hn.out
       have hoc := blk_cell BO3.out (4 * k + j)
       have hof := blk_frozen BO3.out (4 * k + j)
       rw [osCell t _ hn16] at hoc
       clear hC3 hle3
       go_wp2
       go_roundg j1
       case measure => omega
       case rel =>
        have hb1 := HLT.out
        have hw2 : w.heap.size + 1 < w2.heap.size := by have h1 := HW.out; simp at h1; omega
        exact ⟨j + 1, by go_num, ⟨by have := HJ.out; omega⟩, ⟨Kd.R_far HRW.out (p := ⟨w.heap.size + 1, 4 * k + j, none⟩) (fun k_ hk_ => by show k_ ≠ w.heap.size + 1; omega) _⟩, ⟨blk_put BO3.out (4 * k + j) _ (osPut hn16 (by rw [← out16_at t k j hk4 hj4, HXW.out, List.getD_eq_getElem?_getD, List.getElem?_eq_getElem (show j < (w4b xw).length from hj4)]; rfl))⟩, ⟨blk_far BR3.out (p := ⟨w.heap.size + 1, 4 * k + j, none⟩) (by show w.heap.size ≠ w.heap.size + 1; omega) _⟩, ⟨blk_far BK3.out (p := ⟨w.heap.size + 1, 4 * k + j, none⟩) (by show w2.heap.size ≠ w.heap.size + 1; omega) _⟩, ⟨below_set HB3.out (by omega)⟩⟩
  | succ k1 =>
   have hi1 : i + 64 ≤ (padS s).length := by have := HI.out; omega
   obtain ⟨A2, c2, hcut, hC2⟩ := cutM (A := A) (c := c) (L := padS s) (i := i) hi1 Hle.out
   have hi2 : i ≤ 20200 := by omega
   have HZ : Aside0 ((strOfNums (((padS s).take (i + 64)).drop i)).size = 64) := ⟨by rw [strOfNums_size, List.length_drop, List.length_take]; omega⟩
   replace hC2 := Aside0.mk hC2
   have HCUT := Aside0.mk hcut
   clear hcut
   go_wp2
   replace BK := Aside0.mk (blk_drew BK.out)
   replace HB2 := Aside0.mk (below_drew1 HB2.out)
   have hcut := HCUT.out
   have hw64 : wrap64 ((i : Int) + 64) = (i : Int) + 64 := wrap64_id (by omega) (by omega)
   refine start_ (n := 9) (S := fun w' => w'.cell? ⟨w2.heap.size, 0, none⟩ = some (.int .u32 t.1) ∧ w'.cell? ⟨w2.heap.size, 1, none⟩ = some (.int .u32 t.2.1) ∧ w'.cell? ⟨w2.heap.size, 2, none⟩ = some (.int .u32 t.2.2.1) ∧ w'.cell? ⟨w2.heap.size, 3, none⟩ = some (.int .u32 t.2.2.2) ∧ Kd.C (Kd.int .u8) w' A (padS s).length (padS s)) (ds := [8]) #[false, false, false, false, false, false, false, false, false] (by kernel_rfl) rfl rfl ⟨(blk_cell BK.out 0).trans rfl, (blk_cell BK.out 1).trans rfl, (blk_cell BK.out 2).trans rfl, (blk_cell BK.out 3).trans rfl, Kd.C_below HC.out HB2.out⟩ (fun hHeld => ?_)
   generalize wr.drew = w6 at BK HB2 hHeld ⊢
   refine take_ (i := 0) (N := some 25) (v := ?_) (a' := ?_) #[true, false, false, false, false, false, false, false, false] rfl rfl (by kernel_rfl) (fun _ _ _ h => h) (Or.inl ⟨by rfl, ?_⟩) hHeld ?_ ?_
   rotate_left
   ·rintro w' ⟨s0, s1, s2, s3, s4⟩
    go_simp
    with_reducible rfl
   rotate_left
   ·simp only [Act.put, List.setIfInBounds_toArray, List.set_cons_zero, List.set_cons_succ, i64_w, i32_w]
    rfl
   refine pure_ (i := 1) (N := some 26) (v := ?_) (a' := ?_) #[true, true, false, false, false, false, false, false, false] rfl rfl (by kernel_rfl) (fun _ _ _ h => h) (Or.inl ⟨by rfl, ?_⟩) ?_ ?_
   rotate_left
   ·intro w'
    go_simp
    with_reducible rfl
   rotate_left
   ·simp only [Act.put, List.setIfInBounds_toArray, List.set_cons_zero, List.set_cons_succ, i64_w, i32_w]
    rfl
   refine pure_ (i := 2) (N := some 27) (v := ?_) (a' := ?_) #[true, true, true, false, false, false, false, false, false] rfl rfl (by kernel_rfl) (fun _ _ _ h => h) (Or.inl ⟨by rfl, ?_⟩) ?_ ?_
   rotate_left
   ·intro w'
    go_simp
    with_reducible rfl
   rotate_left
   ·simp only [Act.put, List.setIfInBounds_toArray, List.set_cons_zero, List.set_cons_succ, i64_w, i32_w]
    rfl
   refine pure_ (i := 3) (N := some 28) (v := ?_) (a' := ?_) #[true, true, true, true, false, false, false, false, false] rfl rfl (by kernel_rfl) (fun _ _ _ h => h) (Or.inl ⟨by rfl, ?_⟩) ?_ ?_
   rotate_left
   ·intro w'
    go_simp
    with_reducible rfl
   rotate_left
   ·simp only [Act.put, List.setIfInBounds_toArray, List.set_cons_zero, List.set_cons_succ, i64_w, i32_w]
    rfl
   refine pure_ (i := 4) (N := some 29) (v := ?_) (a' := ?_) #[true, true, true, true, true, false, false, false, false] rfl rfl (by kernel_rfl) (fun _ _ _ h => h) (Or.inl ⟨by rfl, ?_⟩) ?_ ?_
   rotate_left
   ·intro w'
    go_simp
    with_reducible rfl
   rotate_left
   ·simp only [Act.put, List.setIfInBounds_toArray, List.set_cons_zero, List.set_cons_succ, i64_w, i32_w]
    rfl
   refine pure_ (i := 5) (N := some 30) (v := ?_) (a' := ?_) #[true, true, true, true, true, true, false, false, false] rfl rfl (by kernel_rfl) (fun _ _ _ h => h) (Or.inl ⟨by rfl, ?_⟩) ?_ ?_
   rotate_left
   ·intro w'
    go_simp
    with_reducible rfl
   rotate_left
   ·simp only [Act.put, List.setIfInBounds_toArray, List.set_cons_zero, List.set_cons_succ, i64_w, i32_w]
    rfl
   refine take_ (i := 6) (N := some 31) (v := ?_) (a' := ?_) #[true, true, true, true, true, true, true, false, false] rfl rfl (by kernel_rfl) (fun _ _ _ h => h) (Or.inl ⟨by rfl, ?_⟩) hHeld ?_ ?_
   rotate_left
   ·rintro w' ⟨s0, s1, s2, s3, s4⟩
    have hcv := Kd.C_string (P := Tryd.prog) (c := c2) Tryd.underlying22 Tryd.underlying5 Tryd.underlying9 (hC2.out _ s4)
    go_simp
    with_reducible rfl
   rotate_left
   ·simp only [Act.put, List.setIfInBounds_toArray, List.set_cons_zero, List.set_cons_succ, i64_w, i32_w]
    rfl
   refine one_ (i := 7) (N := some 32) #[true, true, true, true, true, true, true, true, false] rfl rfl (by kernel_rfl) (by decide) (fun K hK => ?_)
   refine goes_ Tryd.func101 (by kernel_rfl) rfl #[.agg #[.int .u32 t.1, .int .u32 t.2.1, .int .u32 t.2.2.1, .int .u32 t.2.2.2], .string (strOfNums (((padS s).take (i + 64)).drop i))] (by rfl) rfl rfl (by (try simp only [List.map_toArray, List.map_cons, List.map_nil]); first | done | rfl | (simp only [List.length_drop, List.length_take]; rfl)) ?_
   refine (mixs_calls _ _ _ _ _ _ HZ.out).mono ?_
   rintro e w7 ⟨rfl, hb⟩
   refine ⟨_, rfl, ?_⟩
   replace BK := Aside0.mk (blk_below BK.out hb)
   replace HB2 := Aside0.mk (below_step HB2.out hb)
   clear hb
   refine hK.out _ _ ⟨(blk_cell BK.out 0).trans rfl, (blk_cell BK.out 1).trans rfl, (blk_cell BK.out 2).trans rfl, (blk_cell BK.out 3).trans rfl, Kd.C_below HC.out HB2.out⟩ (fun hHeld => ?_)
   clear hK K
   refine norm_ (a' := ?_) ?_ ?_
   rotate_left
   ·show Act.put _ (some 32) _ = _
    simp only [Act.put, List.setIfInBounds_toArray, List.set_cons_zero, List.set_cons_succ, i64_w, i32_w]
    rfl
   refine last_ (i := 8) (N := none) #[true, true, true, true, true, true, true, true, true] rfl rfl (by kernel_rfl) (by decide) (fun K hK => ?_)
   have c0 := hHeld.1
   have c1 := hHeld.2.1
   have c2 := hHeld.2.2.1
   have c3 := hHeld.2.2.2.1
   have f0 := blk_frozen BK.out 0
   have f1 := blk_frozen BK.out 1
   have f2 := blk_frozen BK.out 2
   have f3 := blk_frozen BK.out 3
   go_simp
   refine hK.out _ _ ?_
   clear hK K c0 c1 c2 c3 f0 f1 f2 f3
   refine done_ (by kernel_rfl) ?_
   clear hcut hw64
   go_wp2
   go_roundg k1
   case measure => omega
   case rel => exact ⟨i + 64, mxB (strOfNums (((padS s).take (i + 64)).drop i)) t, by go_num, ⟨by have := HI.out; omega⟩, ⟨by rw [← HS.out, sum_step]⟩, ⟨mxB_in _ _⟩, ⟨blk_put (blk_put (blk_put (blk_put BK.out 0 _ rfl) 1 _ rfl) 2 _ rfl) 3 _ rfl⟩, ⟨below_set (below_set (below_set (below_set HB2.out (Nat.le_refl _)) (Nat.le_refl _)) (Nat.le_refl _)) (Nat.le_refl _)⟩⟩


end Go.Proofs.YtjiaigjmihmdjaaDoor.Sum
