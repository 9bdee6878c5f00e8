
/- The strong sums: what the program's and the reference's functions of them come to. No statement of a law stands here. -/
import Derived.Test.YtjiaigjmihmdjaaDoorMine
import Derived.Test.YtjiaigjmihmdjaaDoorSum0
import Derived.Below
import Derived.Deep.Draws
import Derived.Deep.AppendLies
import Derived.Maps.AppendAt
import Derived.OwnWalk
import Derived.Laws.BytesArg
import Derived.Laws.MakeOwn
import Derived.Laws.OwnMore
import Derived.Deep.OwnRows
import Derived.Tactics
import Derived.Lib.ConvBytes
import Derived.Laws.Slices
import Derived.WalkKit
import Derived.KernelRfl
import Derived.RowKit3
import Derived.Deep.LoopGhost
import Derived.Deep.QuietTactic
import Derived.BigQuiet
import Derived.WideLaws
import Derived.Deep.DeepCutAuto
import Derived.Deep.CutBlock
import Derived.Deep.RegionHeld3
import Derived.Laws.Rows
import Derived.Lib.AppendStr
import Derived.ArgAppend
import Derived.Laws.IdiomCopy
import Derived.OrdersHeld
import Derived.Laws.BitsLemmas
import Derived.RowKit
import Derived.Test.YtjiaigjmihmdjaaDoorK0
namespace Go.Proofs.YtjiaigjmihmdjaaDoor.Sum
open Go.RowKit Go.Proofs.YtjiaigjmihmdjaaDoorW.PrintWords Go.Proofs.YtjiaigjmihmdjaaDoorW.PrintLast Go.Proofs.YtjiaigjmihmdjaaDoorW.PrintMore
attribute [local go_sem] max2_int min2_int max_two min_two max_three min_three max_four min_four
set_option linter.unusedVariables false
set_option linter.unusedSimpArgs false
theorem info5 : (Tryd.prog.info? 5).map (fun i => (i.zero, i.size, i.bytes)) = some (some (.int .u8 0), 1, 1) := by kernel_rfl
/-! ### impl_readWord: function 195 -/
def impl_readWord.f (a0 : ByteArray) : Option (Int) := if 0 < (a0.size : Int) then (if 1 < (a0.size : Int) then (if 2 < (a0.size : Int) then (if 3 < (a0.size : Int) then (some (Go.bits .or .u32 (Go.bits .or .u32 (Go.bits .or .u32 ((bt a0 0) % 4294967296) ((((bt a0 1) % 4294967296) * 256) % 4294967296)) ((((bt a0 2) % 4294967296) * 65536) % 4294967296)) ((((bt a0 3) % 4294967296) * 16777216) % 4294967296))) else (none)) else (none)) else (none)) else (none)
set_option maxHeartbeats 8000000 in
set_option maxRecDepth 100000 in
theorem impl_readWord.calls (a0 : ByteArray) (r : Int) (w : World) (h : impl_readWord.f a0 = some r) :
  Calls Tryd.prog 195 #[.string a0] w fun e w' => e = .returned (.int .u32 r) ∧ Drawn0 w w' := by
 have H : (if 0 < (a0.size : Int) then (if 1 < (a0.size : Int) then (if 2 < (a0.size : Int) then (if 3 < (a0.size : Int) then (some (Go.bits .or .u32 (Go.bits .or .u32 (Go.bits .or .u32 ((bt a0 0) % 4294967296) ((((bt a0 1) % 4294967296) * 256) % 4294967296)) ((((bt a0 2) % 4294967296) * 65536) % 4294967296)) ((((bt a0 3) % 4294967296) * 16777216) % 4294967296))) else (none)) else (none)) else (none)) else (none)) = some r := h
 clear h
 by_cases c2 : 0 < (a0.size : Int)
 ·rw [if_pos c2] at H
  have c2b0 : decide (0 < (a0.size : Int)) = true := decide_eq_true c2
  have c2b1 : decide (0 < a0.size) = true := decide_eq_true (by omega)
  clear c2
  by_cases c4 : 1 < (a0.size : Int)
  ·rw [if_pos c4] at H
   have c4b0 : decide (1 < (a0.size : Int)) = true := decide_eq_true c4
   have c4b1 : decide (1 < a0.size) = true := decide_eq_true (by omega)
   clear c4
   by_cases c6 : 2 < (a0.size : Int)
   ·rw [if_pos c6] at H
    have c6b0 : decide (2 < (a0.size : Int)) = true := decide_eq_true c6
    have c6b1 : decide (2 < a0.size) = true := decide_eq_true (by omega)
    clear c6
    by_cases c8 : 3 < (a0.size : Int)
    ·rw [if_pos c8] at H
     have c8b0 : decide (3 < (a0.size : Int)) = true := decide_eq_true c8
     have c8b1 : decide (3 < a0.size) = true := decide_eq_true (by omega)
     clear c8
     obtain rfl := Option.some.inj H
     have p3 : 0 ≤ (0 : Int) := (by omega)
     have q3 : 0 < a0.size := (by have : (0 : Int) < (a0.size : Int) := of_decide_eq_true (by first | (with_reducible assumption) | assumption); omega)
     have hx3 : ∀ h : 0 < a0.size, ((a0[0]'h).toNat : Int) = bt a0 0 := bt_at a0 0
     clear p3
     have qi3 : (0 < (a0.size : Int)) = True := eq_true (of_decide_eq_true (by first | (with_reducible assumption) | assumption))
     replace q3 := eq_true q3
     have p5 : 0 ≤ (1 : Int) := (by omega)
     have q5 : 1 < a0.size := (by have : (1 : Int) < (a0.size : Int) := of_decide_eq_true (by first | (with_reducible assumption) | assumption); omega)
     have hx5 : ∀ h : 1 < a0.size, ((a0[1]'h).toNat : Int) = bt a0 1 := bt_at a0 1
     clear p5
     have qi5 : (1 < (a0.size : Int)) = True := eq_true (of_decide_eq_true (by first | (with_reducible assumption) | assumption))
     replace q5 := eq_true q5
     have p7 : 0 ≤ (2 : Int) := (by omega)
     have q7 : 2 < a0.size := (by have : (2 : Int) < (a0.size : Int) := of_decide_eq_true (by first | (with_reducible assumption) | assumption); omega)
     have hx7 : ∀ h : 2 < a0.size, ((a0[2]'h).toNat : Int) = bt a0 2 := bt_at a0 2
     clear p7
     have qi7 : (2 < (a0.size : Int)) = True := eq_true (of_decide_eq_true (by first | (with_reducible assumption) | assumption))
     replace q7 := eq_true q7
     have p9 : 0 ≤ (3 : Int) := (by omega)
     have q9 : 3 < a0.size := (by have : (3 : Int) < (a0.size : Int) := of_decide_eq_true (by first | (with_reducible assumption) | assumption); omega)
     have hx9 : ∀ h : 3 < a0.size, ((a0[3]'h).toNat : Int) = bt a0 3 := bt_at a0 3
     clear p9
     have qi9 : (3 < (a0.size : Int)) = True := eq_true (of_decide_eq_true (by first | (with_reducible assumption) | assumption))
     replace q9 := eq_true q9
     go_enter Tryd.func195, Tryd.ntmps195
     go_wp2
     repeat (go_quiet (fail); try go_wp2)
     go_ret
     exact ⟨by first | rfl | (simp; done) | (simp [*]; done), by repeat (first | exact Drawn0.refl _ | apply Drawn0.step)⟩
    ·rw [if_neg c8] at H
     exact absurd H (by simp)
   ·rw [if_neg c6] at H
    exact absurd H (by simp)
  ·rw [if_neg c4] at H
   exact absurd H (by simp)
 ·rw [if_neg c2] at H
  exact absurd H (by simp)


/-! ### bits_RotateLeft32: function 197 -/
def bits_RotateLeft32.f (a0 : Int) (a1 : Int) : Option (Int) := if 0 ≤ (Go.bits .and .u64 (IntKind.u64.wrap (a1)) 31) then (if 0 ≤ (IntKind.u64.wrap (32 - (Go.bits .and .u64 (IntKind.u64.wrap (a1)) 31))) then (some (Go.bits .or .u32 (shl .u32 a0 (Go.bits .and .u64 (IntKind.u64.wrap (a1)) 31)) (shr .u32 a0 (IntKind.u64.wrap (32 - (Go.bits .and .u64 (IntKind.u64.wrap (a1)) 31)))))) else (none)) else (none)
set_option maxHeartbeats 8000000 in
set_option maxRecDepth 100000 in
theorem bits_RotateLeft32.calls (a0 : Int) (a1 : Int) (r : Int) (w : World) (h : bits_RotateLeft32.f a0 a1 = some r) :
  Calls Tryd.prog 197 #[.int .u32 a0, .int .i64 a1] w fun e w' => e = .returned (.int .u32 r) ∧ Drawn0 w w' := by
 have H : (if 0 ≤ (Go.bits .and .u64 (IntKind.u64.wrap (a1)) 31) then (if 0 ≤ (IntKind.u64.wrap (32 - (Go.bits .and .u64 (IntKind.u64.wrap (a1)) 31))) then (some (Go.bits .or .u32 (shl .u32 a0 (Go.bits .and .u64 (IntKind.u64.wrap (a1)) 31)) (shr .u32 a0 (IntKind.u64.wrap (32 - (Go.bits .and .u64 (IntKind.u64.wrap (a1)) 31)))))) else (none)) else (none)) = some r := h
 clear h
 obtain ⟨ji3, hji3⟩ : ∃ j_ : Int, (Go.bits .and .u64 (IntKind.u64.wrap (a1)) 31) = j_ := ⟨_, rfl⟩
 replace H : (if 0 ≤ (ji3) then (if 0 ≤ (IntKind.u64.wrap (32 - (ji3))) then (some (Go.bits .or .u32 (shl .u32 a0 (ji3)) (shr .u32 a0 (IntKind.u64.wrap (32 - (ji3)))))) else (none)) else (none)) = some r := by first | (rw [hji3] at H; exact H) | (simp only [hji3] at H ⊢; exact H)
 by_cases c4 : 0 ≤ (ji3)
 ·rw [if_pos c4] at H
  have c4b0 := eq_true c4
  have c4b1 : decide (0 ≤ (ji3)) = true := decide_eq_true c4
  clear c4
  obtain ⟨ji5, hji5⟩ : ∃ j_ : Int, (shl .u32 a0 (ji3)) = j_ := ⟨_, rfl⟩
  replace H : (if 0 ≤ (IntKind.u64.wrap (32 - (ji3))) then (some (Go.bits .or .u32 (ji5) (shr .u32 a0 (IntKind.u64.wrap (32 - (ji3)))))) else (none)) = some r := by first | (rw [hji5] at H; exact H) | (simp only [hji5] at H ⊢; exact H)
  have hji5_ : (IntKind.u32.wrap (a0 * 2 ^ min (ji3).toNat 32)) = ji5 := hji5
  have hji5z : (ji3) ≤ 32 → (IntKind.u32.wrap (a0 * 2 ^ (ji3).toNat)) = ji5 := shl_small hji5
  obtain ⟨ji6, hji6⟩ : ∃ j_ : Int, (IntKind.u64.wrap (32 - (ji3))) = j_ := ⟨_, rfl⟩
  replace H : (if 0 ≤ (ji6) then (some (Go.bits .or .u32 (ji5) (shr .u32 a0 (ji6)))) else (none)) = some r := by first | (rw [hji6] at H; exact H) | (simp only [hji6] at H ⊢; exact H)
  by_cases c7 : 0 ≤ (ji6)
  ·rw [if_pos c7] at H
   have c7b0 := eq_true c7
   have c7b1 : decide (0 ≤ (ji6)) = true := decide_eq_true c7
   clear c7
   obtain ⟨ji8, hji8⟩ : ∃ j_ : Int, (shr .u32 a0 (ji6)) = j_ := ⟨_, rfl⟩
   replace H : (some (Go.bits .or .u32 (ji5) (ji8))) = some r := by first | (rw [hji8] at H; exact H) | (simp only [hji8] at H ⊢; exact H)
   have hji8_ : (a0 / 2 ^ min (ji6).toNat 32) = ji8 := hji8
   have hji8z : (ji6) ≤ 32 → (a0 / 2 ^ (ji6).toNat) = ji8 := shr_small hji8
   obtain rfl := Option.some.inj H
   go_enter Tryd.func197, Tryd.ntmps197
   go_wp2
   go_ret
   exact ⟨by first | rfl | (simp; done) | (simp only [← hji3, ← hji5, ← hji6, ← hji8] <;> (first | rfl | simp)) | (simp [*]; done), by repeat (first | exact Drawn0.refl _ | apply Drawn0.step)⟩
  ·rw [if_neg c7] at H
   exact absurd H (by simp)
 ·rw [if_neg c4] at H
  exact absurd H (by simp)


/-! ### impl_wordText: function 135 -/
def impl_wordText.f (a0 : Int) : Option (ByteArray) := some (strOfNums (([(a0) % 256, (a0 / 256) % 256, (a0 / 65536) % 256, (a0 / 16777216) % 256] : List Int)))
set_option maxHeartbeats 8000000 in
set_option maxRecDepth 100000 in
theorem impl_wordText.calls (a0 : Int) (r : ByteArray) (w : World) (h : impl_wordText.f a0 = some r) :
  Calls Tryd.prog 135 #[.int .u32 a0] w fun e w' => e = .returned (.string r) ∧ Below w.heap.size w w' := by
 have HB := Aside0.mk (Below.refl w.heap.size w)
 have H : (some (strOfNums (([(a0) % 256, (a0 / 256) % 256, (a0 / 65536) % 256, (a0 / 16777216) % 256] : List Int)))) = some r := h
 clear h
 obtain ⟨y312, hy312⟩ : ∃ y_ : List Int, y_ = (([(a0) % 256, (a0 / 256) % 256, (a0 / 65536) % 256, (a0 / 16777216) % 256] : List Int)) := ⟨_, rfl⟩
 replace H : (some (strOfNums y312)) = some r := by first | (rw [hy312]; with_reducible exact H) | (have H2_ := (Option.bind_some _ _).symm.trans H; rw [hy312]; with_reducible exact H2_) | (have H2_ := (Option.bind_some _ _).symm.trans H; with_reducible exact H2_) | with_reducible exact H | (rw [hy312]; exact H) | exact H
 have Ny312 := Aside0.mk hy312
 clear hy312
 obtain rfl := Option.some.inj H
 go_enter Tryd.func135, Tryd.ntmps135
 go_wp2_with (first | ((with_reducible refine gate_dst (N := 14) rfl ?_); refine Kd.R_lit (Kd.int .u8) _ 5 ?hg (N := 14) ?hd (xs := ([(a0) % 256, (a0 / 256) % 256, (a0 / 65536) % 256, (a0 / 16777216) % 256] : List Int)) (inner := [.int .u8 ((a0) % 256), .int .u8 ((a0 / 256) % 256), .int .u8 ((a0 / 65536) % 256), .int .u8 ((a0 / 16777216) % 256)]) (ok := fun _ => True) (okp := fun _ => True) ?hr ?hp (fun _ hk => hk) trivial (Below.refl _ _) (Nat.le_refl _) (by simp) ?_; (case hd => rfl); (case hg => rfl); (case hr => first | (go_simp; done) | (go_simp; rfl)); (case hp => exact (Reps.one (show Kd.M (Kd.int .u8) _ _ _ ((a0) % 256) [.int .u8 ((a0) % 256)] from rfl) (Reps.one (show Kd.M (Kd.int .u8) _ _ _ ((a0 / 256) % 256) [.int .u8 ((a0 / 256) % 256)] from rfl) (Reps.one (show Kd.M (Kd.int .u8) _ _ _ ((a0 / 65536) % 256) [.int .u8 ((a0 / 65536) % 256)] from rfl) (Reps.one (show Kd.M (Kd.int .u8) _ _ _ ((a0 / 16777216) % 256) [.int .u8 ((a0 / 16777216) % 256)] from rfl) (Reps.none _ _)))))); intro v313 w2 ho3 hb hg_ hnew_; clear hg_ hnew_; (first | rw [← Ny312.out] at ho3 | (simp only [Int.reduceToNat] at ho3; rw [← Ny312.out] at ho3)); have n0_ := Aside0.mk (Kd.R_lower ho3 (below_size (by repeat (first | (with_reducible first | exact HB.out | apply below_alloc | apply pw_below_drewN | apply below_drew1) | exact HB.out)))); have n1_ := Aside0.mk (below_step (by repeat (first | (with_reducible first | exact HB.out | apply below_alloc | apply pw_below_drewN | apply below_drew1) | exact HB.out)) hb); clear HB; have HO314 := n0_; have HB := n1_; clear n0_ n1_; clear hb ho3; have hcv4 := own_string (P := Tryd.prog) Tryd.underlying22 Tryd.underlying5 Tryd.underlying9 (Kd.own_of_R HO314.out)))
 go_ret
 exact ⟨by first | rfl | (simp [errW_none, errW_some] <;> rfl) | (simp [*, errW_none, errW_some] <;> rfl), by repeat (first | (with_reducible first | exact HB.out | apply below_alloc | apply pw_below_drewN | apply below_drew1) | exact HB.out)⟩


/-! ### spec_GetWord: function 160 -/
def spec_GetWord.f (l0 : List Int) : Option (Int × Bool) := if (l0.length : Int) = 4 then (if 0 < (l0.length : Int) then (if 1 < (l0.length : Int) then (if 2 < (l0.length : Int) then (if 3 < (l0.length : Int) then (some ((wrap64 ((wrap64 ((wrap64 ((wrap64 (rd l0 0)) + (wrap64 (256 * (wrap64 (rd l0 1)))))) + (wrap64 (65536 * (wrap64 (rd l0 2)))))) + (wrap64 (16777216 * (wrap64 (rd l0 3)))))) % 4294967296, true)) else (none)) else (none)) else (none)) else (none)) else (some (0, false))
set_option maxHeartbeats 8000000 in
set_option maxRecDepth 100000 in
theorem spec_GetWord.calls (A0 : Option Addr) (c0 : Nat) (l0 : List Int) (r1 : Int) (r2 : Bool) (w : World) (hr0 : Kd.C (Kd.int .u8) w A0 l0.length l0) (hc0 : l0.length ≤ c0) (h : spec_GetWord.f l0 = some (r1, r2)) :
  Calls Tryd.prog 160 #[.slice A0 l0.length c0] w fun e w' => e = .returned (.tuple #[.int .u32 r1, .bool r2]) ∧ Drawn0 w w' := by
 have HR0 := Aside0.mk hr0
 have HC0 := Aside0.mk hc0
 clear hr0 hc0
 have H : (if (l0.length : Int) = 4 then (if 0 < (l0.length : Int) then (if 1 < (l0.length : Int) then (if 2 < (l0.length : Int) then (if 3 < (l0.length : Int) then (some ((wrap64 ((wrap64 ((wrap64 ((wrap64 (rd l0 0)) + (wrap64 (256 * (wrap64 (rd l0 1)))))) + (wrap64 (65536 * (wrap64 (rd l0 2)))))) + (wrap64 (16777216 * (wrap64 (rd l0 3)))))) % 4294967296, true)) else (none)) else (none)) else (none)) else (none)) else (some (0, false))) = some (r1, r2) := h
 clear h
 by_cases c2 : (l0.length : Int) = 4
 ·rw [if_pos c2] at H
  have c2b0 : ((l0.length : Int) == 4) = true := beq_iff_eq.mpr c2
  have c2b1 : ((l0.length : Int) != 4) = false := bne_eq_false_iff_eq.mpr c2
  clear c2
  by_cases c3 : 0 < (l0.length : Int)
  ·rw [if_pos c3] at H
   have c3b0 : decide (0 < (l0.length : Int)) = true := decide_eq_true c3
   have c3b1 : decide (0 < l0.length) = true := decide_eq_true (by omega)
   clear c3
   by_cases c4 : 1 < (l0.length : Int)
   ·rw [if_pos c4] at H
    have c4b0 : decide (1 < (l0.length : Int)) = true := decide_eq_true c4
    have c4b1 : decide (1 < l0.length) = true := decide_eq_true (by omega)
    clear c4
    by_cases c5 : 2 < (l0.length : Int)
    ·rw [if_pos c5] at H
     have c5b0 : decide (2 < (l0.length : Int)) = true := decide_eq_true c5
     have c5b1 : decide (2 < l0.length) = true := decide_eq_true (by omega)
     clear c5
     by_cases c6 : 3 < (l0.length : Int)
     ·rw [if_pos c6] at H
      have c6b0 : decide (3 < (l0.length : Int)) = true := decide_eq_true c6
      have c6b1 : decide (3 < l0.length) = true := decide_eq_true (by omega)
      clear c6
      simp only [Option.some.injEq, Prod.mk.injEq] at H
      obtain ⟨rfl, rfl⟩ := H
      have p117 : 0 ≤ (0 : Int) := (by omega)
      have q117 : 0 < (l0.length : Int) := of_decide_eq_true (by first | (with_reducible assumption) | assumption)
      obtain ⟨ad117, e117, hx117_0⟩ := Kd.at_int HR0.out 0 p117 q117
      cases e117
      have qi117 : (0 < l0.length) = True := eq_true (by omega)
      (try rw [show ((0 : Int)).toNat = 0 from rfl] at hx117_0)
      (try rw [Addr.add_zero'] at hx117_0)
      replace p117 := eq_true p117
      replace q117 := eq_true q117
      have p118 : 0 ≤ (1 : Int) := (by omega)
      have q118 : 1 < (l0.length : Int) := of_decide_eq_true (by first | (with_reducible assumption) | assumption)
      obtain ⟨ad118, e118, hx118_0⟩ := Kd.at_int HR0.out 1 p118 q118
      obtain rfl : ad117 = ad118 := (by injection e118)
      (try simp only [show (1 : Int).toNat = 1 from rfl, Nat.reduceMul, Nat.reduceEqDiff, Go.Addr.add, ↓reduceIte] at hx118_0)
      have qi118 : (1 < l0.length) = True := eq_true (by omega)
      (try rw [show ((1 : Int)).toNat = 1 from rfl] at hx118_0)
      replace p118 := eq_true p118
      replace q118 := eq_true q118
      have p119 : 0 ≤ (2 : Int) := (by omega)
      have q119 : 2 < (l0.length : Int) := of_decide_eq_true (by first | (with_reducible assumption) | assumption)
      obtain ⟨ad119, e119, hx119_0⟩ := Kd.at_int HR0.out 2 p119 q119
      obtain rfl : ad117 = ad119 := (by injection e119)
      (try simp only [show (2 : Int).toNat = 2 from rfl, Nat.reduceMul, Nat.reduceEqDiff, Go.Addr.add, ↓reduceIte] at hx119_0)
      have qi119 : (2 < l0.length) = True := eq_true (by omega)
      (try rw [show ((2 : Int)).toNat = 2 from rfl] at hx119_0)
      replace p119 := eq_true p119
      replace q119 := eq_true q119
      have p120 : 0 ≤ (3 : Int) := (by omega)
      have q120 : 3 < (l0.length : Int) := of_decide_eq_true (by first | (with_reducible assumption) | assumption)
      obtain ⟨ad120, e120, hx120_0⟩ := Kd.at_int HR0.out 3 p120 q120
      obtain rfl : ad117 = ad120 := (by injection e120)
      (try simp only [show (3 : Int).toNat = 3 from rfl, Nat.reduceMul, Nat.reduceEqDiff, Go.Addr.add, ↓reduceIte] at hx120_0)
      have qi120 : (3 < l0.length) = True := eq_true (by omega)
      (try rw [show ((3 : Int)).toNat = 3 from rfl] at hx120_0)
      replace p120 := eq_true p120
      replace q120 := eq_true q120
      go_enter Tryd.func160, Tryd.ntmps160
      go_wp2
      repeat (go_quiet (fail); try go_wp2)
      go_ret2
      exact ⟨by first | rfl | (simp; done) | (simp [*]; done), by repeat (first | exact Drawn0.refl _ | apply Drawn0.step)⟩
     ·rw [if_neg c6] at H
      exact absurd H (by simp)
    ·rw [if_neg c5] at H
     exact absurd H (by simp)
   ·rw [if_neg c4] at H
    exact absurd H (by simp)
  ·rw [if_neg c3] at H
   exact absurd H (by simp)
 ·rw [if_neg c2] at H
  have c2b0 : ((l0.length : Int) == 4) = false := beq_eq_false_iff_ne.mpr c2
  have c2b1 : ((l0.length : Int) != 4) = true := bne_iff_ne.mpr c2
  simp only [Option.some.injEq, Prod.mk.injEq] at H
  obtain ⟨rfl, rfl⟩ := H
  go_enter Tryd.func160, Tryd.ntmps160
  go_wp2
  repeat (go_quiet (fail); try go_wp2)
  go_ret2
  exact ⟨by first | rfl | (simp; done) | (simp [*]; done), by repeat (first | exact Drawn0.refl _ | apply Drawn0.step)⟩


theorem quiet_of0 {P : Program} {f : FuncId} {args : Array Value} {w : World} {n : Nat} {v : Value}
  (h : Calls P f args (w.drewN n) fun e w' => e = .returned v ∧ Drawn0 (w.drewN n) w') : Calls P f args (w.drewN n) fun e w'' => e = .returned v ∧ ∃ m, w'' = w.drewN m := Calls.quiet_of (h.mono fun _ _ ⟨a, b⟩ => ⟨a, b.out⟩)
theorem specWord (l : List UInt8) (h : l.length = 4) : spec_GetWord.f (nums l) = some (((w4 l : Nat) : Int), true) := by
 have h0 := byte_lt (l.getD 0 0)
 have h1 := byte_lt (l.getD 1 0)
 have h2 := byte_lt (l.getD 2 0)
 have h3 := byte_lt (l.getD 3 0)
 unfold spec_GetWord.f
 rw [nums_length, h, if_pos (by decide : ((4 : Nat) : Int) = 4), if_pos (by decide), if_pos (by decide), if_pos (by decide), if_pos (by decide)]
 simp only [rd_nums]
 have e0 : (0 : Int).toNat = 0 := rfl
 have e1 : (1 : Int).toNat = 1 := rfl
 have e2 : (2 : Int).toNat = 2 := rfl
 have e3 : (3 : Int).toNat = 3 := rfl
 rw [e0, e1, e2, e3]
 unfold w4
 generalize (l.getD 0 0).toNat = a at *
 generalize (l.getD 1 0).toNat = b at *
 generalize (l.getD 2 0).toNat = c at *
 generalize (l.getD 3 0).toNat = d at *
 rw [wrap64_id (x := (a : Int)) (by omega) (by omega), wrap64_id (x := (b : Int)) (by omega) (by omega), wrap64_id (x := (c : Int)) (by omega) (by omega), wrap64_id (x := (d : Int)) (by omega) (by omega)]
 rw [wrap64_id (x := 256 * (b : Int)) (by omega) (by omega), wrap64_id (x := 65536 * (c : Int)) (by omega) (by omega), wrap64_id (x := 16777216 * (d : Int)) (by omega) (by omega)]
 rw [wrap64_id (x := (a : Int) + 256 * (b : Int)) (by omega) (by omega), wrap64_id (x := (a : Int) + 256 * (b : Int) + 65536 * (c : Int)) (by omega) (by omega), wrap64_id (x := (a : Int) + 256 * (b : Int) + 65536 * (c : Int) + 16777216 * (d : Int)) (by omega) (by omega)]
 rw [Int.emod_eq_of_lt (by omega) (by omega)]
 congr 2
theorem wraps_u32 (n : Int) (h₀ : 0 ≤ n) (h₁ : n < 2 ^ 32) : IntKind.u32.wrap n = n := by rw [IntKind.wrap_u32]; omega
theorem or_join (x y i : Nat) (hx : x < 2 ^ i) (hi : i ≤ 32) (hy : y * 2 ^ i < 2 ^ 32) : Go.bits .or .u32 (x : Int) ((y * 2 ^ i : Nat) : Int) = ((x + y * 2 ^ i : Nat) : Int) := by
 have hx' : x < 2 ^ 32 := Nat.lt_of_lt_of_le hx (Nat.pow_le_pow_right (by decide) hi)
 rw [(bits_nat .u32 32 (by decide) wraps_u32 x _ hx' hy).2, Nat.or_comm]
 congr 1
 rw [Nat.mul_comm, ← Nat.two_pow_add_eq_or_of_lt hx, Nat.add_comm]
theorem implWord (l : List UInt8) (h : 4 ≤ l.length) : impl_readWord.f (B l) = some ((w4 l : Nat) : Int) := by
 have h0 := byte_lt (l.getD 0 0)
 have h1 := byte_lt (l.getD 1 0)
 have h2 := byte_lt (l.getD 2 0)
 have h3 := byte_lt (l.getD 3 0)
 unfold impl_readWord.f
 rw [B_size, if_pos (by omega), if_pos (by omega), if_pos (by omega), if_pos (by omega)]
 simp only [bt_B]
 have e0 : (0 : Int).toNat = 0 := rfl
 have e1 : (1 : Int).toNat = 1 := rfl
 have e2 : (2 : Int).toNat = 2 := rfl
 have e3 : (3 : Int).toNat = 3 := rfl
 rw [e0, e1, e2, e3]
 unfold w4
 generalize (l.getD 0 0).toNat = a at *
 generalize (l.getD 1 0).toNat = b at *
 generalize (l.getD 2 0).toNat = c at *
 generalize (l.getD 3 0).toNat = d at *
 have ea : (a : Int) % 4294967296 = (a : Int) := by omega
 have eb : ((b : Int) % 4294967296 * 256) % 4294967296 = ((b * 2 ^ 8 : Nat) : Int) := by omega
 have ec : ((c : Int) % 4294967296 * 65536) % 4294967296 = ((c * 2 ^ 16 : Nat) : Int) := by omega
 have ed : ((d : Int) % 4294967296 * 16777216) % 4294967296 = ((d * 2 ^ 24 : Nat) : Int) := by omega
 rw [ea, eb, ec, ed, or_join a b 8 (by omega) (by decide) (by omega), or_join _ c 16 (by omega) (by decide) (by omega), or_join _ d 24 (by omega) (by decide) (by omega)]
 congr 2
 omega
theorem rdW {B : ByteArray} {n : Nat} {g : Int} (hB : B.size = 64) (hn : (n : Int) = 4 * g) (hg : 4 * g ≤ 60) : impl_readWord.f (B.extract n B.size) = some (mxW B g) := by
 have hl : B.data.toList.length = 64 := by rw [← hB]; rfl
 have e : B.extract n B.size = Sum.B (B.data.toList.drop n) := by
  show _ = (⟨(B.data.toList.drop n).toArray⟩ : ByteArray)
  rw [← Lib.extract_to_end]
 rw [e, implWord _ (by rw [List.length_drop]; omega)]
 unfold mxW
 rw [← hn]
 rfl
theorem and31 : ∀ n : Fin 24, Go.bits .and .u64 (IntKind.u64.wrap ((n.val : Nat) : Int)) 31 = ((n.val : Nat) : Int) ∧ IntKind.u64.wrap (32 - ((n.val : Nat) : Int)) = 32 - ((n.val : Nat) : Int) := by decide +kernel
theorem rotS {x s : Int} (h : 4 ≤ s ∧ s ≤ 23) : bits_RotateLeft32.f x s = some (mxT x s) := by
 obtain ⟨n, rfl⟩ : ∃ n : Nat, s = n := ⟨s.toNat, by omega⟩
 obtain ⟨e1, e2⟩ := and31 ⟨n, by omega⟩
 simp only at e1 e2
 unfold bits_RotateLeft32.f mxT
 rw [e1, e2, if_pos (by omega), if_pos (by omega)]
structure MxW (w : World) (s : Array Value) (w' : World) : Prop where
 below : Below w.heap.size w w'
 row : w'.heap[w.heap.size]? = some (.cells s 125 (0, 0))
 out : w'.heap[w.heap.size + 1]? = some (.cells #[.int .u32 0, .int .u32 0, .int .u32 0, .int .u32 0] 125 (0, 0))
theorem MxW.drewN {w : World} {s : Array Value} {w' : World} (h : MxW w s w') (n : Nat) : MxW w s (w'.drewN n) := ⟨pw_below_drewN h.below n, h.row, h.out⟩
theorem MxW.old {w : World} {s : Array Value} {w' : World} {a : Addr} {v : Value} (h : MxW w s w') (hc : w.cell? a = some v) : w'.cell? a = some v := (h.below.cell (World.block_lt_of_cell? w a hc)).trans hc
theorem MxW.mk0 (w : World) (s : Array Value) : MxW w s ((w.alloc (.cells s 125)).alloc (.cells #[.int .u32 0, .int .u32 0, .int .u32 0, .int .u32 0] 125)) :=
 ⟨below_alloc (below_alloc (Below.refl _ _) _) _, blk_alloc (heap_alloc_new w _) _, by have := heap_alloc_new (w.alloc (.cells s 125)) (.cells #[.int .u32 0, .int .u32 0, .int .u32 0, .int .u32 0] 125); simpa using this⟩
theorem MxW.put {w : World} {s : Array Value} {w' : World} (h : MxW w s w') (x0 x1 x2 x3 : Value) :
  ((((w'.setCell ⟨w.heap.size + 1, 0, none⟩ x0).setCell ⟨w.heap.size + 1, 1, none⟩ x1).setCell ⟨w.heap.size + 1, 2, none⟩ x2).setCell ⟨w.heap.size + 1, 3, none⟩ x3).heap[w.heap.size + 1]? = some (.cells #[x0, x1, x2, x3] 125 (0, 0)) ∧
  Below w.heap.size w ((((w'.setCell ⟨w.heap.size + 1, 0, none⟩ x0).setCell ⟨w.heap.size + 1, 1, none⟩ x1).setCell ⟨w.heap.size + 1, 2, none⟩ x2).setCell ⟨w.heap.size + 1, 3, none⟩ x3) :=
 ⟨blk_put (blk_put (blk_put (blk_put h.out 0 _ rfl) 1 _ rfl) 2 _ rfl) 3 _ rfl, below_set (below_set (below_set (below_set h.below (by omega)) (by omega)) (by omega)) (by omega)⟩
set_option maxHeartbeats 4000000 in
set_option maxRecDepth 100000 in
theorem mix_calls (a b c d : Int) (B : ByteArray) (w : World) (hB : B.size = 64) (hT : ∀ i < 64, w.cell? ⟨0, i, none⟩ = some (.int .u32 (mxKi i))) (hU : ∀ i < 16, w.cell? ⟨1, i, none⟩ = some (.int .i64 (mxSi i))) :
  Calls Tryd.prog 153 #[.agg #[.int .u32 a, .int .u32 b, .int .u32 c, .int .u32 d], .string B] w fun e w' => e = .returned (.agg #[.int .u32 (mxB B (a, b, c, d)).1, .int .u32 (mxB B (a, b, c, d)).2.1, .int .u32 (mxB B (a, b, c, d)).2.2.1, .int .u32 (mxB B (a, b, c, d)).2.2.2]) ∧ Below w.heap.size w w' := by
 have HT := Aside0.mk hT
 have HU := Aside0.mk hU
 clear hU
 have hBl : (64 : Int) ≤ B.size := by omega
 have hBl2 : B.size ≤ 64 := by omega
 have HB := Aside0.mk hB
 clear hT hB
 go_enter Tryd.func153, Tryd.ntmps153
 go_wp2
 go_quiet (fail)
 go_wp2
 go_loopw [5, 6, 7, 8, 21] (fun v5 v6 v7 v8 v21 w' => ∃ (i : Nat) (a' b' c' d' : Int), v5 = .int .u32 a' ∧ v6 = .int .u32 b' ∧ v7 = .int .u32 c' ∧ v8 = .int .u32 d' ∧ v21 = .int .i64 i ∧ Aside0 (i ≤ 64) ∧ Aside0 (mxN (64 - i) i B (a', b', c', d') = mxN 64 0 B (a, b, c, d)) ∧ Aside0 (MxW w #[.int .u32 a, .int .u32 b, .int .u32 c, .int .u32 d] w')) (fun _ _ _ _ v21 _ => 64 - (intOf v21).toNat)
 case atStart => exact ⟨0, a, b, c, d, rfl, rfl, rfl, rfl, rfl, ⟨by omega⟩, ⟨rfl⟩, ⟨(MxW.mk0 _ _).drewN _⟩⟩
 case round =>
  obtain ⟨i, a', b', c', d', rfl, rfl, rfl, rfl, rfl, Hi, HN, HW⟩ := hrel
  by_cases hi : i < 64
  ·have hbd := Aside0.mk (mxSi_bound (i / 16 * 4 + i % 4) (by omega))
   have hS : wr.cell? ⟨1, i / 16 * 4 + i % 4, none⟩ = some (.int .i64 (mxSi (i / 16 * 4 + i % 4))) := HW.out.old (HU.out _ (by omega))
   have hK : wr.cell? ⟨0, i, none⟩ = some (.int .u32 (mxKi i)) := HW.out.old (HT.out i hi)
   have h0 : (i : Int) / 16 = 0 ∨ (i : Int) / 16 = 1 ∨ (i : Int) / 16 = 2 ∨ (i : Int) / 16 = 3 := by omega
   rcases h0 with h0 | h0 | h0 | h0
   focus
    have HF : Aside0 (mxF i b' c' d' = bits .or .u32 (bits .and .u32 b' c') (bits .and .u32 (bits .xor .u32 IntKind.u32.max b') d')) := ⟨by unfold mxF; rw [if_pos (by omega)]⟩
    have HG : Aside0 (mxG i = (i : Int)) := ⟨by unfold mxG; rw [if_pos (by omega)]⟩
    have b0 : ((i : Int) / 16 == 0) = true := beq_iff_eq.2 h0
    have hw : IntKind.i64.wrap (4 * ((i : Int))) = 4 * ((i : Int)) := IntWalk.i64_in _ (by omega)
    have k0 : decide (0 ≤ 4 * ((i : Int))) = true := decide_eq_true (by omega)
    have k1 : decide (4 * ((i : Int)) ≤ (B.size : Int)) = true := decide_eq_true (by omega)
    have k2 : (0 ≤ 4 * ((i : Int))) = True := eq_true (by omega)
    have k3 : (4 * ((i : Int)) ≤ (B.size : Int)) = True := eq_true (by omega)
    have hg : 4 * ((i : Int)) ≤ 60 := by omega
    clear h0
    go_wp2
    rw [← HF.out]
    go_quiet ((go_at_call 195; refine quiet_of0 (impl_readWord.calls _ _ _ (rdW (g := mxG i) HB.out ?_ ?_)); rw [HG.out]; omega; rw [HG.out]; omega))
   rotate_left
   focus
    have HF : Aside0 (mxF i b' c' d' = bits .or .u32 (bits .and .u32 d' b') (bits .and .u32 (bits .xor .u32 IntKind.u32.max d') c')) := ⟨by unfold mxF; rw [if_neg (by omega)]; rw [if_pos (by omega)]⟩
    have HG : Aside0 (mxG i = (5 * (i : Int) + 1) % 16) := ⟨by unfold mxG; rw [if_neg (by omega)]; rw [if_pos (by omega)]⟩
    have b0 : ((i : Int) / 16 == 0) = false := beq_eq_false_iff_ne.2 (by omega)
    have b1 : ((i : Int) / 16 == 1) = true := beq_iff_eq.2 h0
    have hw : IntKind.i64.wrap (4 * ((5 * (i : Int) + 1) % 16)) = 4 * ((5 * (i : Int) + 1) % 16) := IntWalk.i64_in _ (by omega)
    have k0 : decide (0 ≤ 4 * ((5 * (i : Int) + 1) % 16)) = true := decide_eq_true (by omega)
    have k1 : decide (4 * ((5 * (i : Int) + 1) % 16) ≤ (B.size : Int)) = true := decide_eq_true (by omega)
    have k2 : (0 ≤ 4 * ((5 * (i : Int) + 1) % 16)) = True := eq_true (by omega)
    have k3 : (4 * ((5 * (i : Int) + 1) % 16) ≤ (B.size : Int)) = True := eq_true (by omega)
    have hg : 4 * ((5 * (i : Int) + 1) % 16) ≤ 60 := by omega
    clear h0
    go_wp2
    rw [← HF.out]
    go_quiet ((go_at_call 195; refine quiet_of0 (impl_readWord.calls _ _ _ (rdW (g := mxG i) HB.out ?_ ?_)); rw [HG.out]; omega; rw [HG.out]; omega))
   rotate_left
   focus
    have HF : Aside0 (mxF i b' c' d' = bits .xor .u32 (bits .xor .u32 b' c') d') := ⟨by unfold mxF; rw [if_neg (by omega)]; rw [if_neg (by omega)]; rw [if_pos (by omega)]⟩
    have HG : Aside0 (mxG i = (3 * (i : Int) + 5) % 16) := ⟨by unfold mxG; rw [if_neg (by omega)]; rw [if_neg (by omega)]; rw [if_pos (by omega)]⟩
    have b0 : ((i : Int) / 16 == 0) = false := beq_eq_false_iff_ne.2 (by omega)
    have b1 : ((i : Int) / 16 == 1) = false := beq_eq_false_iff_ne.2 (by omega)
    have b2 : ((i : Int) / 16 == 2) = true := beq_iff_eq.2 h0
    have hw : IntKind.i64.wrap (4 * ((3 * (i : Int) + 5) % 16)) = 4 * ((3 * (i : Int) + 5) % 16) := IntWalk.i64_in _ (by omega)
    have k0 : decide (0 ≤ 4 * ((3 * (i : Int) + 5) % 16)) = true := decide_eq_true (by omega)
    have k1 : decide (4 * ((3 * (i : Int) + 5) % 16) ≤ (B.size : Int)) = true := decide_eq_true (by omega)
    have k2 : (0 ≤ 4 * ((3 * (i : Int) + 5) % 16)) = True := eq_true (by omega)
    have k3 : (4 * ((3 * (i : Int) + 5) % 16) ≤ (B.size : Int)) = True := eq_true (by omega)
    have hg : 4 * ((3 * (i : Int) + 5) % 16) ≤ 60 := by omega
    clear h0
    go_wp2
    rw [← HF.out]
    go_quiet ((go_at_call 195; refine quiet_of0 (impl_readWord.calls _ _ _ (rdW (g := mxG i) HB.out ?_ ?_)); rw [HG.out]; omega; rw [HG.out]; omega))
   rotate_left
   focus
    have HF : Aside0 (mxF i b' c' d' = bits .xor .u32 c' (bits .or .u32 b' (bits .xor .u32 IntKind.u32.max d'))) := ⟨by unfold mxF; rw [if_neg (by omega)]; rw [if_neg (by omega)]; rw [if_neg (by omega)]⟩
    have HG : Aside0 (mxG i = 7 * (i : Int) % 16) := ⟨by unfold mxG; rw [if_neg (by omega)]; rw [if_neg (by omega)]; rw [if_neg (by omega)]⟩
    have b0 : ((i : Int) / 16 == 0) = false := beq_eq_false_iff_ne.2 (by omega)
    have b1 : ((i : Int) / 16 == 1) = false := beq_eq_false_iff_ne.2 (by omega)
    have b2 : ((i : Int) / 16 == 2) = false := beq_eq_false_iff_ne.2 (by omega)
    have hw : IntKind.i64.wrap (4 * (7 * (i : Int) % 16)) = 4 * (7 * (i : Int) % 16) := IntWalk.i64_in _ (by omega)
    have k0 : decide (0 ≤ 4 * (7 * (i : Int) % 16)) = true := decide_eq_true (by omega)
    have k1 : decide (4 * (7 * (i : Int) % 16) ≤ (B.size : Int)) = true := decide_eq_true (by omega)
    have k2 : (0 ≤ 4 * (7 * (i : Int) % 16)) = True := eq_true (by omega)
    have k3 : (4 * (7 * (i : Int) % 16) ≤ (B.size : Int)) = True := eq_true (by omega)
    have hg : 4 * (7 * (i : Int) % 16) ≤ 60 := by omega
    clear h0
    go_wp2
    rw [← HF.out]
    go_quiet ((go_at_call 195; refine quiet_of0 (impl_readWord.calls _ _ _ (rdW (g := mxG i) HB.out ?_ ?_)); rw [HG.out]; omega; rw [HG.out]; omega))
   rotate_left
   all_goals
    go_wp2_with (go_at_call 197; refine (bits_RotateLeft32.calls _ _ _ _ (rotS hbd.out)).mono ?_; rintro e w' ⟨rfl, ⟨nd2, rfl⟩⟩)
    go_roundw
    case rel => exact ⟨i + 1, d', _, b', c', rfl, rfl, rfl, rfl, by go_num, ⟨by omega⟩, ⟨by rw [← HN.out, mxN_step hi]; rfl⟩, ⟨HW.out.drewN _⟩⟩
    case measure => simp [intOf]; omega
  ·have HE := Aside0.mk (show i = 64 by have := Hi.out; omega)
   have h64 : 64 ≤ i := by omega
   clear hi
   obtain ⟨hb, hr, ho⟩ := HW.out
   have c0 := blk_cell hr 0
   have c1 := blk_cell hr 1
   have c2 := blk_cell hr 2
   have c3 := blk_cell hr 3
   have d0 := blk_cell ho 0
   have d1 := blk_cell ho 1
   have d2 := blk_cell ho 2
   have d3 := blk_cell ho 3
   have f0 := blk_frozen ho 0
   have f1 := blk_frozen ho 1
   have f2 := blk_frozen ho 2
   have f3 := blk_frozen ho 3
   simp only [List.getElem?_toArray, List.getElem?_cons_zero, List.getElem?_cons_succ] at c0 c1 c2 c3 d0 d1 d2 d3
   clear hb hr ho
   go_wp2
   refine bodyPost_ret (results_cell_row rfl _ _ (w.heap.size + 1) 125 #[.int .u32 ((a + a') % 4294967296), .int .u32 ((b + b') % 4294967296), .int .u32 ((c + c') % 4294967296), .int .u32 ((d + d') % 4294967296)] (0, 0) _ rfl (HW.out.put _ _ _ _).1 Tryd.underlying125 rfl (by kernel_rfl)) rfl ⟨?_, (HW.out.put _ _ _ _).2⟩
   have hN := HN.out
   rw [HE.out] at hN
   unfold mxB
   rw [← hN]
   rfl
/-- A row of bytes of the call's own; a stretch of marks may lie behind its cells (what []byte(s) leaves). -/
def OwnX (w : World) (base : Nat) (e : TypeId) (v : Value) (n : Nat) (xs : List Value) : Prop :=
 xs.length = n ∧ ∃ g cap cur fz, v = .slice (some ⟨g, 0, none⟩) n cap ∧ base ≤ g ∧ w.heap[g]? = some (.cells cur e fz) ∧ (fz = (0, 0) ∨ cap ≤ fz.1) ∧ n ≤ cap ∧ cap ≤ maxLen ∧ cur.size = cap ∧ cur.toList.take n = xs
theorem OwnX.move {w w' : World} {base : Nat} {e : TypeId} {v : Value} {n : Nat} {xs : List Value} (h : OwnX w base e v n xs) (hm : ∀ k o, v.ownBlock = some k → w.heap[k]? = some o → w'.heap[k]? = some o) : OwnX w' base e v n xs := by
 obtain ⟨hl, g, cap, cur, fz, rfl, hb, hg, rest⟩ := h
 exact ⟨hl, g, cap, cur, fz, rfl, hb, hm g _ rfl hg, rest⟩
theorem OwnX.alloc {w : World} {base : Nat} {e : TypeId} {v : Value} {n : Nat} {xs : List Value} (h : OwnX w base e v n xs) (o : Obj) : OwnX (w.alloc o) base e v n xs := h.move fun _ _ _ hk => blk_alloc hk o
theorem OwnX.drewN {w : World} {base : Nat} {e : TypeId} {v : Value} {n : Nat} {xs : List Value} (h : OwnX w base e v n xs) (m : Nat) : OwnX (w.drewN m) base e v n xs := h.move fun _ _ _ hk => hk
theorem OwnX.lt {w : World} {base : Nat} {e : TypeId} {v : Value} {n : Nat} {xs : List Value} (h : OwnX w base e v n xs) : ∀ k, v.ownBlock = some k → base ≤ k ∧ k < w.heap.size := by
 obtain ⟨_, g, cap, cur, fz, rfl, hb, hg, _⟩ := h
 intro k hk
 simp [Value.ownBlock] at hk
 subst hk
 exact ⟨hb, (Array.getElem?_eq_some_iff.1 hg).1⟩
theorem OwnX.conv (W : World) (base e : Nat) (s : ByteArray) (hb : base ≤ W.heap.size) (hm : s.size ≤ 1000000000) : OwnX (Lib.bytesWorld W e s) base e (.slice (some ⟨W.heap.size, 0, none⟩) s.size (grownCap W s.size 0 e)) s.size ((bytesOf s).map (Value.int .u8)) := by
 have hge := grownCap_ge W s.size 0 e
 have hcm := grownCap_le_maxLen W s.size 0 e (by unfold maxLen; omega)
 have hz : (Lib.bytesCells W e s).size = grownCap W s.size 0 e := by
  unfold Lib.bytesCells
  rw [Array.size_append, Array.size_map, Array.size_replicate]
  have : s.data.size = s.size := rfl
  omega
 refine ⟨by rw [List.length_map, bytesOf_length], _, _, _, _, rfl, hb, Lib.bytesWorld_at_new W e s, .inr (by rw [hz]; exact Nat.le_refl _), hge, hcm, hz, ?_⟩
 unfold Lib.bytesCells
 rw [Array.toList_append, List.take_append_of_le_length (by rw [Array.length_toList, Array.size_map]; exact Nat.le_refl _), List.take_of_length_le (by rw [Array.length_toList, Array.size_map]; exact Nat.le_refl _)]
 simp [bytesOf, Function.comp_def]
theorem take_set_snoc {α : Type} : ∀ (l : List α) (n : Nat) (u : α), n < l.length → (l.set n u).take (n + 1) = l.take n ++ [u]
 | [], n, u, h => by simp at h
 | x :: l, 0, u, h => by simp
 | x :: l, n + 1, u, h => by simp [take_set_snoc l n u (by simpa using h)]
section
variable {P : Program} (w : World)
theorem run_append_X (base : Nat) (t ty e : TypeId) (i : TypeInfo) (ht : P.underlying t = some (.slice e)) (hi : P.info? e = some i) (hz : i.zero = some (.int .u8 0)) (hsize : i.size = 1) (hby : i.bytes = 1)
  (v : Value) (n : Nat) (xs : List Value) (hown : OwnX w base e v n xs) (a : Addr) (c : Nat) (u : Value) (hu : w.cell? (a.add 0) = some u) (h1 : u.oneCell' = true) (hn : n ≤ 2000000000) (hbase : base ≤ w.heap.size) :
  ∃ v' w', (Builtin.append_ #[t, t] ty #[v, .slice (some a) 1 c]).run P w = .ok v' w' ∧ OwnX w' base e v' (n + 1) (xs ++ [u]) ∧ w.grownBy w' v.ownBlock := by
 obtain ⟨hl, g, cap, cur, fz, rfl, hbg, hg, hfz, hnc, hcm, hcs, htake⟩ := hown
 have hnews : ∀ j x, [u][j]? = some x → w.cell? (a.add j) = some x := by
  intro j x hj
  match j, hj with
  | 0, hj => simp at hj; subst hj; exact hu
 have hf := run_firstCells_some (P := P) w 1 1 a 1 c [u] rfl hnews
 by_cases hroom : n + 1 ≤ cap
 ·have hfro : w.frozen? ⟨g, n, none⟩ = false := by
   simp only [World.frozen?, hg, Bool.and_eq_false_iff, decide_eq_false_iff_not]
   rcases hfz with rfl | hfz
   ·exact .inr (by simp)
   ·exact .inl (by omega)
  have hcell : w.cell? ⟨g, n, none⟩ = some cur[n] := by simp [World.cell?, hg, show n < cur.size by omega]
  have hst : (storeCells ⟨g, n, none⟩ [u]).run P w = .ok () (w.setRow g (cur.setIfInBounds n u)) := by
   have hadd : (⟨g, n, none⟩ : Addr).add 0 = ⟨g, n, none⟩ := by unfold Addr.add; split <;> simp_all
   have h2 : (store ⟨g, n, none⟩ u).run P w = .ok () (w.setRow g (cur.setIfInBounds n u)) := by
    rw [run_store P w _ u _ h1, hcell]
    simp [hfro, setCell_eq_setRow w g n cur e fz u hg]
   simp only [storeCells, Sem.run_bind, hadd, h2, Result.andThen_ok]
   rfl
  have hr : (Builtin.append_ #[t, t] ty #[.slice (some ⟨g, 0, none⟩) n cap, .slice (some a) 1 c]).run P w = .ok (.slice (some ⟨g, 0, none⟩) (n + 1) cap) (w.setRow g (cur.setIfInBounds n u)) := by
   simp [Builtin.append_, run_underlying ht, sizeOf, typeInfo, hi, hsize, Builtin.lenOf, hroom, hf, Addr.add_lit, hst]
  refine ⟨_, _, hr, ⟨by simp [hl], g, cap, _, fz, rfl, hbg, setRow_heap w g cur _ e _ hg, hfz, hroom, hcm, by simpa using hcs, ?_⟩, ⟨rfl, rfl, rfl, by simp, fun k _ hk => setRow_other w g k _ (fun e => hk (by simp [Value.ownBlock, e]))⟩⟩
  rw [Array.toList_setIfInBounds, take_set_snoc _ _ _ (by rw [Array.length_toList]; omega), htake]
 ·have holds : ∀ j x, xs[j]? = some x → w.cell? ((⟨g, 0, none⟩ : Addr).add j) = some x := by
   intro j x hx
   have hadd : (⟨g, 0, none⟩ : Addr).add j = ⟨g, j, none⟩ := by unfold Addr.add; split <;> simp_all
   rw [hadd, cell_of_row w g j cur e fz hg]
   rw [← htake, List.getElem?_take] at hx
   split at hx
   ·simpa using hx
   ·cases hx
  have hr := run_append_grow (P := P) w t ty e i (.int .u8 0) ht hi hz ⟨g, 0, none⟩ n cap xs (by rw [hsize]; omega) holds a 1 c [u] (by rw [hsize]; rfl) hnews (by omega) (by omega) (by rw [hby]; exact growslice_fits (by omega) (by omega))
  have hge := grownCap_ge w (n + 1) cap e
  have hcm2 : grownCap w (n + 1) cap e ≤ maxLen := grownCap_le_maxLen w (n + 1) cap e (by unfold maxLen; omega)
  refine ⟨_, _, hr, ⟨by simp [hl], w.heap.size, _, _, (0, 0), rfl, hbase, heap_alloc_new w.drew _, .inl rfl, hge, hcm2, ?_, ?_⟩, ⟨rfl, rfl, rfl, by simp, fun k hk _ => Below.heap_alloc w.drew _ k hk⟩⟩
  ·have hz1 : (Value.int IntKind.u8 0).cells.size = 1 := rfl
   simp only [Array.size_append, List.size_toArray, size_zeroCells, hz1, hl, List.length_singleton]
   omega
  ·simp only [Array.toList_append, List.append_assoc]
   rw [← List.append_assoc]
   exact List.take_left' (by simp [hl])
end
section
variable {P : Program} {ops : Array Oper} {rest : List Oper} {o : Oper} {a : Act} {Q : Exit → Act → World → Prop}
theorem X_conv {w0 W : World} (base e src dst : Nat) (hgd : o.guard = none) (x : Operand) (ho : o.op = .convert src dst x) (s : ByteArray) (hx : a.eval x = .string s)
  (hs : P.underlying src = some .string) (hdst : P.underlying dst = some (.slice e)) (he : P.underlying e = some (.int .u8)) (hm : s.size ≤ 1000000000) (HB : Below base w0 W) (hbase : base ≤ W.heap.size)
  (h : ∀ v1 w1, OwnX w1 base e v1 (bytesOf s).length ((bytesOf s).map (Value.int .u8)) → Below base w0 w1 → wpList P ops Q rest (a.put o.dst v1) w1) : wpList P ops Q (o :: rest) a W := by
 have hr := Lib.run_convert_string_bytes (P := P) W src dst e s hs hdst he
 refine Kd.event_run (w1 := Lib.bytesWorld W e s) (v := .slice (some ⟨W.heap.size, 0, none⟩) s.size (grownCap W s.size 0 e)) hgd (by simp [execOp, ho, hx, hr]) (h _ _ ?_ ?_)
 ·rw [bytesOf_length]; exact OwnX.conv W base e s hbase hm
 ·exact below_then HB hbase (Kd.bytesWorld_below W e s)
theorem X_append {w0 W : World} (base : Nat) (hgd : o.guard = none) (s x : Operand) (t e : TypeId) (ho : o.op = .call { callee := .builtin .append, args := #[s, x], argTypes := #[t, t] })
  (ht : P.underlying t = some (.slice e)) (hinfo : (P.info? e).map (fun i => (i.zero, i.size, i.bytes)) = some (some (.int .u8 0), 1, 1))
  (v : Value) (n : Nat) (xs : List Value) (u : Value) (hs : a.eval s = v) (hx : a.eval x = .slice (some ⟨W.heap.size, 0, none⟩) 1 1) (h1 : u.oneCell' = true) (HO : OwnX W base e v n xs) (HB : Below base w0 W) (hbase : base ≤ W.heap.size) (hn : n ≤ 2000000000)
  (h : ∀ v1 w1, OwnX w1 base e v1 (n + 1) (xs ++ [u]) → Below base w0 w1 → wpList P ops Q rest (a.put o.dst v1) w1) : wpList P ops Q (o :: rest) a (W.alloc (.cells #[u] e)) := by
 obtain ⟨i, hi, hz, hsz, hby⟩ := info_parts hinfo
 obtain ⟨v', w', hr, h2, h3⟩ := run_append_X (P := P) (W.alloc (.cells #[u] e)) base t o.type e i ht hi hz hsz hby v n xs (HO.alloc _) ⟨W.heap.size, 0, none⟩ 1 u (by
  have hadd : (⟨W.heap.size, 0, none⟩ : Addr).add 0 = ⟨W.heap.size, 0, none⟩ := by unfold Addr.add; split <;> simp_all
  rw [hadd, blk_cell (heap_alloc_new W _) 0]; rfl) h1 hn (by simp; omega)
 refine wpList_plain hgd fun K hK => ?_
 unfold Oper.wp execOp
 simp only [ho, resolve, invoke, builtin, Sem.run_bind, Sem.run_pure, Result.andThen_ok, List.map_toArray, List.map_cons, List.map_nil, hs, hx, hr]
 refine hK _ _ (h v' w' h2 ?_)
 exact (HB.alloc hbase _).grown h3 (by simp; omega) (fun k hk => (HO.lt k hk).1)
end
theorem OwnX.reads {w : World} {base : Nat} {e : TypeId} {v : Value} {xs : List Int} (h : OwnX w base e v xs.length (xs.map (Value.int .u8))) : ∃ A c, v = .slice A xs.length c ∧ xs.length ≤ c ∧ Kd.C (Kd.int .u8) w A xs.length xs := by
 obtain ⟨hl, g, cap, cur, fz, rfl, hb, hg, hfz, hnc, hcm, hcs, htake⟩ := h
 refine ⟨_, _, rfl, hnc, Kd.C_of_reads (d := (0 : Int)) (h1 := fun _ => rfl) ⟨rfl, by unfold maxLen at hcm; omega, fun h0 => ⟨_, rfl, fun j hj => ?_⟩⟩⟩
 have hadd : (⟨g, 0, none⟩ : Addr).add j = ⟨g, j, none⟩ := by unfold Addr.add; split <;> simp_all
 rw [hadd, cell_of_row w g j cur e fz hg]
 have h2 : (cur.toList.take xs.length)[j]? = some (.int .u8 (xs.getD j 0)) := by
  rw [htake, List.getElem?_map, List.getElem?_eq_getElem hj, List.getD_eq_getElem?_getD, List.getElem?_eq_getElem hj]
  rfl
 rw [List.getElem?_take, if_pos hj] at h2
 simpa using h2
/-- How many zeros the padding of n bytes has. -/
def padZ (n : Nat) : Nat := (119 - n % 64) % 64
def le4 (n : Nat) : List Int := [((n : Int)) % 256, ((n : Int) / 256) % 256, ((n : Int) / 65536) % 256, ((n : Int) / 16777216) % 256]
/-- Bytes as they are summed up. -/
def padL (s : ByteArray) : List Int := (bytesOf s ++ [128] ++ List.replicate (padZ s.size) 0) ++ (le4 (8 * s.size % 4294967296) ++ le4 (8 * s.size / 4294967296 % 4294967296))
theorem padZ_next {m : Nat} (h : ¬ m % 64 = 56) : (120 - m % 64) % 64 = (120 - (m + 1) % 64) % 64 + 1 := by omega
def wStr (x : Int) : ByteArray := strOfNums [x % 256, (x / 256) % 256, (x / 65536) % 256, (x / 16777216) % 256]
theorem wT (x : Int) : impl_wordText.f x = some (wStr x) := rfl
theorem wStr_size (x : Int) : (wStr x).size = 4 := rfl
theorem strOfNums_app (a b : List Int) : strOfNums (a ++ b) = strOfNums a ++ strOfNums b := by
 unfold strOfNums
 rw [List.map_append]
 apply ByteArray.ext
 simp
theorem pad_is (s : ByteArray) : strOfNums (padL s) = strOfNums (bytesOf s ++ [128] ++ List.replicate (padZ s.size) 0) ++ wStr (8 * (s.size : Int) % 4294967296) ++ wStr (8 * (s.size : Int) / 4294967296 % 4294967296) := by
 unfold padL
 rw [strOfNums_app (bytesOf s ++ [128] ++ List.replicate (padZ s.size) 0), strOfNums_app (le4 _), ← ByteArray.append_assoc]
 have e1 : ((8 * s.size % 4294967296 : Nat) : Int) = 8 * (s.size : Int) % 4294967296 := by omega
 have e2 : ((8 * s.size / 4294967296 % 4294967296 : Nat) : Int) = 8 * (s.size : Int) / 4294967296 % 4294967296 := by omega
 unfold le4 wStr
 rw [e1, e2]
set_option maxHeartbeats 4000000 in
set_option maxRecDepth 100000 in
theorem padded_calls (s : ByteArray) (w : World) (hs : s.size ≤ 1000000000) :
  Calls Tryd.prog 152 #[.string s] w fun e w' => e = .returned (.string (strOfNums (padL s))) ∧ Below w.heap.size w w' := by
 have hbl := bytesOf_length s
 have HL := Aside0.mk hbl
 clear hbl
 have HB := Aside0.mk (Below.refl w.heap.size w)
 go_enter Tryd.func152, Tryd.ntmps152
 go_wp2_with (first
  | ((with_reducible refine gate_dst (N := 6) rfl ?_); refine X_conv w.heap.size 5 9 22 rfl _ rfl _ rfl Tryd.underlying9 Tryd.underlying22 Tryd.underlying5 hs HB.out HB.out.size ?_; intro v1 w1 ho hb; have HO := Aside0.mk ho; clear HB; have HB := Aside0.mk hb; clear ho hb)
  | (at_builtin; refine X_append w.heap.size rfl _ _ 22 5 rfl Tryd.underlying22 info5 v1 _ _ (.int .u8 128) rfl rfl rfl HO.out HB.out HB.out.size (by rw [HL.out]; omega) ?_; intro v2 w2 ho hb; clear HB HO; have HO := Aside0.mk ho; have HB := Aside0.mk hb; clear ho hb))
 have HM := Aside0.mk (show (bytesOf s ++ [128]).length = s.size + 1 by rw [List.length_append, HL.out]; rfl)
 have HO2 : Aside0 (OwnX w2 w.heap.size 5 v2 (bytesOf s ++ [128]).length ((bytesOf s ++ [128]).map (Value.int .u8))) := ⟨by have := HO.out; rw [List.map_append, HM.out]; rw [HL.out] at this; exact this⟩
 clear HO
 go_loopg [3] (padZ s.size) (fun kq v3 w' => ∃ xs : List Int, Aside0 (OwnX w' w.heap.size 5 v3 xs.length (xs.map (Value.int .u8))) ∧ Aside0 (xs ++ List.replicate kq 0 = bytesOf s ++ [128] ++ List.replicate (padZ s.size) 0) ∧ Aside0 (kq = (120 - xs.length % 64) % 64) ∧ Aside0 (xs.length + kq ≤ 1000000100) ∧ Aside0 (Below w.heap.size w w'))
 case atStart => exact ⟨bytesOf s ++ [128], HO2, ⟨rfl⟩, ⟨by rw [HM.out]; unfold padZ; omega⟩, ⟨by rw [HM.out]; unfold padZ; omega⟩, HB⟩
 case round =>
  clear HB HO2 HM
  obtain ⟨xs, HO, HX, HK, HN, HB⟩ := hrel
  obtain ⟨A3, c3, rfl, hle, hC⟩ := OwnX.reads HO.out
  have hxl : xs.length ≤ 1000000100 := by have := HN.out; omega
  have HC := Aside0.mk hC
  have Hle := Aside0.mk hle
  clear hC hle
  by_cases h56 : xs.length % 64 = 56
  ·have hne : ((xs.length : Int) % 64 != 56) = false := by rw [bne_eq_false_iff_eq]; omega
   have HE : Aside0 (xs = bytesOf s ++ [128] ++ List.replicate (padZ s.size) 0) := ⟨by have h1 := HX.out; rw [HK.out, show (120 - xs.length % 64) % 64 = 0 by omega, List.replicate_zero, List.append_nil] at h1; exact h1⟩
   clear h56
   go_wp2
   replace HC := Aside0.mk (Kd.C_drew HC.out)
   replace HB := Aside0.mk (below_drew1 HB.out)
   refine start_ (n := 12) (S := fun w' => Kd.C (Kd.int .u8) w' A3 xs.length xs) (ds := []) #[false, false, false, false, false, false, false, false, false, false, false, false] (by kernel_rfl) rfl rfl HC.out (fun hHeld => ?_)
   generalize wr.drew = w6 at HC HB hHeld ⊢
   refine pure_ (i := 0) (N := some 19) (v := ?_) (a' := ?_) #[true, false, false, false, false, false, false, false, false, false, false, false] rfl rfl (by kernel_rfl) (fun _ _ _ h => h) (Or.inl ⟨by rfl, ?_⟩) ?_ ?_
   rotate_left
   ·intro w'
    go_simp
    with_reducible rfl
   rotate_left
   ·simp only [Act.put, List.setIfInBounds_toArray, List.set_cons_zero, List.set_cons_succ, i64_w, i32_w]
    rfl
   refine take_ (i := 1) (N := some 20) (v := ?_) (a' := ?_) #[true, true, false, false, false, false, false, false, false, false, false, false] rfl rfl (by kernel_rfl) (fun _ _ _ h => h) (Or.inl ⟨by rfl, ?_⟩) hHeld ?_ ?_
   rotate_left
   ·rintro w' s0
    have hcv := Kd.C_string (P := Tryd.prog) (c := c3) Tryd.underlying22 Tryd.underlying5 Tryd.underlying9 s0
    go_simp
    with_reducible rfl
   rotate_left
   ·simp only [Act.put, List.setIfInBounds_toArray, List.set_cons_zero, List.set_cons_succ, i64_w, i32_w]
    rfl
   refine pure_ (i := 2) (N := some 21) (v := ?_) (a' := ?_) #[true, true, true, false, false, false, false, false, false, false, false, false] rfl rfl (by kernel_rfl) (fun _ _ _ h => h) (Or.inl ⟨by rfl, ?_⟩) ?_ ?_
   rotate_left
   ·intro w'
    go_simp
    with_reducible rfl
   rotate_left
   ·simp only [Act.put, List.setIfInBounds_toArray, List.set_cons_zero, List.set_cons_succ, i64_w, i32_w]
    rfl
   refine pure_ (i := 3) (N := some 22) (v := ?_) (a' := ?_) #[true, true, true, true, false, false, false, false, false, false, false, false] rfl rfl (by kernel_rfl) (fun _ _ _ h => h) (Or.inl ⟨by rfl, ?_⟩) ?_ ?_
   rotate_left
   ·intro w'
    go_simp
    with_reducible rfl
   rotate_left
   ·simp only [Act.put, List.setIfInBounds_toArray, List.set_cons_zero, List.set_cons_succ, i64_w, i32_w]
    rfl
   refine pure_ (i := 6) (N := some 25) (v := ?_) (a' := ?_) #[true, true, true, true, false, false, true, false, false, false, false, false] rfl rfl (by kernel_rfl) (fun _ _ _ h => h) (Or.inl ⟨by rfl, ?_⟩) ?_ ?_
   rotate_left
   ·intro w'
    go_simp
    with_reducible rfl
   rotate_left
   ·simp only [Act.put, List.setIfInBounds_toArray, List.set_cons_zero, List.set_cons_succ, i64_w, i32_w]
    rfl
   refine pure_ (i := 7) (N := some 26) (v := ?_) (a' := ?_) #[true, true, true, true, false, false, true, true, false, false, false, false] rfl rfl (by kernel_rfl) (fun _ _ _ h => h) (Or.inl ⟨by rfl, ?_⟩) ?_ ?_
   rotate_left
   ·intro w'
    go_simp
    with_reducible rfl
   rotate_left
   ·simp only [Act.put, List.setIfInBounds_toArray, List.set_cons_zero, List.set_cons_succ, i64_w, i32_w]
    rfl
   refine pure_ (i := 8) (N := some 27) (v := ?_) (a' := ?_) #[true, true, true, true, false, false, true, true, true, false, false, false] rfl rfl (by kernel_rfl) (fun _ _ _ h => h) (Or.inl ⟨by rfl, ?_⟩) ?_ ?_
   rotate_left
   ·intro w'
    go_simp
    with_reducible rfl
   rotate_left
   ·simp only [Act.put, List.setIfInBounds_toArray, List.set_cons_zero, List.set_cons_succ, i64_w, i32_w]
    rfl
   refine one_ (i := 4) (N := some 23) #[true, true, true, true, true, false, true, true, true, false, false, false] rfl rfl (by kernel_rfl) (by decide) (fun K hK => ?_)
   refine goes_ Tryd.func135 (by kernel_rfl) rfl #[.int .u32 (8 * (s.size : Int) % 4294967296)] (by rfl) rfl rfl (by (try simp only [List.map_toArray, List.map_cons, List.map_nil]); first | done | rfl | (simp only [List.length_drop, List.length_take]; rfl)) ?_
   refine (impl_wordText.calls _ _ _ (wT _)).mono ?_
   rintro e w7 ⟨rfl, hb⟩
   refine ⟨_, rfl, ?_⟩
   replace HC := Aside0.mk (Kd.C_below HC.out hb)
   replace HB := Aside0.mk (below_step HB.out hb)
   clear hb
   refine hK.out _ _ HC.out (fun hHeld => ?_)
   clear hK K
   refine norm_ (a' := ?_) ?_ ?_
   rotate_left
   ·show Act.put _ (some 23) _ = _
    simp only [Act.put, List.setIfInBounds_toArray, List.set_cons_zero, List.set_cons_succ, i64_w, i32_w]
    rfl
   refine pure_ (i := 5) (N := some 24) (v := ?_) (a' := ?_) #[true, true, true, true, true, true, true, true, true, false, false, false] rfl rfl (by kernel_rfl) (fun _ _ _ h => h) (Or.inl ⟨by rfl, ?_⟩) ?_ ?_
   rotate_left
   ·intro w'
    have hz : (9223372036854775807 < (strOfNums xs).size + (wStr (8 * (s.size : Int) % 4294967296)).size) = False := eq_false (by rw [strOfNums_size, wStr_size]; omega)
    go_simp
    with_reducible rfl
   rotate_left
   ·simp only [Act.put, List.setIfInBounds_toArray, List.set_cons_zero, List.set_cons_succ, i64_w, i32_w]
    rfl
   refine one_ (i := 9) (N := some 28) #[true, true, true, true, true, true, true, true, true, true, false, false] rfl rfl (by kernel_rfl) (by decide) (fun K hK => ?_)
   refine goes_ Tryd.func135 (by kernel_rfl) rfl #[.int .u32 (8 * (s.size : Int) / 4294967296 % 4294967296)] (by rfl) rfl rfl (by (try simp only [List.map_toArray, List.map_cons, List.map_nil]); first | done | rfl | (simp only [List.length_drop, List.length_take]; rfl)) ?_
   refine (impl_wordText.calls _ _ _ (wT _)).mono ?_
   rintro e w7 ⟨rfl, hb⟩
   refine ⟨_, rfl, ?_⟩
   replace HC := Aside0.mk (Kd.C_below HC.out hb)
   replace HB := Aside0.mk (below_step HB.out hb)
   clear hb
   refine hK.out _ _ HC.out (fun hHeld => ?_)
   clear hK K
   refine norm_ (a' := ?_) ?_ ?_
   rotate_left
   ·show Act.put _ (some 28) _ = _
    simp only [Act.put, List.setIfInBounds_toArray, List.set_cons_zero, List.set_cons_succ, i64_w, i32_w]
    rfl
   refine pure_ (i := 10) (N := some 29) (v := ?_) (a' := ?_) #[true, true, true, true, true, true, true, true, true, true, true, false] rfl rfl (by kernel_rfl) (fun _ _ _ h => h) (Or.inl ⟨by rfl, ?_⟩) ?_ ?_
   rotate_left
   ·intro w'
    have hz : (9223372036854775807 < (strOfNums xs ++ wStr (8 * (s.size : Int) % 4294967296)).size + (wStr (8 * (s.size : Int) / 4294967296 % 4294967296)).size) = False := eq_false (by rw [ByteArray.size_append, strOfNums_size, wStr_size, wStr_size]; omega)
    rw [ByteArray.size_append] at hz
    go_simp
    with_reducible rfl
   rotate_left
   ·simp only [Act.put, List.setIfInBounds_toArray, List.set_cons_zero, List.set_cons_succ, i64_w, i32_w]
    rfl
   refine pure_ (i := 11) (N := some 2) (v := ?_) (a' := ?_) #[true, true, true, true, true, true, true, true, true, true, true, true] rfl rfl (by kernel_rfl) (fun _ _ _ h => h) (Or.inl ⟨by rfl, ?_⟩) ?_ ?_
   rotate_left
   ·intro w'
    go_simp
    with_reducible rfl
   rotate_left
   ·simp only [Act.put, List.setIfInBounds_toArray, List.set_cons_zero, List.set_cons_succ, i64_w, i32_w]
    rfl
   refine done_ (by kernel_rfl) ?_
   go_wp2
   go_ret
   refine ⟨?_, HB.out⟩
   rw [pad_is, ← HE.out]
   rfl
  ·cases gk with
   | zero => exact absurd HK.out (by omega)
   | succ k1 =>
    have hne : ((xs.length : Int) % 64 != 56) = true := by rw [bne_iff_ne]; omega
    have HQ := Aside0.mk h56
    clear h56
    go_wp2_with (at_builtin; refine X_append w.heap.size rfl _ _ 22 5 rfl Tryd.underlying22 info5 (.slice A3 xs.length c3) xs.length (xs.map (Value.int .u8)) (.int .u8 0) rfl rfl rfl HO.out HB.out HB.out.size (by omega) ?_; intro v2 w2 ho hb; clear HB HO; have HO := Aside0.mk ho; have HB := Aside0.mk hb; clear ho hb)
    go_roundg k1
    case measure => omega
    case rel => exact ⟨xs ++ [0], ⟨by have := HO.out; rw [List.map_append, List.length_append]; exact this⟩, ⟨by rw [← HX.out, List.append_assoc]; rfl⟩, ⟨by have h1 := HK.out; have h2 := padZ_next HQ.out; rw [List.length_append]; simp only [List.length_singleton]; omega⟩, ⟨by rw [List.length_append]; simp only [List.length_singleton]; have := HN.out; omega⟩, HB⟩
/-- The sum of whole blocks. -/
def sumN : Nat → ByteArray → Int × Int × Int × Int → Int × Int × Int × Int
 | 0, _, s => s
 | n + 1, p, s => sumN n (p.extract 64 p.size) (mxB (p.extract 0 64) s)
def sum0 : Int × Int × Int × Int := (1732584193, 4023233417, 2562383102, 271733878)
def padB (s : ByteArray) : ByteArray := strOfNums (padL s)
def sumOf (s : ByteArray) : Int × Int × Int × Int := sumN ((padB s).size / 64) (padB s) sum0
def cells4 (t : Int × Int × Int × Int) : Array Value := #[.int .u32 t.1, .int .u32 t.2.1, .int .u32 t.2.2.1, .int .u32 t.2.2.2]
def strongF (s : ByteArray) : ByteArray := wStr (sumOf s).1 ++ wStr (sumOf s).2.1 ++ wStr (sumOf s).2.2.1 ++ wStr (sumOf s).2.2.2
theorem padB_size (s : ByteArray) : (padB s).size % 64 = 0 := by
 unfold padB
 rw [strOfNums_size]
 unfold padL padZ le4
 simp only [List.length_append, List.length_replicate, bytesOf_length, List.length_cons, List.length_nil]
 omega
/-- The tables lie where the program lays them. -/
structure Tabs (w : World) : Prop where
 k : ∀ i < 64, w.cell? ⟨0, i, none⟩ = some (.int .u32 (mxKi i))
 s : ∀ i < 16, w.cell? ⟨1, i, none⟩ = some (.int .i64 (mxSi i))
theorem Tabs.below {w w' : World} (h : Tabs w) (hb : Below w.heap.size w w') : Tabs w' :=
 ⟨fun i hi => (hb.cell (World.block_lt_of_cell? w _ (h.k i hi))).trans (h.k i hi), fun i hi => (hb.cell (World.block_lt_of_cell? w _ (h.s i hi))).trans (h.s i hi)⟩
theorem Tabs.at {w W : World} (h : Tabs w) (hb : Below w.heap.size w W) : Tabs W := h.below hb
set_option maxHeartbeats 4000000 in
set_option maxRecDepth 100000 in
theorem strong_calls (s : ByteArray) (w : World) (hs : s.size ≤ 1000000000) (hT : Tabs w) :
  Calls Tryd.prog 94 #[.string s] w fun e w' => e = .returned (.string (strongF s)) ∧ Below w.heap.size w w' := by
 have HT := Aside0.mk hT
 clear hT
 have HB := Aside0.mk (Below.refl w.heap.size w)
 go_enter Tryd.func94, Tryd.ntmps94
 go_wp2_with fail
 have BK := Aside0.mk (blk_new w (.cells (cells4 sum0) 125))
 have HB0 := Aside0.mk (below_alloc HB.out (.cells (cells4 sum0) 125))
 refine (padded_calls s _ hs).mono ?_
 rintro e w2 ⟨rfl, hb⟩
 clear HB
 have HB := Aside0.mk (below_step HB0.out hb)
 replace BK := Aside0.mk (blk_below BK.out hb)
 clear hb HB0
 have HP := Aside0.mk (padB_size s)
 have HF := Aside0.mk (show strOfNums (padL s) = padB s from rfl)
 rw [HF.out]
 go_wp2
 go_loopg [4] ((padB s).size / 64) (fun kq v4 w' => ∃ (p : ByteArray) (t : Int × Int × Int × Int), v4 = .string p ∧ Aside0 (p.size = 64 * kq) ∧ Aside0 (sumN kq p t = sumOf s) ∧ Aside0 (w'.heap[w.heap.size]? = some (.cells (cells4 t) 125 (0, 0))) ∧ Aside0 (Below w.heap.size w w'))
 case atStart => exact ⟨padB s, sum0, rfl, ⟨by have := HP.out; omega⟩, ⟨rfl⟩, BK, HB⟩
 case round =>
  clear HB BK HP
  obtain ⟨p, t, rfl, HS, HN, BK, HB⟩ := hrel
  cases gk with
  | zero =>
   have he : p.toList = [] := by
    rw [ByteArray.toList_eq]
    apply List.eq_nil_of_length_eq_zero
    have := HS.out
    rw [data_length]
    omega
   go_wp2
   replace BK := Aside0.mk (blk_drew BK.out)
   replace HB := Aside0.mk (below_drew1 HB.out)
   refine start_ (n := 16) (S := fun w' => w'.cell? ⟨w.heap.size, 0, none⟩ = some (.int .u32 t.1) ∧ w'.cell? ⟨w.heap.size, 1, none⟩ = some (.int .u32 t.2.1) ∧ w'.cell? ⟨w.heap.size, 2, none⟩ = some (.int .u32 t.2.2.1) ∧ w'.cell? ⟨w.heap.size, 3, none⟩ = some (.int .u32 t.2.2.2)) (ds := []) #[false, false, false, false, false, false, false, false, false, false, false, false, false, false, false, false] (by kernel_rfl) rfl rfl ⟨(blk_cell BK.out 0).trans rfl, (blk_cell BK.out 1).trans rfl, (blk_cell BK.out 2).trans rfl, (blk_cell BK.out 3).trans rfl⟩ (fun hHeld => ?_)
   generalize wr.drew = w6 at BK HB hHeld ⊢
   refine pure_ (i := 0) (N := some 16) (v := ?_) (a' := ?_) #[true, false, false, false, false, false, false, false, false, false, false, false, false, false, false, false] rfl rfl (by kernel_rfl) (fun _ _ _ h => h) (Or.inl ⟨by rfl, ?_⟩) ?_ ?_
   rotate_left
   ·intro w'
    go_simp
    with_reducible rfl
   rotate_left
   ·simp only [Act.put, List.setIfInBounds_toArray, List.set_cons_zero, List.set_cons_succ, i64_w, i32_w]
    rfl
   refine take_ (i := 1) (N := some 17) (v := ?_) (a' := ?_) #[true, true, false, false, false, false, false, false, false, false, false, false, false, false, false, false] rfl rfl (by kernel_rfl) (fun _ _ _ h => h) (Or.inl ⟨by rfl, ?_⟩) hHeld ?_ ?_
   rotate_left
   ·rintro w' ⟨s0, s1, s2, s3⟩
    go_simp
    with_reducible rfl
   rotate_left
   ·simp only [Act.put, List.setIfInBounds_toArray, List.set_cons_zero, List.set_cons_succ, i64_w, i32_w]
    rfl
   refine pure_ (i := 3) (N := some 19) (v := ?_) (a' := ?_) #[true, true, false, true, false, false, false, false, false, false, false, false, false, false, false, false] rfl rfl (by kernel_rfl) (fun _ _ _ h => h) (Or.inl ⟨by rfl, ?_⟩) ?_ ?_
   rotate_left
   ·intro w'
    go_simp
    with_reducible rfl
   rotate_left
   ·simp only [Act.put, List.setIfInBounds_toArray, List.set_cons_zero, List.set_cons_succ, i64_w, i32_w]
    rfl
   refine take_ (i := 4) (N := some 20) (v := ?_) (a' := ?_) #[true, true, false, true, true, false, false, false, false, false, false, false, false, false, false, false] rfl rfl (by kernel_rfl) (fun _ _ _ h => h) (Or.inl ⟨by rfl, ?_⟩) hHeld ?_ ?_
   rotate_left
   ·rintro w' ⟨s0, s1, s2, s3⟩
    go_simp
    with_reducible rfl
   rotate_left
   ·simp only [Act.put, List.setIfInBounds_toArray, List.set_cons_zero, List.set_cons_succ, i64_w, i32_w]
    rfl
   refine pure_ (i := 7) (N := some 23) (v := ?_) (a' := ?_) #[true, true, false, true, true, false, false, true, false, false, false, false, false, false, false, false] rfl rfl (by kernel_rfl) (fun _ _ _ h => h) (Or.inl ⟨by rfl, ?_⟩) ?_ ?_
   rotate_left
   ·intro w'
    go_simp
    with_reducible rfl
   rotate_left
   ·simp only [Act.put, List.setIfInBounds_toArray, List.set_cons_zero, List.set_cons_succ, i64_w, i32_w]
    rfl
   refine take_ (i := 8) (N := some 24) (v := ?_) (a' := ?_) #[true, true, false, true, true, false, false, true, true, false, false, false, false, false, false, false] rfl rfl (by kernel_rfl) (fun _ _ _ h => h) (Or.inl ⟨by rfl, ?_⟩) hHeld ?_ ?_
   rotate_left
   ·rintro w' ⟨s0, s1, s2, s3⟩
    go_simp
    with_reducible rfl
   rotate_left
   ·simp only [Act.put, List.setIfInBounds_toArray, List.set_cons_zero, List.set_cons_succ, i64_w, i32_w]
    rfl
   refine pure_ (i := 11) (N := some 27) (v := ?_) (a' := ?_) #[true, true, false, true, true, false, false, true, true, false, false, true, false, false, false, false] rfl rfl (by kernel_rfl) (fun _ _ _ h => h) (Or.inl ⟨by rfl, ?_⟩) ?_ ?_
   rotate_left
   ·intro w'
    go_simp
    with_reducible rfl
   rotate_left
   ·simp only [Act.put, List.setIfInBounds_toArray, List.set_cons_zero, List.set_cons_succ, i64_w, i32_w]
    rfl
   refine take_ (i := 12) (N := some 28) (v := ?_) (a' := ?_) #[true, true, false, true, true, false, false, true, true, false, false, true, true, false, false, false] rfl rfl (by kernel_rfl) (fun _ _ _ h => h) (Or.inl ⟨by rfl, ?_⟩) hHeld ?_ ?_
   rotate_left
   ·rintro w' ⟨s0, s1, s2, s3⟩
    go_simp
    with_reducible rfl
   rotate_left
   ·simp only [Act.put, List.setIfInBounds_toArray, List.set_cons_zero, List.set_cons_succ, i64_w, i32_w]
    rfl
   refine one_ (i := 2) (N := some 18) #[true, true, true, true, true, false, false, true, true, false, false, true, true, false, false, false] rfl rfl (by kernel_rfl) (by decide) (fun K hK => ?_)
   refine goes_ Tryd.func135 (by kernel_rfl) rfl #[.int .u32 t.1] (by rfl) rfl rfl (by (try simp only [List.map_toArray, List.map_cons, List.map_nil]); first | done | rfl | (simp only [List.length_drop, List.length_take]; rfl)) ?_
   refine (impl_wordText.calls _ _ _ (wT _)).mono ?_
   rintro e w7 ⟨rfl, hb⟩
   refine ⟨_, rfl, ?_⟩
   replace BK := Aside0.mk (blk_below BK.out hb)
   replace HB := Aside0.mk (below_step HB.out hb)
   clear hb
   refine hK.out _ _ ⟨(blk_cell BK.out 0).trans rfl, (blk_cell BK.out 1).trans rfl, (blk_cell BK.out 2).trans rfl, (blk_cell BK.out 3).trans rfl⟩ (fun hHeld => ?_)
   clear hK K
   refine norm_ (a' := ?_) ?_ ?_
   rotate_left
   ·show Act.put _ (some 18) _ = _
    simp only [Act.put, List.setIfInBounds_toArray, List.set_cons_zero, List.set_cons_succ, i64_w, i32_w]
    rfl
   refine one_ (i := 5) (N := some 21) #[true, true, true, true, true, true, false, true, true, false, false, true, true, false, false, false] rfl rfl (by kernel_rfl) (by decide) (fun K hK => ?_)
   refine goes_ Tryd.func135 (by kernel_rfl) rfl #[.int .u32 t.2.1] (by rfl) rfl rfl (by (try simp only [List.map_toArray, List.map_cons, List.map_nil]); first | done | rfl | (simp only [List.length_drop, List.length_take]; rfl)) ?_
   refine (impl_wordText.calls _ _ _ (wT _)).mono ?_
   rintro e w7 ⟨rfl, hb⟩
   refine ⟨_, rfl, ?_⟩
   replace BK := Aside0.mk (blk_below BK.out hb)
   replace HB := Aside0.mk (below_step HB.out hb)
   clear hb
   refine hK.out _ _ ⟨(blk_cell BK.out 0).trans rfl, (blk_cell BK.out 1).trans rfl, (blk_cell BK.out 2).trans rfl, (blk_cell BK.out 3).trans rfl⟩ (fun hHeld => ?_)
   clear hK K
   refine norm_ (a' := ?_) ?_ ?_
   rotate_left
   ·show Act.put _ (some 21) _ = _
    simp only [Act.put, List.setIfInBounds_toArray, List.set_cons_zero, List.set_cons_succ, i64_w, i32_w]
    rfl
   refine pure_ (i := 6) (N := some 22) (v := ?_) (a' := ?_) #[true, true, true, true, true, true, true, true, true, false, false, true, true, false, false, false] rfl rfl (by kernel_rfl) (fun _ _ _ h => h) (Or.inl ⟨by rfl, ?_⟩) ?_ ?_
   rotate_left
   ·intro w'
    have hz : (9223372036854775807 < (wStr t.1).size + (wStr t.2.1).size) = False := eq_false (by simp only [ByteArray.size_append, wStr_size]; omega)
    try simp only [ByteArray.size_append] at hz
    go_simp
    with_reducible rfl
   rotate_left
   ·simp only [Act.put, List.setIfInBounds_toArray, List.set_cons_zero, List.set_cons_succ, i64_w, i32_w]
    rfl
   refine one_ (i := 9) (N := some 25) #[true, true, true, true, true, true, true, true, true, true, false, true, true, false, false, false] rfl rfl (by kernel_rfl) (by decide) (fun K hK => ?_)
   refine goes_ Tryd.func135 (by kernel_rfl) rfl #[.int .u32 t.2.2.1] (by rfl) rfl rfl (by (try simp only [List.map_toArray, List.map_cons, List.map_nil]); first | done | rfl | (simp only [List.length_drop, List.length_take]; rfl)) ?_
   refine (impl_wordText.calls _ _ _ (wT _)).mono ?_
   rintro e w7 ⟨rfl, hb⟩
   refine ⟨_, rfl, ?_⟩
   replace BK := Aside0.mk (blk_below BK.out hb)
   replace HB := Aside0.mk (below_step HB.out hb)
   clear hb
   refine hK.out _ _ ⟨(blk_cell BK.out 0).trans rfl, (blk_cell BK.out 1).trans rfl, (blk_cell BK.out 2).trans rfl, (blk_cell BK.out 3).trans rfl⟩ (fun hHeld => ?_)
   clear hK K
   refine norm_ (a' := ?_) ?_ ?_
   rotate_left
   ·show Act.put _ (some 25) _ = _
    simp only [Act.put, List.setIfInBounds_toArray, List.set_cons_zero, List.set_cons_succ, i64_w, i32_w]
    rfl
   refine pure_ (i := 10) (N := some 26) (v := ?_) (a' := ?_) #[true, true, true, true, true, true, true, true, true, true, true, true, true, false, false, false] rfl rfl (by kernel_rfl) (fun _ _ _ h => h) (Or.inl ⟨by rfl, ?_⟩) ?_ ?_
   rotate_left
   ·intro w'
    have hz : (9223372036854775807 < (wStr t.1 ++ wStr t.2.1).size + (wStr t.2.2.1).size) = False := eq_false (by simp only [ByteArray.size_append, wStr_size]; omega)
    try simp only [ByteArray.size_append] at hz
    go_simp
    with_reducible rfl
   rotate_left
   ·simp only [Act.put, List.setIfInBounds_toArray, List.set_cons_zero, List.set_cons_succ, i64_w, i32_w]
    rfl
   refine one_ (i := 13) (N := some 29) #[true, true, true, true, true, true, true, true, true, true, true, true, true, true, false, false] rfl rfl (by kernel_rfl) (by decide) (fun K hK => ?_)
   refine goes_ Tryd.func135 (by kernel_rfl) rfl #[.int .u32 t.2.2.2] (by rfl) rfl rfl (by (try simp only [List.map_toArray, List.map_cons, List.map_nil]); first | done | rfl | (simp only [List.length_drop, List.length_take]; rfl)) ?_
   refine (impl_wordText.calls _ _ _ (wT _)).mono ?_
   rintro e w7 ⟨rfl, hb⟩
   refine ⟨_, rfl, ?_⟩
   replace BK := Aside0.mk (blk_below BK.out hb)
   replace HB := Aside0.mk (below_step HB.out hb)
   clear hb
   refine hK.out _ _ ⟨(blk_cell BK.out 0).trans rfl, (blk_cell BK.out 1).trans rfl, (blk_cell BK.out 2).trans rfl, (blk_cell BK.out 3).trans rfl⟩ (fun hHeld => ?_)
   clear hK K
   refine norm_ (a' := ?_) ?_ ?_
   rotate_left
   ·show Act.put _ (some 29) _ = _
    simp only [Act.put, List.setIfInBounds_toArray, List.set_cons_zero, List.set_cons_succ, i64_w, i32_w]
    rfl
   refine pure_ (i := 14) (N := some 30) (v := ?_) (a' := ?_) #[true, true, true, true, true, true, true, true, true, true, true, true, true, true, true, false] rfl rfl (by kernel_rfl) (fun _ _ _ h => h) (Or.inl ⟨by rfl, ?_⟩) ?_ ?_
   rotate_left
   ·intro w'
    have hz : (9223372036854775807 < (wStr t.1 ++ wStr t.2.1 ++ wStr t.2.2.1).size + (wStr t.2.2.2).size) = False := eq_false (by simp only [ByteArray.size_append, wStr_size]; omega)
    try simp only [ByteArray.size_append] at hz
    go_simp
    with_reducible rfl
   rotate_left
   ·simp only [Act.put, List.setIfInBounds_toArray, List.set_cons_zero, List.set_cons_succ, i64_w, i32_w]
    rfl
   refine pure_ (i := 15) (N := some 2) (v := ?_) (a' := ?_) #[true, true, true, true, true, true, true, true, true, true, true, true, true, true, true, true] rfl rfl (by kernel_rfl) (fun _ _ _ h => h) (Or.inl ⟨by rfl, ?_⟩) ?_ ?_
   rotate_left
   ·intro w'
    go_simp
    with_reducible rfl
   rotate_left
   ·simp only [Act.put, List.setIfInBounds_toArray, List.set_cons_zero, List.set_cons_succ, i64_w, i32_w]
    rfl
   refine done_ (by kernel_rfl) ?_
   go_wp2
   go_ret
   refine ⟨?_, HB.out⟩
   have hN : t = sumOf s := HN.out
   unfold strongF
   rw [← hN]
   rfl
  | succ k1 =>
   have hp64 : 64 ≤ p.size := by have := HS.out; omega
   have he1 : p.toList.isEmpty = false := by
    rw [ByteArray.toList_eq, List.isEmpty_eq_false_iff]
    intro h
    have h2 : p.size = 0 := by rw [← data_length, h]; rfl
    omega
   have he2 : (!p.toList.isEmpty) = true := by rw [he1]; rfl
   have hq1 : decide ((64 : Int) ≤ (p.size : Int)) = true := decide_eq_true (by omega)
   have hq2 : ((64 : Int) ≤ (p.size : Int)) = True := eq_true (by omega)
   have HZ : Aside0 ((p.extract 0 64).size = 64) := ⟨by rw [ByteArray.size_extract, Nat.min_eq_left hp64]⟩
   go_wp2
   replace BK := Aside0.mk (blk_drew BK.out)
   replace HB := Aside0.mk (below_drew1 HB.out)
   refine start_ (n := 5) (S := fun w' => w'.cell? ⟨w.heap.size, 0, none⟩ = some (.int .u32 t.1) ∧ w'.cell? ⟨w.heap.size, 1, none⟩ = some (.int .u32 t.2.1) ∧ w'.cell? ⟨w.heap.size, 2, none⟩ = some (.int .u32 t.2.2.1) ∧ w'.cell? ⟨w.heap.size, 3, none⟩ = some (.int .u32 t.2.2.2)) (ds := [4]) #[false, false, false, false, false] (by kernel_rfl) rfl rfl ⟨(blk_cell BK.out 0).trans rfl, (blk_cell BK.out 1).trans rfl, (blk_cell BK.out 2).trans rfl, (blk_cell BK.out 3).trans rfl⟩ (fun hHeld => ?_)
   generalize wr.drew = w6 at BK HB hHeld ⊢
   refine take_ (i := 0) (N := some 12) (v := ?_) (a' := ?_) #[true, false, false, false, false] rfl rfl (by kernel_rfl) (fun _ _ _ h => h) (Or.inl ⟨by rfl, ?_⟩) hHeld ?_ ?_
   rotate_left
   ·rintro w' ⟨s0, s1, s2, s3⟩
    go_simp
    with_reducible rfl
   rotate_left
   ·simp only [Act.put, List.setIfInBounds_toArray, List.set_cons_zero, List.set_cons_succ, i64_w, i32_w]
    rfl
   refine pure_ (i := 1) (N := some 13) (v := ?_) (a' := ?_) #[true, true, false, false, false] rfl rfl (by kernel_rfl) (fun _ _ _ h => h) (Or.inl ⟨by rfl, ?_⟩) ?_ ?_
   rotate_left
   ·intro w'
    go_simp
    with_reducible rfl
   rotate_left
   ·simp only [Act.put, List.setIfInBounds_toArray, List.set_cons_zero, List.set_cons_succ, i64_w, i32_w]
    rfl
   refine pure_ (i := 2) (N := some 14) (v := ?_) (a' := ?_) #[true, true, true, false, false] rfl rfl (by kernel_rfl) (fun _ _ _ h => h) (Or.inl ⟨by rfl, ?_⟩) ?_ ?_
   rotate_left
   ·intro w'
    go_simp
    with_reducible rfl
   rotate_left
   ·simp only [Act.put, List.setIfInBounds_toArray, List.set_cons_zero, List.set_cons_succ, i64_w, i32_w]
    rfl
   refine one_ (i := 3) (N := some 15) #[true, true, true, true, false] rfl rfl (by kernel_rfl) (by decide) (fun K hK => ?_)
   refine goes_ Tryd.func153 (by kernel_rfl) rfl #[.agg #[.int .u32 t.1, .int .u32 t.2.1, .int .u32 t.2.2.1, .int .u32 t.2.2.2], .string (p.extract 0 64)] (by rfl) rfl rfl (by (try simp only [List.map_toArray, List.map_cons, List.map_nil]); first | done | rfl | (simp only [List.length_drop, List.length_take]; rfl)) ?_
   refine (mix_calls _ _ _ _ _ _ HZ.out (HT.out.below HB.out).k (HT.out.below HB.out).s).mono ?_
   rintro e w7 ⟨rfl, hb⟩
   refine ⟨_, rfl, ?_⟩
   replace BK := Aside0.mk (blk_below BK.out hb)
   replace HB := Aside0.mk (below_step HB.out hb)
   clear hb
   refine hK.out _ _ ⟨(blk_cell BK.out 0).trans rfl, (blk_cell BK.out 1).trans rfl, (blk_cell BK.out 2).trans rfl, (blk_cell BK.out 3).trans rfl⟩ (fun hHeld => ?_)
   clear hK K
   refine norm_ (a' := ?_) ?_ ?_
   rotate_left
   ·show Act.put _ (some 15) _ = _
    simp only [Act.put, List.setIfInBounds_toArray, List.set_cons_zero, List.set_cons_succ, i64_w, i32_w]
    rfl
   refine last_ (i := 4) (N := none) #[true, true, true, true, true] rfl rfl (by kernel_rfl) (by decide) (fun K hK => ?_)
   have c0 := hHeld.1
   have c1 := hHeld.2.1
   have c2 := hHeld.2.2.1
   have c3 := hHeld.2.2.2
   have f0 := blk_frozen BK.out 0
   have f1 := blk_frozen BK.out 1
   have f2 := blk_frozen BK.out 2
   have f3 := blk_frozen BK.out 3
   go_simp
   refine hK.out _ _ ?_
   clear hK K c0 c1 c2 c3 f0 f1 f2 f3
   refine done_ (by kernel_rfl) ?_
   go_wp2
   go_roundg k1
   case measure => omega
   case rel => exact ⟨p.extract 64 p.size, mxB (p.extract 0 64) t, rfl, ⟨by rw [ByteArray.size_extract]; have := HS.out; omega⟩, ⟨HN.out⟩, ⟨blk_put (blk_put (blk_put (blk_put BK.out 0 _ rfl) 1 _ rfl) 2 _ rfl) 3 _ rfl⟩, ⟨below_set (below_set (below_set (below_set HB.out (Nat.le_refl _)) (Nat.le_refl _)) (Nat.le_refl _)) (Nat.le_refl _)⟩⟩

end Go.Proofs.YtjiaigjmihmdjaaDoor.Sum
