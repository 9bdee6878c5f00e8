
/- The machine's side, written by a program of this session (a turned print): each function as a plain Lean function, and that the call comes to it. -/
import Derived.Test.YtjiaigjmihmdjaaDoorPFnExactTakeAnswerx0
import Derived.Test.YtjiaigjmihmdjaaDoorPFnExactTakeAnswerx1
import Derived.Test.YtjiaigjmihmdjaaDoorPFnExactTakeAnswerx2
namespace Go.Proofs.YtjiaigjmihmdjaaDoor.PFnExactTakeAnswer
open Go.RowKit Go.Proofs.YtjiaigjmihmdjaaDoorW.PrintWords Go.Proofs.YtjiaigjmihmdjaaDoorW.PrintLast Go.Proofs.YtjiaigjmihmdjaaDoorW.PrintMore
attribute [local go_sem] max2_int min2_int max_two min_two max_three min_three max_four min_four   -- for this text's walks alone
set_option linter.unusedVariables false
set_option linter.unusedSimpArgs false

/-! ### spec_l05Blocks: function 74 -/
def spec_l05Blocks.l0 : Nat → ByteArray → Int → List ByteArray → Option (List ByteArray)
 | 0, _, _, _ => none
 | k + 1, x0, x1, x5 => if (x0.size : Int) > x1 then (if 0 ≤ x1 then (if x1 ≤ (x0.size : Int) then (if x5.length < 8796093022208 then (spec_l05Blocks.l0 k (x0.extract (x1 : Int).toNat x0.size) x1 (x5 ++ [x0.extract 0 (x1 : Int).toNat])) else (none)) else (none)) else (none)) else (if (x0.size : Int) > 0 then (if x5.length < 8796093022208 then (some (x5 ++ [x0])) else (none)) else (some x5))
def spec_l05Blocks.f (k : Nat) (a0 : ByteArray) (a1 : Int) : Option (List ByteArray) := spec_l05Blocks.l0 k a0 a1 (([] : List ByteArray))
theorem spec_l05Blocks.mono_l : ∀ k, (∀ y0 y1 y2, LeO (spec_l05Blocks.l0 k y0 y1 y2) (spec_l05Blocks.l0 (k + 1) y0 y1 y2))
 | 0 => fun _ _ _ r h => by simp [spec_l05Blocks.l0] at h
 | k + 1 => by
  have ih0 := spec_l05Blocks.mono_l k
  ·intro y0 y1 y2
   unfold spec_l05Blocks.l0
   repeat' first | (with_reducible first | exact ih0 _ _ _ | exact LeO.refl _ | exact LeO.none _ | refine LeO.ite ?_ ?_ | refine LeO.bind ?_ (fun _ => ?_)) | exact ih0 _ _ _ | exact LeO.none _ | refine LeO.ite ?_ ?_ | refine LeO.bind ?_ (fun _ => ?_)
theorem spec_l05Blocks.mono : ∀ a0 a1 k, LeO (spec_l05Blocks.f k a0 a1) (spec_l05Blocks.f (k + 1) a0 a1) := by
 intro a0 a1 k
 have ih0 := spec_l05Blocks.mono_l k
 unfold spec_l05Blocks.f
 repeat' first | (with_reducible first | exact ih0 _ _ _ | exact LeO.refl _ | exact LeO.none _ | refine LeO.ite ?_ ?_ | refine LeO.bind ?_ (fun _ => ?_)) | exact ih0 _ _ _ | exact LeO.none _ | refine LeO.ite ?_ ?_ | refine LeO.bind ?_ (fun _ => ?_)
set_option maxHeartbeats 8000000 in
set_option maxRecDepth 100000 in
theorem spec_l05Blocks.calls (k : Nat) (a0 : ByteArray) (a1 : Int) (r : List ByteArray) (w : World) (h : spec_l05Blocks.f k a0 a1 = some r) :
  Calls Tryd.prog 74 #[.string a0, .int .i64 a1] w fun e w' => ∃ v0_ : Value, e = .returned (v0_) ∧ Kd.R Kd.string 9 w' w.heap.size (fun _ => True) v0_ r ∧ Below w.heap.size w w' := by
 have HB := Aside0.mk (Below.refl w.heap.size w)
 have H : (spec_l05Blocks.l0 k a0 a1 (([] : List ByteArray))) = some r := h
 clear h
 obtain ⟨y197, hy197⟩ : ∃ y_ : List ByteArray, y_ = (([] : List ByteArray)) := ⟨_, rfl⟩
 replace H : (spec_l05Blocks.l0 k a0 a1 y197) = some r := by first | (rw [hy197]; with_reducible exact H) | (have H2_ := (Option.bind_some _ _).symm.trans H; rw [hy197]; with_reducible exact H2_) | (have H2_ := (Option.bind_some _ _).symm.trans H; with_reducible exact H2_) | with_reducible exact H | (rw [hy197]; exact H) | exact H
 have Ny197 := Aside0.mk hy197
 clear hy197
 have H' := Aside0.mk H
 clear H
 go_enter Tryd.func74, Tryd.ntmps74
 go_wp2_with (first | ((with_reducible refine gate_dst (N := 6) rfl ?_); refine Kd.R_lit Kd.string _ 9 ?hg (N := 6) ?hd (xs := ([] : List ByteArray)) (inner := []) (ok := fun _ => True) (okp := fun _ => True) ?hr ?hp (fun _ hk => hk) trivial (Below.refl _ _) (Nat.le_refl _) (by simp) ?_; (case hd => rfl); (case hg => rfl); (case hr => first | (go_simp; done) | (go_simp; rfl)); (case hp => exact (Reps.none _ _)); intro v198 w3 ho4 hb hg_ hnew_; clear hg_ hnew_; (first | rw [← Ny197.out] at ho4 | (simp only [Int.reduceToNat] at ho4; rw [← Ny197.out] at ho4)); have n0_ := Aside0.mk (Kd.R_lower ho4 (below_size bz)); have n1_ := Aside0.mk (below_step bz hb); clear HB; have HO199 := n0_; have HB := n1_; clear n0_ n1_; clear hb ho4))
 go_loopg [0, 5] k (fun kq v0 v5 w' => ∃ (x0_1 : ByteArray) (x5_1 : List ByteArray), v0 = .string x0_1 ∧ Aside0 (spec_l05Blocks.l0 kq x0_1 a1 x5_1 = some r) ∧ Aside0 (kq ≤ k) ∧ Aside0 (Kd.R Kd.string 9 w' w.heap.size (fun _ => True) v5 x5_1) ∧ Aside0 (Below w.heap.size w w'))
 case atStart => exact ⟨(a0), (y197), sd, H', ⟨Nat.le_refl _⟩, ⟨by refine rs ?_; exact HO199.out⟩, ⟨bz⟩⟩
 case round =>
  clear H'
  try clear p2
  obtain ⟨x0_1, x5_1, rfl, HA, HK1, HO_5, HB⟩ := hrel
  cases gk with
  | zero => exact absurd HA.out (by simp [spec_l05Blocks.l0])
  | succ k1 =>
   have H := HA.out
   clear HA
   simp only [spec_l05Blocks.l0] at H
   by_cases c5 : (x0_1.size : Int) > a1
   ·rw [if_pos c5] at H
    have c5b0 : decide (a1 < (x0_1.size : Int)) = true := decide_eq_true c5
    clear c5
    by_cases c6 : 0 ≤ a1
    ·rw [if_pos c6] at H
     have c6b0 := eq_true c6
     have c6b1 : decide (0 ≤ a1) = true := decide_eq_true c6
     clear c6
     by_cases c7 : a1 ≤ (x0_1.size : Int)
     ·rw [if_pos c7] at H
      have c7b0 := eq_true c7
      have c7b1 : decide (a1 ≤ (x0_1.size : Int)) = true := decide_eq_true c7
      clear c7
      by_cases c8 : x5_1.length < 8796093022208
      ·rw [if_pos c8] at H
       have LMc8 := Aside0.mk c8
       clear c8
       obtain ⟨y200, hy200⟩ : ∃ y_ : List ByteArray, y_ = (x5_1 ++ [x0_1.extract 0 (a1 : Int).toNat]) := ⟨_, rfl⟩
       replace H : (spec_l05Blocks.l0 k1 (x0_1.extract (a1 : Int).toNat x0_1.size) a1 y200) = some r := by first | (rw [hy200]; with_reducible exact H) | (have H2_ := (Option.bind_some _ _).symm.trans H; rw [hy200]; with_reducible exact H2_) | (have H2_ := (Option.bind_some _ _).symm.trans H; with_reducible exact H2_) | with_reducible exact H | (rw [hy200]; exact H) | exact H
       have Ny200 := Aside0.mk hy200
       clear hy200
       have c9b0 := eq_true (od : 0 ≤ a1)
       have c10b0 := eq_true (od : a1 ≤ (x0_1.size : Int))
       have H' := Aside0.mk H
       clear H
       go_wp2_with (first | ((with_reducible refine gate_builtin (b := .append) (xs := #[.tmp 11, .tmp 15]) rfl ?_); at_builtin; refine Kd.R_append Kd.string (w0 := w) w.heap.size rfl (.tmp 11) (.tmp 15) 28 9 (.string ⟨#[]⟩) 16 rfl Tryd.underlying28 info9 rfl (by decide) (by omega) u5 x5_1 (x0_1.extract 0 (a1 : Int).toNat) [.string (x0_1.extract 0 (a1 : Int).toNat)] (fun _ => True) (fun _ => False) rfl rfl ?aP (fun _ hk => hk.elim) ?aF ?aO ?aB ?aS ?aL ?_; (case aP => exact rfl); (case aB => exact bz); (case aF => exact (fun _ _ => trivial)); (case aO => exact (by refine rs ?_; exact HO_5.out)); (case aS => exact (below_size bz)); (case aL => have := LMc8.out; omega); intro v201 w11 ho hb hg hat; rw [← Ny200.out] at ho; have n0_ := Aside0.mk (hb); have n1_ := Aside0.mk (ho); clear HB; clear HO_5; have HB := n0_; have HO202 := n1_; clear n0_ n1_; clear ho hb hg hat))
       go_roundg k1
       case measure => have := HK1.out; omega
       case rel => exact ⟨(x0_1.extract (a1 : Int).toNat x0_1.size), (y200), sd, H', ⟨by have := HK1.out; omega⟩, ⟨by refine rs ?_; exact HO202.out⟩, ⟨bz⟩⟩
      ·rw [if_neg c8] at H
       exact absurd H (by simp)
     ·rw [if_neg c7] at H
      exact absurd H (by simp)
    ·rw [if_neg c6] at H
     exact absurd H (by simp)
   ·rw [if_neg c5] at H
    have c5b0 : decide (a1 < (x0_1.size : Int)) = false := decide_eq_false c5
    clear c5
    by_cases c12 : (x0_1.size : Int) > 0
    ·rw [if_pos c12] at H
     have c12b0 : decide (0 < (x0_1.size : Int)) = true := decide_eq_true c12
     have c12b1 : decide (0 < x0_1.size) = true := decide_eq_true (by omega)
     clear c12
     by_cases c13 : x5_1.length < 8796093022208
     ·rw [if_pos c13] at H
      have LMc13 := Aside0.mk c13
      clear c13
      obtain ⟨y203, hy203⟩ : ∃ y_ : List ByteArray, y_ = (x5_1 ++ [x0_1]) := ⟨_, rfl⟩
      replace H : (some y203) = some r := by first | (rw [hy203]; with_reducible exact H) | (have H2_ := (Option.bind_some _ _).symm.trans H; rw [hy203]; with_reducible exact H2_) | (have H2_ := (Option.bind_some _ _).symm.trans H; with_reducible exact H2_) | with_reducible exact H | (rw [hy203]; exact H) | exact H
      have Ny203 := Aside0.mk hy203
      clear hy203
      obtain rfl := Option.some.inj H
      go_wp2_with (first | ((with_reducible refine gate_builtin (b := .append) (xs := #[.tmp 23, .tmp 25]) rfl ?_); at_builtin; refine Kd.R_append Kd.string (w0 := w) w.heap.size rfl (.tmp 23) (.tmp 25) 28 9 (.string ⟨#[]⟩) 16 rfl Tryd.underlying28 info9 rfl (by decide) (by omega) u5 x5_1 x0_1 [.string x0_1] (fun _ => True) (fun _ => False) rfl rfl ?aP (fun _ hk => hk.elim) ?aF ?aO ?aB ?aS ?aL ?_; (case aP => exact rfl); (case aB => exact bz); (case aF => exact (fun _ _ => trivial)); (case aO => exact (by refine rs ?_; exact HO_5.out)); (case aS => exact (below_size bz)); (case aL => have := LMc13.out; omega); intro v204 w14 ho hb hg hat; rw [← Ny203.out] at ho; have n0_ := Aside0.mk (hb); have n1_ := Aside0.mk (ho); clear HB; clear HO_5; have HB := n0_; have HO205 := n1_; clear n0_ n1_; clear ho hb hg hat))
      go_ret
      exact ⟨_, rq, by refine rs ?_; exact HO205.out, bz⟩
     ·rw [if_neg c13] at H
      exact absurd H (by simp)
    ·rw [if_neg c12] at H
     have c12b0 : decide (0 < (x0_1.size : Int)) = false := decide_eq_false c12
     have c12b1 : decide (0 < x0_1.size) = false := decide_eq_false (by omega)
     clear c12
     obtain rfl := Option.some.inj H
     go_wp2
     go_ret
     exact ⟨_, rq, by refine rs ?_; exact HO_5.out, bz⟩

/-! ### spec_Patch: function 87 -/
mutual
def spec_Patch.j0 : Nat → ByteArray → Int → List (S148) → Bool → Option (ByteArray × Bool)
 | 0, _, _, _, _ => none
 | k + 1, x0, x1, x2, x25 => if x25 = true then (some ((⟨#[]⟩ : ByteArray), false)) else ((spec_l05Blocks.f k x0 x1).bind fun t207 => (spec_Patch.l0 k x2 t207 (([] : List Int)) 0))
def spec_Patch.l0 : Nat → List (S148) → List ByteArray → List Int → Int → Option (ByteArray × Bool)
 | 0, _, _, _, _ => none
 | k + 1, x2, x8, x9, x10 => if x10 < (x2.length : Int) then (if 0 ≤ x10 then ((spec_TokenOk.f ((rd_T148 x2 x10).f0) ((rd_T148 x2 x10).f1) ((rd_T148 x2 x10).f2) ((rd_T148 x2 x10).f3)).bind fun t215 => (if t215 = true then (if ((rd_T148 x2 x10).f0) = 1 then (if ((rd_T148 x2 x10).f2) > (x8.length : Int) then (spec_Patch.j2 k x2 x8 x9 x10 true ((rd_T148 x2 x10).f0) ((rd_T148 x2 x10).f1) ((rd_T148 x2 x10).f2) ((rd_T148 x2 x10).f3)) else (spec_Patch.j2 k x2 x8 x9 x10 (decide (((rd_T148 x2 x10).f3) > (wrap64 ((x8.length : Int) - ((rd_T148 x2 x10).f2))))) ((rd_T148 x2 x10).f0) ((rd_T148 x2 x10).f1) ((rd_T148 x2 x10).f2) ((rd_T148 x2 x10).f3))) else (spec_Patch.j2 k x2 x8 x9 x10 false ((rd_T148 x2 x10).f0) ((rd_T148 x2 x10).f1) ((rd_T148 x2 x10).f2) ((rd_T148 x2 x10).f3))) else (spec_Patch.j2 k x2 x8 x9 x10 true ((rd_T148 x2 x10).f0) ((rd_T148 x2 x10).f1) ((rd_T148 x2 x10).f2) ((rd_T148 x2 x10).f3)))) else (none)) else (some (strOfNums x9, true))
def spec_Patch.j2 : Nat → List (S148) → List ByteArray → List Int → Int → Bool → Int → ByteArray → Int → Int → Option (ByteArray × Bool)
 | 0, _, _, _, _, _, _, _, _, _ => none
 | k + 1, x2, x8, x9, x10, x64, x215000, x215001, x215002, x215003 => if x64 = true then (some ((⟨#[]⟩ : ByteArray), false)) else (if x215001.size ≤ 9223372036854775807 then ((some (bytesOf x215001 : List Int)).bind fun y216 => (if x9.length + y216.length < 140737488355328 then (spec_Patch.l1 k x2 x8 (x9 ++ y216) x10 x215002 x215000 x215001 x215002 x215003) else (none))) else (none))
def spec_Patch.l1 : Nat → List (S148) → List ByteArray → List Int → Int → Int → Int → ByteArray → Int → Int → Option (ByteArray × Bool)
 | 0, _, _, _, _, _, _, _, _, _ => none
 | k + 1, x2, x8, x9, x10, x12, x215000, x215001, x215002, x215003 => if x12 < (wrap64 (x215002 + x215003)) then (if 0 ≤ x12 then (if x12 < (x8.length : Int) then (if (rdOf ByteArray.empty x8 x12).size ≤ 9223372036854775807 then ((some (bytesOf (rdOf ByteArray.empty x8 x12) : List Int)).bind fun y223 => (if x9.length + y223.length < 140737488355328 then (spec_Patch.l1 k x2 x8 (x9 ++ y223) x10 (wrap64 (x12 + 1)) x215000 x215001 x215002 x215003) else (none))) else (none)) else (none)) else (none)) else (if (x9.length : Int) > 20000 then (some ((⟨#[]⟩ : ByteArray), false)) else (spec_Patch.l0 k x2 x8 x9 (wrap64 (x10 + 1))))
end
def spec_Patch.f (k : Nat) (a0 : ByteArray) (a1 : Int) (l2 : List (S148)) : Option (ByteArray × Bool) := (spec_l01In.f a1 1 256).bind fun t206 => (if t206 = true then (if (a0.size : Int) > 20000 then (spec_Patch.j0 k a0 a1 l2 true) else (spec_Patch.j0 k a0 a1 l2 (decide ((l2.length : Int) > 20000)))) else (spec_Patch.j0 k a0 a1 l2 true))
theorem spec_Patch.mono_l : ∀ k, (∀ y0 y1 y2 y3, LeO (spec_Patch.j0 k y0 y1 y2 y3) (spec_Patch.j0 (k + 1) y0 y1 y2 y3)) ∧ (∀ y0 y1 y2 y3, LeO (spec_Patch.l0 k y0 y1 y2 y3) (spec_Patch.l0 (k + 1) y0 y1 y2 y3)) ∧ (∀ y0 y1 y2 y3 y4 y5 y6 y7 y8, LeO (spec_Patch.j2 k y0 y1 y2 y3 y4 y5 y6 y7 y8) (spec_Patch.j2 (k + 1) y0 y1 y2 y3 y4 y5 y6 y7 y8)) ∧ (∀ y0 y1 y2 y3 y4 y5 y6 y7 y8, LeO (spec_Patch.l1 k y0 y1 y2 y3 y4 y5 y6 y7 y8) (spec_Patch.l1 (k + 1) y0 y1 y2 y3 y4 y5 y6 y7 y8))
 | 0 => ⟨fun _ _ _ _ r h => by simp [spec_Patch.j0] at h, fun _ _ _ _ r h => by simp [spec_Patch.l0] at h, fun _ _ _ _ _ _ _ _ _ r h => by simp [spec_Patch.j2] at h, fun _ _ _ _ _ _ _ _ _ r h => by simp [spec_Patch.l1] at h⟩
 | k + 1 => by
  obtain ⟨ih0, ih1, ih2, ih3⟩ := spec_Patch.mono_l k
  refine ⟨?_, ?_, ?_, ?_⟩
  ·intro y0 y1 y2 y3
   unfold spec_Patch.j0
   repeat' first | (with_reducible first | exact ih0 _ _ _ _ | exact ih1 _ _ _ _ | exact ih2 _ _ _ _ _ _ _ _ _ | exact ih3 _ _ _ _ _ _ _ _ _ | exact spec_l05Blocks.mono _ _ _ | exact LeO.refl _ | exact LeO.none _ | refine LeO.ite ?_ ?_ | refine LeO.bind ?_ (fun _ => ?_)) | exact ih0 _ _ _ _ | exact ih1 _ _ _ _ | exact ih2 _ _ _ _ _ _ _ _ _ | exact ih3 _ _ _ _ _ _ _ _ _ | exact spec_l05Blocks.mono _ _ _ | exact LeO.none _ | refine LeO.ite ?_ ?_ | refine LeO.bind ?_ (fun _ => ?_)
  ·intro y0 y1 y2 y3
   unfold spec_Patch.l0
   repeat' first | (with_reducible first | exact ih0 _ _ _ _ | exact ih1 _ _ _ _ | exact ih2 _ _ _ _ _ _ _ _ _ | exact ih3 _ _ _ _ _ _ _ _ _ | exact spec_l05Blocks.mono _ _ _ | exact LeO.refl _ | exact LeO.none _ | refine LeO.ite ?_ ?_ | refine LeO.bind ?_ (fun _ => ?_)) | exact ih0 _ _ _ _ | exact ih1 _ _ _ _ | exact ih2 _ _ _ _ _ _ _ _ _ | exact ih3 _ _ _ _ _ _ _ _ _ | exact spec_l05Blocks.mono _ _ _ | exact LeO.none _ | refine LeO.ite ?_ ?_ | refine LeO.bind ?_ (fun _ => ?_)
  ·intro y0 y1 y2 y3 y4 y5 y6 y7 y8
   unfold spec_Patch.j2
   repeat' first | (with_reducible first | exact ih0 _ _ _ _ | exact ih1 _ _ _ _ | exact ih2 _ _ _ _ _ _ _ _ _ | exact ih3 _ _ _ _ _ _ _ _ _ | exact spec_l05Blocks.mono _ _ _ | exact LeO.refl _ | exact LeO.none _ | refine LeO.ite ?_ ?_ | refine LeO.bind ?_ (fun _ => ?_)) | exact ih0 _ _ _ _ | exact ih1 _ _ _ _ | exact ih2 _ _ _ _ _ _ _ _ _ | exact ih3 _ _ _ _ _ _ _ _ _ | exact spec_l05Blocks.mono _ _ _ | exact LeO.none _ | refine LeO.ite ?_ ?_ | refine LeO.bind ?_ (fun _ => ?_)
  ·intro y0 y1 y2 y3 y4 y5 y6 y7 y8
   unfold spec_Patch.l1
   repeat' first | (with_reducible first | exact ih0 _ _ _ _ | exact ih1 _ _ _ _ | exact ih2 _ _ _ _ _ _ _ _ _ | exact ih3 _ _ _ _ _ _ _ _ _ | exact spec_l05Blocks.mono _ _ _ | exact LeO.refl _ | exact LeO.none _ | refine LeO.ite ?_ ?_ | refine LeO.bind ?_ (fun _ => ?_)) | exact ih0 _ _ _ _ | exact ih1 _ _ _ _ | exact ih2 _ _ _ _ _ _ _ _ _ | exact ih3 _ _ _ _ _ _ _ _ _ | exact spec_l05Blocks.mono _ _ _ | exact LeO.none _ | refine LeO.ite ?_ ?_ | refine LeO.bind ?_ (fun _ => ?_)
theorem spec_Patch.mono : ∀ a0 a1 a2 k, LeO (spec_Patch.f k a0 a1 a2) (spec_Patch.f (k + 1) a0 a1 a2) := by
 intro a0 a1 a2 k
 obtain ⟨ih0, ih1, ih2, ih3⟩ := spec_Patch.mono_l k
 unfold spec_Patch.f
 repeat' first | (with_reducible first | exact ih0 _ _ _ _ | exact ih1 _ _ _ _ | exact ih2 _ _ _ _ _ _ _ _ _ | exact ih3 _ _ _ _ _ _ _ _ _ | exact spec_l05Blocks.mono _ _ _ | exact LeO.refl _ | exact LeO.none _ | refine LeO.ite ?_ ?_ | refine LeO.bind ?_ (fun _ => ?_)) | exact ih0 _ _ _ _ | exact ih1 _ _ _ _ | exact ih2 _ _ _ _ _ _ _ _ _ | exact ih3 _ _ _ _ _ _ _ _ _ | exact spec_l05Blocks.mono _ _ _ | exact LeO.none _ | refine LeO.ite ?_ ?_ | refine LeO.bind ?_ (fun _ => ?_)
set_option maxHeartbeats 8000000 in
set_option maxRecDepth 100000 in
theorem spec_Patch.calls (k : Nat) (a0 : ByteArray) (a1 : Int) (A2 : Option Addr) (c2 : Nat) (l2 : List (S148)) (r1 : ByteArray) (r2 : Bool) (w : World) (hr2 : Kd.C k148 w A2 l2.length l2) (hc2 : l2.length ≤ c2) (h : spec_Patch.f k a0 a1 l2 = some (r1, r2)) :
  Calls Tryd.prog 87 #[.string a0, .int .i64 a1, .slice A2 l2.length c2] w fun e w' => e = .returned (.tuple #[.string r1, .bool r2]) ∧ Below w.heap.size w w' := by
 have hu148 := Tryd.underlying148
 have HR2 := Aside0.mk hr2
 have HC2 := Aside0.mk hc2
 clear hr2 hc2
 have HB := Aside0.mk (Below.refl w.heap.size w)
 have H : ((spec_l01In.f a1 1 256).bind fun t206 => (if t206 = true then (if (a0.size : Int) > 20000 then (spec_Patch.j0 k a0 a1 l2 true) else (spec_Patch.j0 k a0 a1 l2 (decide ((l2.length : Int) > 20000)))) else (spec_Patch.j0 k a0 a1 l2 true))) = some (r1, r2) := h
 clear h
 have HC4 := Aside0.mk H
 clear H
 go_enter Tryd.func87, Tryd.ntmps87
 go_upto_region 1 with (fail)
 go_cut [25] (fun v25 wc => ∃ (kq : Nat) (x25_3 : Bool), v25 = .bool x25_3 ∧ Aside0 (spec_Patch.j0 kq a0 a1 l2 x25_3 = some (r1, r2)) ∧ Aside0 (kq ≤ k) ∧ Aside0 (Below w.heap.size w wc))
 case first =>
  have H := HC4.out
  clear HC4
  replace H := Option.bind_eq_some_iff.mp H
  obtain ⟨t206, A50, H⟩ := H
  try dsimp -simprocs only at H
  have A5 := Aside0.mk A50
  clear A50
  by_cases c6 : t206 = true
  ·subst c6
   have H1 : (if (a0.size : Int) > 20000 then (spec_Patch.j0 k a0 a1 l2 true) else (spec_Patch.j0 k a0 a1 l2 (decide ((l2.length : Int) > 20000)))) = some (r1, r2) := by rw [if_pos rfl] at H; exact H
   clear H
   have H := H1
   clear H1
   by_cases c7 : (a0.size : Int) > 20000
   ·rw [if_pos c7] at H
    have c7b0 : decide (20000 < (a0.size : Int)) = true := decide_eq_true c7
    have c7b1 : decide (20000 < a0.size) = true := decide_eq_true (by omega)
    clear c7
    (first | rw [c7b0] | (simp only [i64_w, i32_w]; rw [c7b0]) | skip)
    have H' := Aside0.mk H
    clear H
    go_wp2_with (first | ((with_reducible refine gate_callee (f := 73) rfl ?_); refine goesL_ (some 14) rfl rfl Tryd.func73 (by kernel_rfl) rfl #[.int .i64 a1, .int .i64 1, .int .i64 256] rfl mt ?_; (with_reducible refine (spec_l01In.calls a1 1 256 true _ A5.out).mono ?_); rintro e w' ⟨rfl, ⟨nd, rfl⟩⟩; refine ⟨_, rfl, ?_⟩))
    go_meet
    case rel => exact ⟨_, (true), sd, H', ⟨ob⟩, ⟨bz⟩⟩
   ·rw [if_neg c7] at H
    have c7b0 : decide (20000 < (a0.size : Int)) = false := decide_eq_false c7
    have c7b1 : decide (20000 < a0.size) = false := decide_eq_false (by omega)
    clear c7
    (first | rw [c7b0] | (simp only [i64_w, i32_w]; rw [c7b0]) | skip)
    have H' := Aside0.mk H
    clear H
    go_wp2_with (first | ((with_reducible refine gate_callee (f := 73) rfl ?_); refine goesL_ (some 14) rfl rfl Tryd.func73 (by kernel_rfl) rfl #[.int .i64 a1, .int .i64 1, .int .i64 256] rfl mt ?_; (with_reducible refine (spec_l01In.calls a1 1 256 true _ A5.out).mono ?_); rintro e w' ⟨rfl, ⟨nd, rfl⟩⟩; refine ⟨_, rfl, ?_⟩))
    go_meet
    case rel => exact ⟨_, (decide ((l2.length : Int) > 20000)), sd, H', ⟨ob⟩, ⟨bz⟩⟩
  ·replace c6 := Bool.eq_false_iff.mpr c6
   subst c6
   have H1 : (spec_Patch.j0 k a0 a1 l2 true) = some (r1, r2) := by rw [if_neg (show ¬ (false = true) by decide)] at H; exact H
   clear H
   have H := H1
   clear H1
   have H' := Aside0.mk H
   clear H
   go_wp2_with (first | ((with_reducible refine gate_callee (f := 73) rfl ?_); refine goesL_ (some 14) rfl rfl Tryd.func73 (by kernel_rfl) rfl #[.int .i64 a1, .int .i64 1, .int .i64 256] rfl mt ?_; (with_reducible refine (spec_l01In.calls a1 1 256 false _ A5.out).mono ?_); rintro e w' ⟨rfl, ⟨nd, rfl⟩⟩; refine ⟨_, rfl, ?_⟩))
   go_meet
   case rel => exact ⟨_, (true), sd, H', ⟨ob⟩, ⟨bz⟩⟩
 case rest =>
  clear HC4
  try clear c2
  try clear p2
  try clear c6
  try clear c7
  try clear c7b0
  try clear c7b1
  obtain ⟨kq, x25_3, rfl, HA, HJ3, HB⟩ := hcut
  cases kq with
  | zero => exact absurd HA.out (by simp [spec_Patch.j0])
  | succ kj3 =>
   have H := HA.out
   clear HA
   simp only [spec_Patch.j0] at H
   by_cases c8 : x25_3 = true
   ·subst c8
    have H1 : (some ((⟨#[]⟩ : ByteArray), false)) = some (r1, r2) := by rw [if_pos rfl] at H; exact H
    clear H
    have H := H1
    clear H1
    simp only [Option.some.injEq, Prod.mk.injEq] at H
    obtain ⟨rfl, rfl⟩ := H
    go_wp2
    go_ret2
    exact ⟨rq, bz⟩
   ·replace c8 := Bool.eq_false_iff.mpr c8
    subst c8
    have H1 : ((spec_l05Blocks.f kj3 a0 a1).bind fun t207 => (spec_Patch.l0 kj3 l2 t207 (([] : List Int)) 0)) = some (r1, r2) := by rw [if_neg (show ¬ (false = true) by decide)] at H; exact H
    clear H
    have H := H1
    clear H1
    replace H := Option.bind_eq_some_iff.mp H
    obtain ⟨t207, A90, H⟩ := H
    try dsimp -simprocs only at H
    have A9 := Aside0.mk A90
    clear A90
    obtain ⟨y210, hy210⟩ : ∃ y_ : List Int, y_ = (([] : List Int)) := ⟨_, rfl⟩
    replace H : (spec_Patch.l0 kj3 l2 t207 y210 0) = some (r1, r2) := by first | (rw [hy210]; with_reducible exact H) | (have H2_ := (Option.bind_some _ _).symm.trans H; rw [hy210]; with_reducible exact H2_) | (have H2_ := (Option.bind_some _ _).symm.trans H; with_reducible exact H2_) | with_reducible exact H | (rw [hy210]; exact H) | exact H
    have Ny210 := Aside0.mk hy210
    clear hy210
    have H' := Aside0.mk H
    clear H
    go_wp2_with (first | ((with_reducible refine gate_callee (f := 74) rfl ?_); refine goesL_ (some 28) rfl rfl Tryd.func74 (by kernel_rfl) rfl #[.string a0, .int .i64 a1] rfl mt ?_; (with_reducible refine (spec_l05Blocks.calls kj3 a0 a1 t207 _ A9.out).mono ?_); rintro e w10 ⟨v208, rfl, ho0, hb⟩; refine ⟨_, rfl, ?_⟩; have n0_ := Aside0.mk (Kd.R_lower ho0 (below_size bz)); have n1_ := Aside0.mk (below_step bz hb); clear HB; have HO209 := n0_; have HB := n1_; clear n0_ n1_; (try clear hb); (try clear hb2); (try clear hk); (try clear hi); (try clear ho0)) | ((with_reducible refine gate_dst (N := 29) rfl ?_); (try (refine gate_guard (by rfl) ?_; dsimp only)); refine Kd.R_lit (Kd.int .u8) _ 5 ?hg (N := 29) ?hd (xs := ([] : List Int)) (inner := []) (ok := fun _ => True) (okp := fun _ => True) ?hr ?hp (fun _ hk => hk) trivial (Below.refl _ _) (Nat.le_refl _) (by simp) ?_; (case hd => rfl); (case hg => rfl); (case hr => first | (go_simp; done) | (go_simp; rfl)); (case hp => exact (Reps.none _ _)); intro v211 w11 ho12 hb hg_ hnew_; clear hg_ hnew_; (first | rw [← Ny210.out] at ho12 | (simp only [Int.reduceToNat] at ho12; rw [← Ny210.out] at ho12)); have n0_ := Aside0.mk (Kd.R_below (by refine rs ?_; exact HO209.out) hb); have n1_ := Aside0.mk (Kd.R_lower ho12 (below_size bz)); have n2_ := Aside0.mk (below_step bz hb); clear HO209; clear HB; have HO209 := n0_; have HO212 := n1_; have HB := n2_; clear n0_ n1_ n2_; clear hb ho12))
    go_loopg [9, 10] kj3 (fun kq v9 v10 w' => ∃ (x9_2 : List Int) (x10_2 : Int), v10 = .int .i64 x10_2 ∧ Aside0 (spec_Patch.l0 kq l2 t207 x9_2 x10_2 = some (r1, r2)) ∧ Aside0 (kq ≤ kj3) ∧ Aside0 (Kd.R Kd.string 9 w' w.heap.size (fun _ => True) v208 t207) ∧ Aside0 (Kd.R (Kd.int .u8) 5 w' w.heap.size (fun _ => True) v9 x9_2) ∧ Aside0 (Below w.heap.size w w'))
    case atStart => exact ⟨(y210), (0), sd, H', ⟨Nat.le_refl _⟩, ⟨by refine rs ?_; exact HO209.out⟩, ⟨by refine rs ?_; exact HO212.out⟩, ⟨bz⟩⟩
    case round =>
     clear H'
     try clear c2
     try clear p2
     try clear c6
     try clear c7
     try clear c7b0
     try clear c7b1
     try clear c8
     try clear p2
     obtain ⟨x9_2, x10_2, rfl, HA, HK2, HO_8, HO_9, HB⟩ := hrel
     cases gk with
     | zero => exact absurd HA.out (by simp [spec_Patch.l0])
     | succ k2 =>
      have H := HA.out
      clear HA
      simp only [spec_Patch.l0] at H
      by_cases c13 : x10_2 < (l2.length : Int)
      ·rw [if_pos c13] at H
       have c13b0 : decide (x10_2 < (l2.length : Int)) = true := decide_eq_true c13
       clear c13
       by_cases c14 : 0 ≤ x10_2
       ·rw [if_pos c14] at H
        have c14b0 : decide (0 ≤ x10_2) = true := decide_eq_true c14
        clear c14
        have HC15 := Aside0.mk H
        clear H
        have p213 : 0 ≤ (x10_2 : Int) := of_decide_eq_true am
        have q213 : x10_2 < (l2.length : Int) := of_decide_eq_true am
        obtain ⟨ad213, e213, hx213_0, hx213_1, hx213_2, hx213_3⟩ := at_T148 HR2.out x10_2 p213 q213
        cases e213
        replace hx213_0 := (HB.out.cell (World.block_lt_of_cell? w _ hx213_0)).trans hx213_0
        replace hx213_1 := (HB.out.cell (World.block_lt_of_cell? w _ hx213_1)).trans hx213_1
        replace hx213_2 := (HB.out.cell (World.block_lt_of_cell? w _ hx213_2)).trans hx213_2
        replace hx213_3 := (HB.out.cell (World.block_lt_of_cell? w _ hx213_3)).trans hx213_3
        replace p213 := eq_true p213
        replace q213 := eq_true q213
        go_upto_region 9 with (first | ((with_reducible refine gate_dst (N := 11) rfl ?_); (try (refine gate_guard (by rfl) ?_; dsimp only)); refine box_event ?hg (N := 11) ?hd (cs := #[.int .i64 0, .string (⟨#[]⟩ : ByteArray), .int .i64 0, .int .i64 0]) (t := 148) ?hr ?_; (case hd => rfl); (case hg => rfl); (case hr => first | (go_simp; done) | (go_simp; rfl)); intro gb214 hg w16 hbox hb; have n0_ := Aside0.mk (Kd.R_below (by refine rs ?_; exact HO_8.out) hb); have n1_ := Aside0.mk (Kd.R_below (by refine rs ?_; exact HO_9.out) hb); have n2_ := Aside0.mk (below_step bz hb); have n3_ := Aside0.mk (hbox); have n4_ := Aside0.mk (bg : w.heap.size ≤ gb214); have n5_ := Aside0.mk (bg : w.heap.size ≤ gb214); clear HO_8; clear HO_9; clear HB; have HO_8 := n0_; have HO_9 := n1_; have HB := n2_; have BK214 := n3_; have GW214 := n4_; have GE214 := n5_; clear n0_ n1_ n2_ n3_ n4_ n5_; clear hb hbox hg; obtain ⟨hcz17_0, hcz17_1, hcz17_2, hcz17_3, hfz17_0, hfz17_1, hfz17_2, hfz17_3⟩ := bc4 BK214.out))
        (try simp only [Act.put, List.setIfInBounds_toArray, List.set_cons_zero, List.set_cons_succ])
        go_cut [64] (fun v64 wc => ∃ (kq : Nat) (x64_14 : Bool), v64 = .bool x64_14 ∧ Aside0 (spec_Patch.j2 kq l2 t207 x9_2 x10_2 x64_14 ((rd_T148 l2 x10_2).f0) ((rd_T148 l2 x10_2).f1) ((rd_T148 l2 x10_2).f2) ((rd_T148 l2 x10_2).f3) = some (r1, r2)) ∧ Aside0 (kq ≤ k2) ∧ Aside0 (Kd.R Kd.string 9 wc w.heap.size (fun _ => True) v208 t207) ∧ Aside0 (Kd.R (Kd.int .u8) 5 wc w.heap.size (fun _ => True) u9 x9_2) ∧ Aside0 (wc.heap[gb214]? = some (.cells #[.int .i64 ((rd_T148 l2 x10_2).f0), .string ((rd_T148 l2 x10_2).f1), .int .i64 ((rd_T148 l2 x10_2).f2), .int .i64 ((rd_T148 l2 x10_2).f3)] 148 (0, 0))) ∧ Aside0 (Below w.heap.size w wc))
        case first =>
         have H := HC15.out
         clear HC15
         replace H := Option.bind_eq_some_iff.mp H
         obtain ⟨t215, A180, H⟩ := H
         try dsimp -simprocs only at H
         have A18 := Aside0.mk A180
         clear A180
         by_cases c19 : t215 = true
         ·subst c19
          have H1 : (if ((rd_T148 l2 x10_2).f0) = 1 then (if ((rd_T148 l2 x10_2).f2) > (t207.length : Int) then (spec_Patch.j2 k2 l2 t207 x9_2 x10_2 true ((rd_T148 l2 x10_2).f0) ((rd_T148 l2 x10_2).f1) ((rd_T148 l2 x10_2).f2) ((rd_T148 l2 x10_2).f3)) else (spec_Patch.j2 k2 l2 t207 x9_2 x10_2 (decide (((rd_T148 l2 x10_2).f3) > (wrap64 ((t207.length : Int) - ((rd_T148 l2 x10_2).f2))))) ((rd_T148 l2 x10_2).f0) ((rd_T148 l2 x10_2).f1) ((rd_T148 l2 x10_2).f2) ((rd_T148 l2 x10_2).f3))) else (spec_Patch.j2 k2 l2 t207 x9_2 x10_2 false ((rd_T148 l2 x10_2).f0) ((rd_T148 l2 x10_2).f1) ((rd_T148 l2 x10_2).f2) ((rd_T148 l2 x10_2).f3))) = some (r1, r2) := by rw [if_pos rfl] at H; exact H
          clear H
          have H := H1
          clear H1
          by_cases c20 : ((rd_T148 l2 x10_2).f0) = 1
          ·rw [if_pos c20] at H
           have c20b0 : (((rd_T148 l2 x10_2).f0) == 1) = true := beq_iff_eq.mpr c20
           have c20b1 : (((rd_T148 l2 x10_2).f0) != 1) = false := bne_eq_false_iff_eq.mpr c20
           clear c20
           (first | rw [c20b0] | (simp only [i64_w, i32_w]; rw [c20b0]) | skip)
           by_cases c21 : ((rd_T148 l2 x10_2).f2) > (t207.length : Int)
           ·rw [if_pos c21] at H
            have c21b0 : decide ((t207.length : Int) < ((rd_T148 l2 x10_2).f2)) = true := decide_eq_true c21
            clear c21
            have H' := Aside0.mk H
            clear H
            obtain ⟨hcz22_0, hcz22_1, hcz22_2, hcz22_3, hfz22_0, hfz22_1, hfz22_2, hfz22_3⟩ := bc4 BK214.out
            go_wp2_with (first | ((with_reducible refine gate_callee (f := 122) rfl ?_); refine goesL_ (some 41) rfl rfl Tryd.func122 (by kernel_rfl) rfl #[.agg #[.int .i64 ((rd_T148 l2 x10_2).f0), .string ((rd_T148 l2 x10_2).f1), .int .i64 ((rd_T148 l2 x10_2).f2), .int .i64 ((rd_T148 l2 x10_2).f3)]] rfl mt ?_; (with_reducible refine (spec_TokenOk.calls ((rd_T148 l2 x10_2).f0) ((rd_T148 l2 x10_2).f1) ((rd_T148 l2 x10_2).f2) ((rd_T148 l2 x10_2).f3) true _ A18.out).mono ?_); rintro e w23 ⟨rfl, hb⟩; refine ⟨_, rfl, ?_⟩; have n0_ := Aside0.mk (Kd.R_below (by refine rs ?_; exact (Kd.R_mono (Kd.rf (Kd.rf (Kd.rf (Kd.rf (Kd.R_types HO_8.out BK214.out (by decide)))))) (fun _ h_ => h_.1))) hb); have n1_ := Aside0.mk (Kd.R_below (by refine rs ?_; exact (Kd.R_mono (Kd.rf (Kd.rf (Kd.rf (Kd.rf (Kd.R_types HO_9.out BK214.out (by decide)))))) (fun _ h_ => h_.1))) hb); have n2_ := Aside0.mk (blk_below (g := gb214) (o := .cells #[.int .i64 ((rd_T148 l2 x10_2).f0), .string ((rd_T148 l2 x10_2).f1), .int .i64 ((rd_T148 l2 x10_2).f2), .int .i64 ((rd_T148 l2 x10_2).f3)] 148 (0, 0)) bk hb); have n3_ := Aside0.mk (below_step bz hb); clear HO_8; clear HO_9; clear BK214; clear HB; have HO_8 := n0_; have HO_9 := n1_; have BK214 := n2_; have HB := n3_; clear n0_ n1_ n2_ n3_; (try clear hb); (try clear hb2); (try clear hk); (try clear hi); obtain ⟨hcz24_0, hcz24_1, hcz24_2, hcz24_3, hfz24_0, hfz24_1, hfz24_2, hfz24_3⟩ := bc4 BK214.out; obtain ⟨Ao25, co25, eo25⟩ := Kd.R_slice HO_8.out; subst eo25))
            go_meet
            case rel => exact ⟨_, (true), sd, H', ⟨by have := HJ3.out; have := HK2.out; first | omega | exact Nat.le_refl _⟩, ⟨by refine rs ?_; exact HO_8.out⟩, ⟨by refine rs ?_; exact HO_9.out⟩, ⟨(bo BK214)⟩, ⟨bz⟩⟩
           ·rw [if_neg c21] at H
            have c21b0 : decide ((t207.length : Int) < ((rd_T148 l2 x10_2).f2)) = false := decide_eq_false c21
            clear c21
            have H' := Aside0.mk H
            clear H
            obtain ⟨hcz26_0, hcz26_1, hcz26_2, hcz26_3, hfz26_0, hfz26_1, hfz26_2, hfz26_3⟩ := bc4 BK214.out
            go_wp2_with (first | ((with_reducible refine gate_callee (f := 122) rfl ?_); refine goesL_ (some 41) rfl rfl Tryd.func122 (by kernel_rfl) rfl #[.agg #[.int .i64 ((rd_T148 l2 x10_2).f0), .string ((rd_T148 l2 x10_2).f1), .int .i64 ((rd_T148 l2 x10_2).f2), .int .i64 ((rd_T148 l2 x10_2).f3)]] rfl mt ?_; (with_reducible refine (spec_TokenOk.calls ((rd_T148 l2 x10_2).f0) ((rd_T148 l2 x10_2).f1) ((rd_T148 l2 x10_2).f2) ((rd_T148 l2 x10_2).f3) true _ A18.out).mono ?_); rintro e w27 ⟨rfl, hb⟩; refine ⟨_, rfl, ?_⟩; have n0_ := Aside0.mk (Kd.R_below (by refine rs ?_; exact (Kd.R_mono (Kd.rf (Kd.rf (Kd.rf (Kd.rf (Kd.R_types HO_8.out BK214.out (by decide)))))) (fun _ h_ => h_.1))) hb); have n1_ := Aside0.mk (Kd.R_below (by refine rs ?_; exact (Kd.R_mono (Kd.rf (Kd.rf (Kd.rf (Kd.rf (Kd.R_types HO_9.out BK214.out (by decide)))))) (fun _ h_ => h_.1))) hb); have n2_ := Aside0.mk (blk_below (g := gb214) (o := .cells #[.int .i64 ((rd_T148 l2 x10_2).f0), .string ((rd_T148 l2 x10_2).f1), .int .i64 ((rd_T148 l2 x10_2).f2), .int .i64 ((rd_T148 l2 x10_2).f3)] 148 (0, 0)) bk hb); have n3_ := Aside0.mk (below_step bz hb); clear HO_8; clear HO_9; clear BK214; clear HB; have HO_8 := n0_; have HO_9 := n1_; have BK214 := n2_; have HB := n3_; clear n0_ n1_ n2_ n3_; (try clear hb); (try clear hb2); (try clear hk); (try clear hi); obtain ⟨hcz28_0, hcz28_1, hcz28_2, hcz28_3, hfz28_0, hfz28_1, hfz28_2, hfz28_3⟩ := bc4 BK214.out; obtain ⟨Ao29, co29, eo29⟩ := Kd.R_slice HO_8.out; subst eo29))
            go_meet
            case rel => exact ⟨_, (decide (((rd_T148 l2 x10_2).f3) > (wrap64 ((t207.length : Int) - ((rd_T148 l2 x10_2).f2))))), sd, H', ⟨by have := HJ3.out; have := HK2.out; first | omega | exact Nat.le_refl _⟩, ⟨by refine rs ?_; exact HO_8.out⟩, ⟨by refine rs ?_; exact HO_9.out⟩, ⟨(bo BK214)⟩, ⟨bz⟩⟩
          ·rw [if_neg c20] at H
           have c20b0 : (((rd_T148 l2 x10_2).f0) == 1) = false := beq_eq_false_iff_ne.mpr c20
           have c20b1 : (((rd_T148 l2 x10_2).f0) != 1) = true := bne_iff_ne.mpr c20
           (first | rw [c20b0] | (simp only [i64_w, i32_w]; rw [c20b0]) | skip)
           have H' := Aside0.mk H
           clear H
           obtain ⟨hcz30_0, hcz30_1, hcz30_2, hcz30_3, hfz30_0, hfz30_1, hfz30_2, hfz30_3⟩ := bc4 BK214.out
           go_wp2_with (first | ((with_reducible refine gate_callee (f := 122) rfl ?_); refine goesL_ (some 41) rfl rfl Tryd.func122 (by kernel_rfl) rfl #[.agg #[.int .i64 ((rd_T148 l2 x10_2).f0), .string ((rd_T148 l2 x10_2).f1), .int .i64 ((rd_T148 l2 x10_2).f2), .int .i64 ((rd_T148 l2 x10_2).f3)]] rfl mt ?_; (with_reducible refine (spec_TokenOk.calls ((rd_T148 l2 x10_2).f0) ((rd_T148 l2 x10_2).f1) ((rd_T148 l2 x10_2).f2) ((rd_T148 l2 x10_2).f3) true _ A18.out).mono ?_); rintro e w31 ⟨rfl, hb⟩; refine ⟨_, rfl, ?_⟩; have n0_ := Aside0.mk (Kd.R_below (by refine rs ?_; exact (Kd.R_mono (Kd.rf (Kd.rf (Kd.rf (Kd.rf (Kd.R_types HO_8.out BK214.out (by decide)))))) (fun _ h_ => h_.1))) hb); have n1_ := Aside0.mk (Kd.R_below (by refine rs ?_; exact (Kd.R_mono (Kd.rf (Kd.rf (Kd.rf (Kd.rf (Kd.R_types HO_9.out BK214.out (by decide)))))) (fun _ h_ => h_.1))) hb); have n2_ := Aside0.mk (blk_below (g := gb214) (o := .cells #[.int .i64 ((rd_T148 l2 x10_2).f0), .string ((rd_T148 l2 x10_2).f1), .int .i64 ((rd_T148 l2 x10_2).f2), .int .i64 ((rd_T148 l2 x10_2).f3)] 148 (0, 0)) bk hb); have n3_ := Aside0.mk (below_step bz hb); clear HO_8; clear HO_9; clear BK214; clear HB; have HO_8 := n0_; have HO_9 := n1_; have BK214 := n2_; have HB := n3_; clear n0_ n1_ n2_ n3_; (try clear hb); (try clear hb2); (try clear hk); (try clear hi); obtain ⟨hcz32_0, hcz32_1, hcz32_2, hcz32_3, hfz32_0, hfz32_1, hfz32_2, hfz32_3⟩ := bc4 BK214.out))
           go_meet
           case rel => exact ⟨_, (false), sd, H', ⟨by have := HJ3.out; have := HK2.out; first | omega | exact Nat.le_refl _⟩, ⟨by refine rs ?_; exact HO_8.out⟩, ⟨by refine rs ?_; exact HO_9.out⟩, ⟨(bo BK214)⟩, ⟨bz⟩⟩
         ·replace c19 := Bool.eq_false_iff.mpr c19
          subst c19
          have H1 : (spec_Patch.j2 k2 l2 t207 x9_2 x10_2 true ((rd_T148 l2 x10_2).f0) ((rd_T148 l2 x10_2).f1) ((rd_T148 l2 x10_2).f2) ((rd_T148 l2 x10_2).f3)) = some (r1, r2) := by rw [if_neg (show ¬ (false = true) by decide)] at H; exact H
          clear H
          have H := H1
          clear H1
          have H' := Aside0.mk H
          clear H
          obtain ⟨hcz33_0, hcz33_1, hcz33_2, hcz33_3, hfz33_0, hfz33_1, hfz33_2, hfz33_3⟩ := bc4 BK214.out
          go_wp2_with (first | ((with_reducible refine gate_callee (f := 122) rfl ?_); refine goesL_ (some 41) rfl rfl Tryd.func122 (by kernel_rfl) rfl #[.agg #[.int .i64 ((rd_T148 l2 x10_2).f0), .string ((rd_T148 l2 x10_2).f1), .int .i64 ((rd_T148 l2 x10_2).f2), .int .i64 ((rd_T148 l2 x10_2).f3)]] rfl mt ?_; (with_reducible refine (spec_TokenOk.calls ((rd_T148 l2 x10_2).f0) ((rd_T148 l2 x10_2).f1) ((rd_T148 l2 x10_2).f2) ((rd_T148 l2 x10_2).f3) false _ A18.out).mono ?_); rintro e w34 ⟨rfl, hb⟩; refine ⟨_, rfl, ?_⟩; have n0_ := Aside0.mk (Kd.R_below (by refine rs ?_; exact (Kd.R_mono (Kd.rf (Kd.rf (Kd.rf (Kd.rf (Kd.R_types HO_8.out BK214.out (by decide)))))) (fun _ h_ => h_.1))) hb); have n1_ := Aside0.mk (Kd.R_below (by refine rs ?_; exact (Kd.R_mono (Kd.rf (Kd.rf (Kd.rf (Kd.rf (Kd.R_types HO_9.out BK214.out (by decide)))))) (fun _ h_ => h_.1))) hb); have n2_ := Aside0.mk (blk_below (g := gb214) (o := .cells #[.int .i64 ((rd_T148 l2 x10_2).f0), .string ((rd_T148 l2 x10_2).f1), .int .i64 ((rd_T148 l2 x10_2).f2), .int .i64 ((rd_T148 l2 x10_2).f3)] 148 (0, 0)) bk hb); have n3_ := Aside0.mk (below_step bz hb); clear HO_8; clear HO_9; clear BK214; clear HB; have HO_8 := n0_; have HO_9 := n1_; have BK214 := n2_; have HB := n3_; clear n0_ n1_ n2_ n3_; (try clear hb); (try clear hb2); (try clear hk); (try clear hi)))
          go_meet
          case rel => exact ⟨_, (true), sd, H', ⟨by have := HJ3.out; have := HK2.out; first | omega | exact Nat.le_refl _⟩, ⟨by refine rs ?_; exact HO_8.out⟩, ⟨by refine rs ?_; exact HO_9.out⟩, ⟨(bo BK214)⟩, ⟨bz⟩⟩
        case rest =>
         clear HC15
         try clear c1
         try clear c2
         try clear p2
         try clear q2
         try clear hx2
         try clear c6
         try clear p6
         try clear c7
         try clear c7b0
         try clear c7b1
         try clear c8
         try clear c12
         try clear c13
         try clear c13b0
         try clear c14
         try clear c14b0
         try clear c19
         try clear c20
         try clear c20b0
         try clear c20b1
         try clear c21
         try clear c21b0
         try clear p21
         try clear q21
         try clear hx21
         try clear hcz17_0 hcz17_1 hcz17_2 hcz17_3 hfz17_0 hfz17_1 hfz17_2 hfz17_3
         try clear hcz22_0 hcz22_1 hcz22_2 hcz22_3 hfz22_0 hfz22_1 hfz22_2 hfz22_3
         try clear hcz24_0 hcz24_1 hcz24_2 hcz24_3 hfz24_0 hfz24_1 hfz24_2 hfz24_3
         try clear hcz26_0 hcz26_1 hcz26_2 hcz26_3 hfz26_0 hfz26_1 hfz26_2 hfz26_3
         try clear hcz28_0 hcz28_1 hcz28_2 hcz28_3 hfz28_0 hfz28_1 hfz28_2 hfz28_3
         try clear hcz30_0 hcz30_1 hcz30_2 hcz30_3 hfz30_0 hfz30_1 hfz30_2 hfz30_3
         try clear hcz32_0 hcz32_1 hcz32_2 hcz32_3 hfz32_0 hfz32_1 hfz32_2 hfz32_3
         try clear hcz33_0 hcz33_1 hcz33_2 hcz33_3 hfz33_0 hfz33_1 hfz33_2 hfz33_3
         try clear hx213_0
         try clear hx213_1
         try clear hx213_2
         try clear hx213_3
         try clear p2
         try clear p213
         try clear q213
         obtain ⟨kq, x64_14, rfl, HA, HJ14, HO_8, HO_9, BK214, HB⟩ := hcut
         cases kq with
         | zero => exact absurd HA.out (by simp [spec_Patch.j2])
         | succ kj14 =>
          have H := HA.out
          clear HA
          simp only [spec_Patch.j2] at H
          by_cases c35 : x64_14 = true
          ·subst c35
           have H1 : (some ((⟨#[]⟩ : ByteArray), false)) = some (r1, r2) := by rw [if_pos rfl] at H; exact H
           clear H
           have H := H1
           clear H1
           simp only [Option.some.injEq, Prod.mk.injEq] at H
           obtain ⟨rfl, rfl⟩ := H
           go_wp2
           go_ret2
           exact ⟨rq, bz⟩
          ·replace c35 := Bool.eq_false_iff.mpr c35
           subst c35
           have H1 : (if ((rd_T148 l2 x10_2).f1).size ≤ 9223372036854775807 then ((some (bytesOf ((rd_T148 l2 x10_2).f1) : List Int)).bind fun y216 => (if x9_2.length + y216.length < 140737488355328 then (spec_Patch.l1 kj14 l2 t207 (x9_2 ++ y216) x10_2 ((rd_T148 l2 x10_2).f2) ((rd_T148 l2 x10_2).f0) ((rd_T148 l2 x10_2).f1) ((rd_T148 l2 x10_2).f2) ((rd_T148 l2 x10_2).f3)) else (none))) else (none)) = some (r1, r2) := by rw [if_neg (show ¬ (false = true) by decide)] at H; exact H
           clear H
           have H := H1
           clear H1
           by_cases c36 : ((rd_T148 l2 x10_2).f1).size ≤ 9223372036854775807
           ·rw [if_pos c36] at H
            have c36b0 := eq_true c36
            have c36b1 : decide (((rd_T148 l2 x10_2).f1).size ≤ 9223372036854775807) = true := decide_eq_true c36
            try have c36b2 : (9223372036854775807 < ((rd_T148 l2 x10_2).f1).size) = False := eq_false (Nat.not_lt.2 c36)
            clear c36
            obtain ⟨y216, hy216⟩ : ∃ y_ : List Int, y_ = (bytesOf ((rd_T148 l2 x10_2).f1)) := ⟨_, rfl⟩
            replace H : (if x9_2.length + y216.length < 140737488355328 then (spec_Patch.l1 kj14 l2 t207 (x9_2 ++ y216) x10_2 ((rd_T148 l2 x10_2).f2) ((rd_T148 l2 x10_2).f0) ((rd_T148 l2 x10_2).f1) ((rd_T148 l2 x10_2).f2) ((rd_T148 l2 x10_2).f3)) else (none)) = some (r1, r2) := by first | (rw [hy216]; with_reducible exact H) | (have H2_ := (Option.bind_some _ _).symm.trans H; rw [hy216]; with_reducible exact H2_) | (have H2_ := (Option.bind_some _ _).symm.trans H; with_reducible exact H2_) | with_reducible exact H | (rw [hy216]; exact H) | exact H
            have Ny216 := Aside0.mk hy216
            clear hy216
            by_cases c37 : x9_2.length + y216.length < 140737488355328
            ·rw [if_pos c37] at H
             have LMc37 := Aside0.mk c37
             clear c37
             obtain ⟨y219, hy219⟩ : ∃ y_ : List Int, y_ = (x9_2 ++ y216) := ⟨_, rfl⟩
             replace H : (spec_Patch.l1 kj14 l2 t207 y219 x10_2 ((rd_T148 l2 x10_2).f2) ((rd_T148 l2 x10_2).f0) ((rd_T148 l2 x10_2).f1) ((rd_T148 l2 x10_2).f2) ((rd_T148 l2 x10_2).f3)) = some (r1, r2) := by first | (rw [hy219]; with_reducible exact H) | (have H2_ := (Option.bind_some _ _).symm.trans H; rw [hy219]; with_reducible exact H2_) | (have H2_ := (Option.bind_some _ _).symm.trans H; with_reducible exact H2_) | with_reducible exact H | (rw [hy219]; exact H) | exact H
             have Ny219 := Aside0.mk hy219
             clear hy219
             have H' := Aside0.mk H
             clear H
             obtain ⟨hcz38_0, hcz38_1, hcz38_2, hcz38_3, hfz38_0, hfz38_1, hfz38_2, hfz38_3⟩ := bc4 BK214.out
             go_wp2_with (first | ((with_reducible refine gate_dst (N := 68) rfl ?_); (try (refine gate_guard (by rfl) ?_; dsimp only)); refine Kd.V_conv _ 5 9 22 rfl (N := 68) rfl _ rfl ((rd_T148 l2 x10_2).f1) rfl Tryd.underlying9 Tryd.underlying22 Tryd.underlying5 od (Below.refl _ _) (Nat.le_refl _) ?_; intro v217 w39 ho40 hb hg_ hnew_; clear hg_ hnew_; (first | rw [← Ny216.out] at ho40 | (simp only [Int.reduceToNat] at ho40; rw [← Ny216.out] at ho40)); have n0_ := Aside0.mk (Kd.R_below (by refine rs ?_; exact HO_8.out) hb); have n1_ := Aside0.mk (Kd.R_below (by refine rs ?_; exact HO_9.out) hb); have n2_ := Aside0.mk (Kd.V_lower (Kd.V_mono (ok' := fun k_ => some k_ ≠ (v208 : Value).ownBlock ∧ some k_ ≠ (u9 : Value).ownBlock ∧ k_ ≠ gb214) ho40 (fun k_ hk_ => ⟨(Kd.fresh' (Kd.R_lt (by refine rs ?_; exact HO_8.out)) k_ hk_), (Kd.fresh' (Kd.R_lt (by refine rs ?_; exact HO_9.out)) k_ hk_), (Kd.freshB (g := gb214) (o := .cells #[.int .i64 ((rd_T148 l2 x10_2).f0), .string ((rd_T148 l2 x10_2).f1), .int .i64 ((rd_T148 l2 x10_2).f2), .int .i64 ((rd_T148 l2 x10_2).f3)] 148 (0, 0)) (bo BK214) k_ hk_)⟩)) (below_size bz)); have n3_ := Aside0.mk (blk_below (bo BK214) hb); have n4_ := Aside0.mk (below_step bz hb); clear HO_8; clear HO_9; clear BK214; clear HB; have HO_8 := n0_; have HO_9 := n1_; have HO218 := n2_; have BK214 := n3_; have HB := n4_; clear n0_ n1_ n2_ n3_ n4_; clear hb ho40; obtain ⟨Ao42, co42, eo42⟩ := Kd.V_slice HO218.out; subst eo42) | ((with_reducible refine gate_builtin (b := .append) (xs := #[.tmp 65, .tmp 68]) rfl ?_); (try (refine gate_guard (by rfl) ?_; dsimp only)); at_builtin; refine Kd.R_append_rows (Kd.int .u8) (w0 := w) w.heap.size rfl (.tmp 65) (.tmp 68) 22 5 (.int .u8 0) 1 rfl Tryd.underlying22 info5 rfl (by decide) (by omega) u9 x9_2 y216 _ _ _ (fun _ => True) (fun _ => False) rfl rfl ?aO ?aR (fun _ _ h => h) (fun _ h => h.elim) ?aF ?aB ?aS ?aL ?_; (case aR => repeat (first | exact (Kd.V_reads' HO218.out).2.2 | (with_reducible refine Kd.C_alloc ?_ _) | (with_reducible refine Kd.C_drewN ?_ _) | (with_reducible refine Kd.C_drew ?_))); (case aB => exact bz); (case aF => exact (fun _ _ => trivial)); (case aO => exact (by refine rs ?_; exact HO_9.out)); (case aS => exact (below_size bz)); (case aL => have := LMc37.out; omega); intro v220 w41 ho hb hg hat; rw [← Ny219.out] at ho; have n0_ := Aside0.mk (Kd.R_over' (by refine rs ?_; exact HO_8.out) (Kd.R_typed (by refine rs ?_; exact HO_9.out)) (by decide) hg); have n1_ := Aside0.mk (blk_grown (g := gb214) (o := .cells #[.int .i64 ((rd_T148 l2 x10_2).f0), .string ((rd_T148 l2 x10_2).f1), .int .i64 ((rd_T148 l2 x10_2).f2), .int .i64 ((rd_T148 l2 x10_2).f3)] 148 (0, 0)) (bo BK214) hg (Kd.R_ne HO_9.out BK214.out (by decide))); have n2_ := Aside0.mk (Kd.V_afterv (ok := (fun k_ => some k_ ≠ (v208 : Value).ownBlock ∧ k_ ≠ gb214)) (by refine vs ?_; exact Kd.V_mono HO218.out (fun _ hk => ⟨⟨hk.1, hk.2.2⟩, hk.2.1⟩)) hg hat); have n3_ := Aside0.mk (hb); have n4_ := Aside0.mk (ho); clear HO_8; clear BK214; clear HO218; clear HB; clear HO_9; have HO_8 := n0_; have BK214 := n1_; have HO218 := n2_; have HB := n3_; have HO221 := n4_; clear n0_ n1_ n2_ n3_ n4_; clear ho hb hg hat; obtain ⟨hcz43_0, hcz43_1, hcz43_2, hcz43_3, hfz43_0, hfz43_1, hfz43_2, hfz43_3⟩ := bc4 BK214.out))
             go_loopg [9, 12] kj14 (fun kq v9 v12 w' => ∃ (x9_4 : List Int) (x12_4 : Int), v12 = .int .i64 x12_4 ∧ Aside0 (spec_Patch.l1 kq l2 t207 x9_4 x10_2 x12_4 ((rd_T148 l2 x10_2).f0) ((rd_T148 l2 x10_2).f1) ((rd_T148 l2 x10_2).f2) ((rd_T148 l2 x10_2).f3) = some (r1, r2)) ∧ Aside0 (kq ≤ kj14) ∧ Aside0 (Kd.R Kd.string 9 w' w.heap.size (fun _ => True) v208 t207) ∧ Aside0 (Kd.R (Kd.int .u8) 5 w' w.heap.size (fun _ => True) v9 x9_4) ∧ Aside0 (w'.heap[gb214]? = some (.cells #[.int .i64 ((rd_T148 l2 x10_2).f0), .string ((rd_T148 l2 x10_2).f1), .int .i64 ((rd_T148 l2 x10_2).f2), .int .i64 ((rd_T148 l2 x10_2).f3)] 148 (0, 0))) ∧ Aside0 (Below w.heap.size w w'))
             case atStart => exact ⟨(y219), (((rd_T148 l2 x10_2).f2)), sd, H', ⟨Nat.le_refl _⟩, ⟨by refine rs ?_; exact HO_8.out⟩, ⟨by refine rs ?_; exact HO221.out⟩, ⟨(bo BK214)⟩, ⟨bz⟩⟩
             case round =>
              clear H'
              try clear c1
              try clear c2
              try clear p2
              try clear q2
              try clear hx2
              try clear c3
              try clear c6
              try clear p6
              try clear c7
              try clear c7b0
              try clear c7b1
              try clear c8
              try clear c12
              try clear c13
              try clear c13b0
              try clear c14
              try clear c14b0
              try clear c19
              try clear c20
              try clear c20b0
              try clear c20b1
              try clear c21
              try clear c21b0
              try clear p21
              try clear q21
              try clear hx21
              try clear c35
              try clear c36
              try clear c36b0
              try clear c36b1
              try clear c36b2
              try clear c37
              try clear hcz17_0 hcz17_1 hcz17_2 hcz17_3 hfz17_0 hfz17_1 hfz17_2 hfz17_3
              try clear hcz22_0 hcz22_1 hcz22_2 hcz22_3 hfz22_0 hfz22_1 hfz22_2 hfz22_3
              try clear hcz24_0 hcz24_1 hcz24_2 hcz24_3 hfz24_0 hfz24_1 hfz24_2 hfz24_3
              try clear hcz26_0 hcz26_1 hcz26_2 hcz26_3 hfz26_0 hfz26_1 hfz26_2 hfz26_3
              try clear hcz28_0 hcz28_1 hcz28_2 hcz28_3 hfz28_0 hfz28_1 hfz28_2 hfz28_3
              try clear hcz30_0 hcz30_1 hcz30_2 hcz30_3 hfz30_0 hfz30_1 hfz30_2 hfz30_3
              try clear hcz32_0 hcz32_1 hcz32_2 hcz32_3 hfz32_0 hfz32_1 hfz32_2 hfz32_3
              try clear hcz33_0 hcz33_1 hcz33_2 hcz33_3 hfz33_0 hfz33_1 hfz33_2 hfz33_3
              try clear hcz38_0 hcz38_1 hcz38_2 hcz38_3 hfz38_0 hfz38_1 hfz38_2 hfz38_3
              try clear hcz43_0 hcz43_1 hcz43_2 hcz43_3 hfz43_0 hfz43_1 hfz43_2 hfz43_3
              try clear hx213_0
              try clear hx213_1
              try clear hx213_2
              try clear hx213_3
              try clear p2
              try clear p21
              try clear p213
              try clear p6
              try clear q2
              try clear q21
              try clear q213
              obtain ⟨x9_4, x12_4, rfl, HA, HK4, HO_8, HO_9, BK214, HB⟩ := hrel
              cases gk with
              | zero => exact absurd HA.out (by simp [spec_Patch.l1])
              | succ k4 =>
               have H := HA.out
               clear HA
               simp only [spec_Patch.l1] at H
               by_cases c44 : x12_4 < (wrap64 (((rd_T148 l2 x10_2).f2) + ((rd_T148 l2 x10_2).f3)))
               ·rw [if_pos c44] at H
                have c44b0 : decide (x12_4 < (wrap64 (((rd_T148 l2 x10_2).f2) + ((rd_T148 l2 x10_2).f3)))) = true := decide_eq_true c44
                clear c44
                by_cases c45 : 0 ≤ x12_4
                ·rw [if_pos c45] at H
                 have c45b0 : decide (0 ≤ x12_4) = true := decide_eq_true c45
                 clear c45
                 by_cases c46 : x12_4 < (t207.length : Int)
                 ·rw [if_pos c46] at H
                  have c46b0 : decide (x12_4 < (t207.length : Int)) = true := decide_eq_true c46
                  clear c46
                  by_cases c47 : (rdOf ByteArray.empty t207 x12_4).size ≤ 9223372036854775807
                  ·rw [if_pos c47] at H
                   have c47b0 := eq_true c47
                   have c47b1 : decide ((rdOf ByteArray.empty t207 x12_4).size ≤ 9223372036854775807) = true := decide_eq_true c47
                   try have c47b2 : (9223372036854775807 < (rdOf ByteArray.empty t207 x12_4).size) = False := eq_false (Nat.not_lt.2 c47)
                   clear c47
                   obtain ⟨y223, hy223⟩ : ∃ y_ : List Int, y_ = (bytesOf (rdOf ByteArray.empty t207 x12_4)) := ⟨_, rfl⟩
                   replace H : (if x9_4.length + y223.length < 140737488355328 then (spec_Patch.l1 k4 l2 t207 (x9_4 ++ y223) x10_2 (wrap64 (x12_4 + 1)) ((rd_T148 l2 x10_2).f0) ((rd_T148 l2 x10_2).f1) ((rd_T148 l2 x10_2).f2) ((rd_T148 l2 x10_2).f3)) else (none)) = some (r1, r2) := by first | (rw [hy223]; with_reducible exact H) | (have H2_ := (Option.bind_some _ _).symm.trans H; rw [hy223]; with_reducible exact H2_) | (have H2_ := (Option.bind_some _ _).symm.trans H; with_reducible exact H2_) | with_reducible exact H | (rw [hy223]; exact H) | exact H
                   have Ny223 := Aside0.mk hy223
                   clear hy223
                   by_cases c48 : x9_4.length + y223.length < 140737488355328
                   ·rw [if_pos c48] at H
                    have LMc48 := Aside0.mk c48
                    clear c48
                    obtain ⟨y226, hy226⟩ : ∃ y_ : List Int, y_ = (x9_4 ++ y223) := ⟨_, rfl⟩
                    replace H : (spec_Patch.l1 k4 l2 t207 y226 x10_2 (wrap64 (x12_4 + 1)) ((rd_T148 l2 x10_2).f0) ((rd_T148 l2 x10_2).f1) ((rd_T148 l2 x10_2).f2) ((rd_T148 l2 x10_2).f3)) = some (r1, r2) := by first | (rw [hy226]; with_reducible exact H) | (have H2_ := (Option.bind_some _ _).symm.trans H; rw [hy226]; with_reducible exact H2_) | (have H2_ := (Option.bind_some _ _).symm.trans H; with_reducible exact H2_) | with_reducible exact H | (rw [hy226]; exact H) | exact H
                    have Ny226 := Aside0.mk hy226
                    clear hy226
                    have H' := Aside0.mk H
                    clear H
                    obtain ⟨hcz49_0, hcz49_1, hcz49_2, hcz49_3, hfz49_0, hfz49_1, hfz49_2, hfz49_3⟩ := bc4 BK214.out
                    obtain ⟨Ao50, co50, eo50⟩ := Kd.R_slice HO_8.out
                    subst eo50
                    have p222 : 0 ≤ (x12_4 : Int) := of_decide_eq_true am
                    have q222 : x12_4 < (t207.length : Int) := of_decide_eq_true am
                    obtain ⟨ad222, e222, hx222_0⟩ := Kd.at_string (Kd.R_reads' HO_8.out).2.2 x12_4 p222 q222
                    cases e222
                    replace p222 := eq_true p222
                    replace q222 := eq_true q222
                    go_wp2_with (first | ((with_reducible refine gate_dst (N := 86) rfl ?_); (try (refine gate_guard (by rfl) ?_; dsimp only)); refine Kd.V_conv _ 5 9 22 rfl (N := 86) rfl _ rfl (rdOf ByteArray.empty t207 x12_4) rfl Tryd.underlying9 Tryd.underlying22 Tryd.underlying5 od (Below.refl _ _) (Nat.le_refl _) ?_; intro v224 w51 ho52 hb hg_ hnew_; clear hg_ hnew_; (first | rw [← Ny223.out] at ho52 | (simp only [Int.reduceToNat] at ho52; rw [← Ny223.out] at ho52)); have n0_ := Aside0.mk (Kd.R_below (by refine rs ?_; exact HO_8.out) hb); have n1_ := Aside0.mk (Kd.R_below (by refine rs ?_; exact HO_9.out) hb); have n2_ := Aside0.mk (Kd.V_lower (Kd.V_mono (ok' := fun k_ => some k_ ≠ (.slice (some ad222) t207.length co50 : Value).ownBlock ∧ some k_ ≠ (u9 : Value).ownBlock ∧ k_ ≠ gb214) ho52 (fun k_ hk_ => ⟨(Kd.fresh' (Kd.R_lt (by refine rs ?_; exact HO_8.out)) k_ hk_), (Kd.fresh' (Kd.R_lt (by refine rs ?_; exact HO_9.out)) k_ hk_), (Kd.freshB (g := gb214) (o := .cells #[.int .i64 ((rd_T148 l2 x10_2).f0), .string ((rd_T148 l2 x10_2).f1), .int .i64 ((rd_T148 l2 x10_2).f2), .int .i64 ((rd_T148 l2 x10_2).f3)] 148 (0, 0)) (bo BK214) k_ hk_)⟩)) (below_size bz)); have n3_ := Aside0.mk (blk_below (bo BK214) hb); have n4_ := Aside0.mk (below_step bz hb); clear HO_8; clear HO_9; clear BK214; clear HB; have HO_8 := n0_; have HO_9 := n1_; have HO225 := n2_; have BK214 := n3_; have HB := n4_; clear n0_ n1_ n2_ n3_ n4_; clear hb ho52; obtain ⟨Ao54, co54, eo54⟩ := Kd.V_slice HO225.out; subst eo54) | ((with_reducible refine gate_builtin (b := .append) (xs := #[.tmp 81, .tmp 86]) rfl ?_); (try (refine gate_guard (by rfl) ?_; dsimp only)); at_builtin; refine Kd.R_append_rows (Kd.int .u8) (w0 := w) w.heap.size rfl (.tmp 81) (.tmp 86) 22 5 (.int .u8 0) 1 rfl Tryd.underlying22 info5 rfl (by decide) (by omega) u9 x9_4 y223 _ _ _ (fun _ => True) (fun _ => False) rfl rfl ?aO ?aR (fun _ _ h => h) (fun _ h => h.elim) ?aF ?aB ?aS ?aL ?_; (case aR => repeat (first | exact (Kd.V_reads' HO225.out).2.2 | (with_reducible refine Kd.C_alloc ?_ _) | (with_reducible refine Kd.C_drewN ?_ _) | (with_reducible refine Kd.C_drew ?_))); (case aB => exact bz); (case aF => exact (fun _ _ => trivial)); (case aO => exact (by refine rs ?_; exact HO_9.out)); (case aS => exact (below_size bz)); (case aL => have := LMc48.out; omega); intro v227 w53 ho hb hg hat; rw [← Ny226.out] at ho; have n0_ := Aside0.mk (Kd.R_over' (by refine rs ?_; exact HO_8.out) (Kd.R_typed (by refine rs ?_; exact HO_9.out)) (by decide) hg); have n1_ := Aside0.mk (blk_grown (g := gb214) (o := .cells #[.int .i64 ((rd_T148 l2 x10_2).f0), .string ((rd_T148 l2 x10_2).f1), .int .i64 ((rd_T148 l2 x10_2).f2), .int .i64 ((rd_T148 l2 x10_2).f3)] 148 (0, 0)) (bo BK214) hg (Kd.R_ne HO_9.out BK214.out (by decide))); have n2_ := Aside0.mk (Kd.V_afterv (ok := (fun k_ => some k_ ≠ (.slice (some ad222) t207.length co50 : Value).ownBlock ∧ k_ ≠ gb214)) (by refine vs ?_; exact Kd.V_mono HO225.out (fun _ hk => ⟨⟨hk.1, hk.2.2⟩, hk.2.1⟩)) hg hat); have n3_ := Aside0.mk (hb); have n4_ := Aside0.mk (ho); clear HO_8; clear BK214; clear HO225; clear HB; clear HO_9; have HO_8 := n0_; have BK214 := n1_; have HO225 := n2_; have HB := n3_; have HO228 := n4_; clear n0_ n1_ n2_ n3_ n4_; clear ho hb hg hat))
                    go_roundg k4
                    case measure => have := HJ3.out; have := HK2.out; have := HJ14.out; have := HK4.out; omega
                    case rel => exact ⟨(y226), (wrap64 (x12_4 + 1)), sd, H', ⟨by have := HJ3.out; have := HK2.out; have := HJ14.out; have := HK4.out; omega⟩, ⟨by refine rs ?_; exact HO_8.out⟩, ⟨by refine rs ?_; exact HO228.out⟩, ⟨(bo BK214)⟩, ⟨bz⟩⟩
                   ·rw [if_neg c48] at H
                    exact absurd H (by simp)
                  ·rw [if_neg c47] at H
                   exact absurd H (by simp)
                 ·rw [if_neg c46] at H
                  exact absurd H (by simp)
                ·rw [if_neg c45] at H
                 exact absurd H (by simp)
               ·rw [if_neg c44] at H
                have c44b0 : decide (x12_4 < (wrap64 (((rd_T148 l2 x10_2).f2) + ((rd_T148 l2 x10_2).f3)))) = false := decide_eq_false c44
                clear c44
                by_cases c55 : (x9_4.length : Int) > 20000
                ·rw [if_pos c55] at H
                 have c55b0 : decide (20000 < (x9_4.length : Int)) = true := decide_eq_true c55
                 have c55b1 : decide (20000 < x9_4.length) = true := decide_eq_true (by omega)
                 clear c55
                 simp only [Option.some.injEq, Prod.mk.injEq] at H
                 obtain ⟨rfl, rfl⟩ := H
                 obtain ⟨hcz56_0, hcz56_1, hcz56_2, hcz56_3, hfz56_0, hfz56_1, hfz56_2, hfz56_3⟩ := bc4 BK214.out
                 obtain ⟨Ao57, co57, eo57⟩ := Kd.R_slice HO_9.out
                 subst eo57
                 go_wp2
                 go_ret2
                 exact ⟨rq, bz⟩
                ·rw [if_neg c55] at H
                 have c55b0 : decide (20000 < (x9_4.length : Int)) = false := decide_eq_false c55
                 have c55b1 : decide (20000 < x9_4.length) = false := decide_eq_false (by omega)
                 clear c55
                 have H' := Aside0.mk H
                 clear H
                 obtain ⟨hcz58_0, hcz58_1, hcz58_2, hcz58_3, hfz58_0, hfz58_1, hfz58_2, hfz58_3⟩ := bc4 BK214.out
                 obtain ⟨Ao59, co59, eo59⟩ := Kd.R_slice HO_9.out
                 subst eo59
                 go_wp2
                 go_roundg k4
                 case measure => have := HJ3.out; have := HK2.out; have := HJ14.out; have := HK4.out; omega
                 case rel => exact ⟨(x9_4), (wrap64 (x10_2 + 1)), sd, H', ⟨by have := HJ3.out; have := HK2.out; have := HJ14.out; have := HK4.out; omega⟩, ⟨by refine rs ?_; exact HO_8.out⟩, ⟨by refine rs ?_; exact HO_9.out⟩, ⟨bz⟩⟩
            ·rw [if_neg c37] at H
             exact absurd H (by simp)
           ·rw [if_neg c36] at H
            exact absurd H (by simp)
       ·rw [if_neg c14] at H
        exact absurd H (by simp)
      ·rw [if_neg c13] at H
       have c13b0 : decide (x10_2 < (l2.length : Int)) = false := decide_eq_false c13
       clear c13
       simp only [Option.some.injEq, Prod.mk.injEq] at H
       obtain ⟨rfl, rfl⟩ := H
       have hcv60 := own_string (P := Tryd.prog) Tryd.underlying22 Tryd.underlying5 Tryd.underlying9 (Kd.own_of_R HO_9.out)
       go_wp2
       go_ret2
       exact ⟨rq, bz⟩

end Go.Proofs.YtjiaigjmihmdjaaDoor.PFnExactTakeAnswer
