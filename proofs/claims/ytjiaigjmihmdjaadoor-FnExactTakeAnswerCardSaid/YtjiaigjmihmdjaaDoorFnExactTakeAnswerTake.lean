
/- FnExactTakeAnswer's plain law: the reference's TakeAnswer and the program's tell the same. Plain Lean: no program's step stands here. -/
import Derived.Test.YtjiaigjmihmdjaaDoorPFnExactTakeAnswerx1
import Derived.Test.YtjiaigjmihmdjaaDoorPFnExactTakeAnswerx4
import Derived.Test.YtjiaigjmihmdjaaDoorPFnExactTakeAnswerx5
import Derived.Test.YtjiaigjmihmdjaaDoorPFnExactTakeAnswerx6
import Derived.Test.YtjiaigjmihmdjaaDoorPFnExactTakeAnswerx9
import Derived.Test.YtjiaigjmihmdjaaDoorPFnExactTakeAnswerx10
import Derived.Test.YtjiaigjmihmdjaaDoorPFnExactTakeAnswerx12
import Derived.Test.YtjiaigjmihmdjaaDoorFnExactTakeAnswerMsg
import Derived.Test.YtjiaigjmihmdjaaDoorSum2
namespace Go.Proofs.YtjiaigjmihmdjaaDoor.Pure
open Go.RowKit Go.Proofs.YtjiaigjmihmdjaaDoor.PFnExactTakeAnswer Go.Proofs.YtjiaigjmihmdjaaDoorW.PrintWords Go.Proofs.YtjiaigjmihmdjaaDoorW.PrintLast Go.Proofs.YtjiaigjmihmdjaaDoorW.PrintMore
set_option linter.unusedVariables false
set_option linter.unusedSimpArgs false
abbrev Tk := S148
abbrev Tl := S165
/-! ### The size of a block -/
theorem blockSize_l0 (n : Int) : ∀ m x : Nat, x + 8 * m = 256 → 8 ≤ x → ∃ r : Int, Ev (fun k => impl_BlockSize.l0 k n x) r ∧ Ev (fun k => spec_BlockSize.l0 k n x) r ∧ 1 ≤ r ∧ r ≤ 256 := by
 intro m
 induction m with
 | zero =>
  intro x hx h8
  refine ⟨x, Ev.succ (fun k => impl_BlockSize.l0.eq_2 ..) (Ev.ite_neg (by omega) Ev.some), ?_, by omega, by omega⟩
  refine Ev.succ (fun k => spec_BlockSize.l0.eq_2 ..) ?_
  by_cases h : wrap64 ((x : Int) * (x : Int)) < n
  ·exact Ev.ite_pos h (Ev.ite_neg (by omega) Ev.some)
  ·exact Ev.ite_neg h Ev.some
 | succ m ih =>
  intro x hx h8
  by_cases h : wrap64 ((x : Int) * (x : Int)) < n
  ·obtain ⟨r, h1, h2, h3⟩ := ih (x + 8) (by omega) (by omega)
   have e : wrap64 ((x : Int) + 8) = ((x + 8 : Nat) : Int) := by rw [wrap64_id (by omega) (by omega)]; omega
   refine ⟨r, Ev.succ (fun k => impl_BlockSize.l0.eq_2 ..) (Ev.ite_pos (by omega) (Ev.ite_pos h ?_)), Ev.succ (fun k => spec_BlockSize.l0.eq_2 ..) (Ev.ite_pos h (Ev.ite_pos (by omega) ?_)), h3⟩
   ·rw [e]; exact h1
   ·rw [e]; exact h2
  ·exact ⟨x, Ev.succ (fun k => impl_BlockSize.l0.eq_2 ..) (Ev.ite_pos (by omega) (Ev.ite_neg h Ev.some)), Ev.succ (fun k => spec_BlockSize.l0.eq_2 ..) (Ev.ite_neg h Ev.some), by omega, by omega⟩
theorem blockSize (n : Int) : ∃ r : Int, Ev (fun k => impl_BlockSize.f k n) r ∧ Ev (fun k => spec_BlockSize.f k n) r ∧ 1 ≤ r ∧ r ≤ 256 := by
 obtain ⟨r, h1, h2, h3⟩ := blockSize_l0 n 31 8 (by omega) (by omega)
 exact ⟨r, Ev.congr (fun k => impl_BlockSize.f.eq_1 ..) h1, Ev.congr (fun k => spec_BlockSize.f.eq_1 ..) h2, h3⟩
/-! ### Blocks -/
def nBlk (len size : Nat) : Nat := (len + size - 1) / size
def blk (L : List UInt8) (size k : Nat) : List UInt8 := (L.drop (k * size)).take size
def blks (L : List UInt8) (size : Nat) : List ByteArray := (List.range (nBlk L.length size)).map fun k => B (blk L size k)
theorem blks_length (L : List UInt8) (size : Nat) : (blks L size).length = nBlk L.length size := by simp [blks]
theorem nBlk_step {len size : Nat} (h1 : 1 ≤ size) (h : size < len) : nBlk len size = nBlk (len - size) size + 1 := by
 unfold nBlk
 rw [show len + size - 1 = (len - size + size - 1) + size by omega, Nat.add_div_right _ (by omega)]
theorem blks_step {L : List UInt8} {size : Nat} (h1 : 1 ≤ size) (h : size < L.length) : blks L size = B (L.take size) :: blks (L.drop size) size := by
 unfold blks
 rw [nBlk_step h1 h, List.range_succ_eq_map, List.map_cons, List.map_map, List.length_drop]
 congr 1
 ·simp [blk]
 ·apply List.map_congr_left
  intro k _
  simp only [Function.comp, blk, List.drop_drop]
  rw [show size + k * size = (k + 1) * size by rw [Nat.add_mul]; omega]
theorem blocks_l0 (size : Nat) (h1 : 1 ≤ size) : ∀ (n : Nat) (L : List UInt8) (acc : List ByteArray), L.length ≤ n → acc.length + L.length < 8796093022208 → Ev (fun k => spec_l05Blocks.l0 k (B L) (size : Int) acc) (acc ++ blks L size) := by
 intro n
 induction n with
 | zero =>
  intro L acc hn ha
  have hL : L = [] := List.eq_nil_of_length_eq_zero (by omega)
  subst hL
  have e : blks ([] : List UInt8) size = [] := by unfold blks nBlk; simp; omega
  rw [e, List.append_nil]
  exact Ev.succ (fun k => spec_l05Blocks.l0.eq_2 ..) (Ev.ite_neg (by rw [B_size]; simp <;> omega) (Ev.ite_neg (by rw [B_size]; simp) Ev.some))
 | succ n ih =>
  intro L acc hn ha
  by_cases h : size < L.length
  ·refine Ev.succ (fun k => spec_l05Blocks.l0.eq_2 ..) (Ev.ite_pos (by rw [B_size]; omega) (Ev.ite_pos (by omega) (Ev.ite_pos (by rw [B_size]; omega) (Ev.ite_pos (by omega) ?_))))
   have e1 : (B L).extract (size : Int).toNat (B L).size = B (L.drop size) := by rw [extract_B, B_size, List.take_of_length_le (Nat.le_refl _)]; rfl
   have e2 : (B L).extract 0 (size : Int).toNat = B (L.take size) := by rw [extract_B]; rfl
   rw [e1, e2, blks_step h1 h]
   have h2 := ih (L.drop size) (acc ++ [B (L.take size)]) (by rw [List.length_drop]; omega) (by rw [List.length_drop, List.length_append]; simp; omega)
   rw [List.append_assoc] at h2
   exact h2
  ·refine Ev.succ (fun k => spec_l05Blocks.l0.eq_2 ..) (Ev.ite_neg (by rw [B_size]; omega) ?_)
   by_cases h0 : 0 < L.length
   ·have e : blks L size = [B L] := by
     have hn1 : nBlk L.length size = 1 := by unfold nBlk; rw [Nat.div_eq_of_lt_le] <;> omega
     unfold blks
     rw [hn1]
     simp [blk]
     rw [List.take_of_length_le (by omega)]
    rw [e]
    exact Ev.ite_pos (by rw [B_size]; omega) (Ev.ite_pos (by omega) Ev.some)
   ·have hL : L = [] := List.eq_nil_of_length_eq_zero (by omega)
    subst hL
    have e : blks ([] : List UInt8) size = [] := by unfold blks nBlk; simp; omega
    rw [e, List.append_nil]
    exact Ev.ite_neg (by rw [B_size]; simp) Ev.some
theorem rd_blks {L : List UInt8} {size k : Nat} (h : k < nBlk L.length size) : rdOf ByteArray.empty (blks L size) (k : Int) = B (blk L size k) := by
 unfold rdOf
 rw [show (k : Int).toNat = k by omega, List.getD_eq_getElem?_getD, List.getElem?_eq_getElem (by rw [blks_length]; exact h)]
 simp [blks]
theorem bytesOf_B (L : List UInt8) : bytesOf (B L) = nums L := rfl
theorem nums_app (a b : List UInt8) : nums (a ++ b) = nums a ++ nums b := by simp [nums]
theorem blk_next (L : List UInt8) (size f j : Nat) : (L.drop (f * size)).take ((j + 1) * size) = (L.drop (f * size)).take (j * size) ++ blk L size (f + j) := by
 unfold blk
 rw [Nat.add_mul, Nat.one_mul, List.take_add, List.drop_drop, ← Nat.add_mul]
/-! ### Tokens -/
theorem implTokenOk (t : Tk) : impl_TokenOk.f t.f0 t.f1 t.f2 t.f3 = some (tokOkB t) := by
 rw [← specTokenOk t]
 simp only [impl_TokenOk.f, spec_TokenOk.f, in_says, within_says]
theorem tok_cases {t : Tk} (h : tokOkB t = true) : (t.f0 = 0 ∧ 1 ≤ t.f1.size ∧ t.f1.size ≤ 100 ∧ t.f2 = 0 ∧ t.f3 = 0) ∨ (t.f0 = 1 ∧ t.f1.size = 0 ∧ 0 ≤ t.f2 ∧ 1 ≤ t.f3) := by
 unfold tokOkB at h
 simp only [Bool.or_eq_true, Bool.and_eq_true, decide_eq_true_eq] at h
 rcases h with ⟨⟨⟨⟨a, b⟩, c⟩, d⟩, e⟩ | ⟨⟨⟨a, b⟩, c⟩, d⟩
 ·exact .inl ⟨a, b, c, d, e⟩
 ·exact .inr ⟨a, b, c, d⟩
/-- The reference's inner loop: the blocks that a token names, one behind the other. -/
theorem copy_l1 (x : List Tk) (L : List UInt8) (size f c : Nat) (hs : 1 ≤ size) (hL : L.length ≤ 20000) (hfc : f + c ≤ nBlk L.length size) (hn : nBlk L.length size ≤ 20000) (pre : List Int) (hp : pre.length ≤ 20000) (i : Int) (z0 : Int) (z1 : ByteArray) (z2 z3 : Int) (hz2 : z2 = f) (hz3 : z3 = c)
  {r : ByteArray × Bool} (hr : Ev (fun k => if ((pre ++ nums ((L.drop (f * size)).take (c * size))).length : Int) > 20000 then some ((⟨#[]⟩ : ByteArray), false) else spec_Patch.l0 k x (blks L size) (pre ++ nums ((L.drop (f * size)).take (c * size))) (wrap64 (i + 1))) r) :
  ∀ m j : Nat, j + m = c → Ev (fun k => spec_Patch.l1 k x (blks L size) (pre ++ nums ((L.drop (f * size)).take (j * size))) i ((f + j : Nat) : Int) z0 z1 z2 z3) r := by
 intro m
 induction m with
 | zero =>
  intro j hj
  obtain rfl : j = c := by omega
  refine Ev.succ (fun k => spec_Patch.l1.eq_2 ..) (Ev.ite_neg ?_ hr)
  rw [hz2, hz3, wrap64_id (by omega) (by omega)]
  omega
 | succ m ih =>
  intro j hj
  have hlen : (nums ((L.drop (f * size)).take (j * size))).length ≤ 20000 := by rw [nums_length, List.length_take, List.length_drop]; omega
  have hb : (blk L size (f + j)).length ≤ 20000 := by unfold blk; rw [List.length_take, List.length_drop]; omega
  refine Ev.succ (fun k => spec_Patch.l1.eq_2 ..) (Ev.ite_pos ?_ (Ev.ite_pos (by omega) (Ev.ite_pos (by rw [blks_length]; omega) ?_)))
  ·rw [hz2, hz3, wrap64_id (by omega) (by omega)]; omega
  rw [rd_blks (by omega), bytesOf_B]
  refine Ev.ite_pos (by rw [B_size]; omega) (Ev.some_bind (Ev.ite_pos (by rw [List.length_append, nums_length (blk _ _ _)]; omega) ?_))
  rw [wrap64_id (by omega) (by omega), List.append_assoc, ← nums_app, ← blk_next, show ((f + j : Nat) : Int) + 1 = ((f + (j + 1) : Nat) : Int) by omega]
  exact ih (j + 1) (by omega)
theorem nBlk_lt {len size f : Nat} (h : f < nBlk len size) : f * size < len := by
 have h1 : nBlk len size * size ≤ len + size - 1 := Nat.div_mul_le_self _ _
 have h2 : (f + 1) * size ≤ nBlk len size * size := Nat.mul_le_mul_right _ h
 rw [Nat.add_mul, Nat.one_mul] at h2
 rcases Nat.eq_zero_or_pos size with h0 | h0
 ·subst h0
  simp [nBlk] at h
 ·omega
theorem nBlk_le {len size : Nat} (h1 : 1 ≤ size) : nBlk len size ≤ len := by
 rcases Nat.eq_zero_or_pos (nBlk len size) with h | h
 ·omega
 ·have := nBlk_lt (len := len) (size := size) (f := nBlk len size - 1) (by omega)
  have h3 : nBlk len size - 1 ≤ (nBlk len size - 1) * size := Nat.le_mul_of_pos_right _ h1
  omega
theorem cut_is {L : List UInt8} {f c size : Nat} (h : f * size ≤ L.length) : (B L).extract (f * size) (min ((f + c) * size) L.length) = B ((L.drop (f * size)).take (c * size)) := by
 rw [extract_B, List.drop_take, Nat.add_mul]
 congr 1
 by_cases h2 : f * size + c * size ≤ L.length
 ·rw [Nat.min_eq_left h2, Nat.add_sub_cancel_left]
 ·rw [Nat.min_eq_right (by omega), List.take_of_length_le (by rw [List.length_drop]; omega), List.take_of_length_le (by rw [List.length_drop]; omega)]
theorem wrapProd {a b : Nat} (h : a * b ≤ 100000) : wrap64 ((a : Int) * (b : Int)) = ((a * b : Nat) : Int) := by
 rw [← Int.natCast_mul]
 generalize a * b = p at *
 exact wrap64_id (by omega) (by omega)
def bad0 : ByteArray × Bool := ((⟨#[]⟩ : ByteArray), false)
theorem bad0_size : bad0.1.size ≤ 20000 := by show (0 : Nat) ≤ 20000; decide
theorem impl_copy (x : List Tk) (L : List UInt8) (size f c : Nat) (n i : Int) (nb : Int) (acc : List Int) (a0 : Int) (a1 : ByteArray) (h0 : a0 = 1) (h1 : a1.size = 0) (hlt : f * size < L.length) (hL : L.length ≤ 20000) (hfc : f + c ≤ 100000) (hmul : (f + c) * size ≤ 20256) (ha : acc.length ≤ 20000) {r : ByteArray × Bool}
  (t1 : Ev (fun k => if ((acc ++ nums ((L.drop (f * size)).take (c * size))).length : Int) > 20000 then some ((⟨#[]⟩ : ByteArray), false) else impl_Patch.l0 k (B L) (size : Int) nb (acc ++ nums ((L.drop (f * size)).take (c * size))) x n (wrap64 (i + 1))) r) :
  Ev (fun k => impl_Patch.j2 k (B L) (size : Int) nb acc x n i false a0 a1 (f : Int) (c : Int)) r := by
 have hb0 : bytesOf a1 = [] := List.eq_nil_of_length_eq_zero (by rw [bytesOf_length]; exact h1)
 have hX : ((L.drop (f * size)).take (c * size)).length ≤ 20000 := by rw [List.length_take, List.length_drop]; omega
 have e1 : wrap64 ((f : Int) * (size : Int)) = ((f * size : Nat) : Int) := wrapProd (by omega)
 have e2 : wrap64 (wrap64 ((f : Int) + (c : Int)) * (size : Int)) = (((f + c) * size : Nat) : Int) := by
  rw [wrap64_id (x := (f : Int) + (c : Int)) (by omega) (by omega), ← Int.natCast_add]
  exact wrapProd (by omega)
 have h6 : f * size ≤ (f + c) * size := Nat.mul_le_mul_right size (show f ≤ f + c by omega)
 have hcut := cut_is (L := L) (f := f) (c := c) (size := size) (by omega)
 have e3 : mn (((f + c) * size : Nat) : Int) ((B L).size : Int) = ((min ((f + c) * size) L.length : Nat) : Int) := by
  rw [B_size]
  generalize (f + c) * size = P
  unfold mn
  omega
 have q1 : acc.length + a1.size < 140737488355328 := by omega
 have q2 : (0 : Int) ≤ ((f * size : Nat) : Int) := Int.natCast_nonneg _
 have q3 : ((f * size : Nat) : Int) ≤ ((min ((f + c) * size) L.length : Nat) : Int) := Int.ofNat_le.2 (Nat.le_min.2 ⟨h6, Nat.le_of_lt hlt⟩)
 have q4 : ((min ((f + c) * size) L.length : Nat) : Int) ≤ ((B L).size : Int) := by rw [B_size]; exact Int.ofNat_le.2 (Nat.min_le_right _ _)
 have q5 : acc.length + (B ((L.drop (f * size)).take (c * size))).size < 140737488355328 := by
  rw [B_size]
  generalize ((L.drop (f * size)).take (c * size)).length = z at *
  clear e1 e2 e3 q2 q3 q4 h6 hmul hlt hcut t1
  omega
 clear hX h6 hmul hfc hlt hL ha h1
 refine Ev.succ (fun k => impl_Patch.j2.eq_2 ..) (Ev.ite_neg (by decide) (Ev.ite_pos q1 ?_))
 rw [hb0, List.append_nil]
 refine Ev.some_bind (Ev.ite_pos h0 ?_)
 rw [e1, e2, e3]
 refine Ev.ite_pos q2 (Ev.ite_pos q3 (Ev.ite_pos q4 ?_))
 rw [Int.toNat_natCast, Int.toNat_natCast, hcut, bytesOf_B]
 exact Ev.ite_pos q5 (Ev.some_bind t1)
theorem spec_copy (x : List Tk) (L : List UInt8) (size f c : Nat) (hs : 1 ≤ size) (hL : L.length ≤ 20000) (hfc : f + c ≤ nBlk L.length size) (i : Int) (acc : List Int) (a0 : Int) (a1 : ByteArray) (h1 : a1.size = 0) (ha : acc.length ≤ 20000) {r : ByteArray × Bool}
  (t2 : Ev (fun k => if ((acc ++ nums ((L.drop (f * size)).take (c * size))).length : Int) > 20000 then some ((⟨#[]⟩ : ByteArray), false) else spec_Patch.l0 k x (blks L size) (acc ++ nums ((L.drop (f * size)).take (c * size))) (wrap64 (i + 1))) r) :
  Ev (fun k => spec_Patch.j2 k x (blks L size) acc i false a0 a1 (f : Int) (c : Int)) r := by
 have hb0 : bytesOf a1 = [] := List.eq_nil_of_length_eq_zero (by rw [bytesOf_length]; exact h1)
 have hnb : nBlk L.length size ≤ 20000 := Nat.le_trans (nBlk_le hs) hL
 refine Ev.succ (fun k => spec_Patch.j2.eq_2 ..) (Ev.ite_neg (by decide) (Ev.ite_pos (by omega) ?_))
 rw [hb0]
 refine Ev.some_bind (Ev.ite_pos (by simp; omega) ?_)
 rw [List.append_nil]
 have h7 := copy_l1 x L size f c hs hL hfc hnb acc ha i a0 a1 (f : Int) (c : Int) rfl rfl t2 c 0 (by omega)
 rw [Nat.zero_mul, List.take_zero, show nums [] = [] from rfl, List.append_nil, Nat.add_zero] at h7
 exact h7
set_option maxHeartbeats 1000000 in
theorem patch_l0 (x : List Tk) (hx : x.length ≤ 20000) (L : List UInt8) (size : Nat) (hs : 1 ≤ size) (hs2 : size ≤ 256) (hL : L.length ≤ 20000) : ∀ (m i : Nat) (acc : List Int), i + m = x.length → acc.length ≤ 20000 →
  ∃ r : ByteArray × Bool, Ev (fun k => impl_Patch.l0 k (B L) (size : Int) (nBlk L.length size : Int) acc x (x.length : Int) (i : Int)) r ∧ Ev (fun k => spec_Patch.l0 k x (blks L size) acc (i : Int)) r ∧ r.1.size ≤ 20000 := by
 have hnb : nBlk L.length size ≤ 20000 := Nat.le_trans (nBlk_le hs) hL
 intro m
 induction m with
 | zero =>
  intro i acc hi ha
  exact ⟨(strOfNums acc, true), Ev.succ (fun k => impl_Patch.l0.eq_2 ..) (Ev.ite_neg (by omega) Ev.some), Ev.succ (fun k => spec_Patch.l0.eq_2 ..) (Ev.ite_neg (by omega) Ev.some), by show (strOfNums acc).size ≤ 20000; rw [strOfNums_size]; exact ha⟩
 | succ m ih =>
  intro i acc hi ha
  generalize ht : rd_T148 x (i : Int) = t
  have tail : ∀ out : List Int, ∃ r : ByteArray × Bool, Ev (fun k => if (out.length : Int) > 20000 then some ((⟨#[]⟩ : ByteArray), false) else impl_Patch.l0 k (B L) (size : Int) (nBlk L.length size : Int) out x (x.length : Int) (wrap64 ((i : Int) + 1))) r ∧ Ev (fun k => if (out.length : Int) > 20000 then some ((⟨#[]⟩ : ByteArray), false) else spec_Patch.l0 k x (blks L size) out (wrap64 ((i : Int) + 1))) r ∧ r.1.size ≤ 20000 := by
   intro out
   by_cases h : out.length ≤ 20000
   ·obtain ⟨r, h1, h2, h3⟩ := ih (i + 1) out (by omega) h
    have e : wrap64 ((i : Int) + 1) = ((i + 1 : Nat) : Int) := by rw [wrap64_id (by omega) (by omega)]; omega
    rw [e]
    exact ⟨r, Ev.ite_neg (by omega) h1, Ev.ite_neg (by omega) h2, h3⟩
   ·exact ⟨bad0, Ev.ite_pos (by omega) Ev.some, Ev.ite_pos (by omega) Ev.some, bad0_size⟩
  have jb1 : ∀ a b c d, Ev (fun k => impl_Patch.j2 k (B L) (size : Int) (nBlk L.length size : Int) acc x (x.length : Int) (i : Int) true a b c d) bad0 := fun a b c d => Ev.succ (fun k => impl_Patch.j2.eq_2 ..) (Ev.ite_pos rfl Ev.some)
  have jb2 : ∀ a b c d, Ev (fun k => spec_Patch.j2 k x (blks L size) acc (i : Int) true a b c d) bad0 := fun a b c d => Ev.succ (fun k => spec_Patch.j2.eq_2 ..) (Ev.ite_pos rfl Ev.some)
  cases hok : tokOkB t with
  | false =>
   refine ⟨bad0, Ev.succ (fun k => impl_Patch.l0.eq_2 ..) (Ev.ite_pos (by omega) (Ev.ite_pos (by omega) (Ev.ite_pos (by omega) ?_))), Ev.succ (fun k => spec_Patch.l0.eq_2 ..) (Ev.ite_pos (by omega) (Ev.ite_pos (by omega) ?_)), bad0_size⟩
   ·rw [ht, implTokenOk, hok]
    exact Ev.some_bind (Ev.ite_neg (by decide) (jb1 _ _ _ _))
   ·rw [ht, specTokenOk, hok]
    exact Ev.some_bind (Ev.ite_neg (by decide) (jb2 _ _ _ _))
  | true =>
   rcases tok_cases hok with ⟨h0, h1, h2, h3, h4⟩ | ⟨h0, h1, h2, h3⟩
   ·-- a literal
    obtain ⟨r, t1, t2, t3⟩ := tail (acc ++ bytesOf t.f1)
    have hl : (bytesOf t.f1).length ≤ 100 := by rw [bytesOf_length]; exact h2
    refine ⟨r, Ev.succ (fun k => impl_Patch.l0.eq_2 ..) (Ev.ite_pos (by omega) (Ev.ite_pos (by omega) (Ev.ite_pos (by omega) ?_))), Ev.succ (fun k => spec_Patch.l0.eq_2 ..) (Ev.ite_pos (by omega) (Ev.ite_pos (by omega) ?_)), t3⟩
    ·rw [ht, implTokenOk, hok]
     refine Ev.some_bind (Ev.ite_pos rfl (Ev.ite_neg (by omega) ?_))
     refine Ev.succ (fun k => impl_Patch.j2.eq_2 ..) (Ev.ite_neg (by decide) (Ev.ite_pos (by omega) (Ev.some_bind (Ev.ite_neg (by omega) t1))))
    ·rw [ht, specTokenOk, hok]
     refine Ev.some_bind (Ev.ite_pos rfl (Ev.ite_neg (by omega) ?_))
     refine Ev.succ (fun k => spec_Patch.j2.eq_2 ..) (Ev.ite_neg (by decide) (Ev.ite_pos (by omega) (Ev.some_bind (Ev.ite_pos (by omega) ?_))))
     refine Ev.succ (fun k => spec_Patch.l1.eq_2 ..) (Ev.ite_neg ?_ t2)
     rw [h3, h4, wrap64_id (by decide) (by decide)]
     decide
   ·-- blocks of the old file
    obtain ⟨f, hf⟩ : ∃ f : Nat, t.f2 = f := ⟨t.f2.toNat, by omega⟩
    obtain ⟨c, hc⟩ : ∃ c : Nat, t.f3 = c := ⟨t.f3.toNat, by omega⟩
    have hb0 : bytesOf t.f1 = [] := List.eq_nil_of_length_eq_zero (by rw [bytesOf_length]; exact h1)
    by_cases hgood : f + c ≤ nBlk L.length size
    ·have hlt : f * size < L.length := nBlk_lt (by omega)
     have hmul : (f + c) * size ≤ 20256 := by
      have h5 : nBlk L.length size * size ≤ L.length + size - 1 := Nat.div_mul_le_self _ _
      have h6 := Nat.mul_le_mul_right size hgood
      omega
     have hX : ((L.drop (f * size)).take (c * size)).length ≤ 20000 := by rw [List.length_take, List.length_drop]; omega
     obtain ⟨r, t1, t2, t3⟩ := tail (acc ++ nums ((L.drop (f * size)).take (c * size)))
     refine ⟨r, Ev.succ (fun k => impl_Patch.l0.eq_2 ..) (Ev.ite_pos (by omega) (Ev.ite_pos (by omega) (Ev.ite_pos (by omega) ?_))), Ev.succ (fun k => spec_Patch.l0.eq_2 ..) (Ev.ite_pos (by omega) (Ev.ite_pos (by omega) ?_)), t3⟩
     ·rw [ht, implTokenOk, hok]
      refine Ev.some_bind (Ev.ite_pos rfl (Ev.ite_pos h0 (Ev.ite_neg (by omega) ?_)))
      rw [hf, hc, wrap64_id (by omega) (by omega), decide_eq_false (by omega)]
      exact impl_copy x L size f c _ _ _ acc _ _ h0 h1 hlt hL (by omega) hmul ha t1
     ·rw [ht, specTokenOk, hok]
      refine Ev.some_bind (Ev.ite_pos rfl (Ev.ite_pos h0 (Ev.ite_neg (by rw [blks_length]; omega) ?_)))
      rw [hf, hc, blks_length, wrap64_id (by omega) (by omega), decide_eq_false (by omega)]
      exact spec_copy x L size f c hs hL hgood _ acc _ _ h1 ha t2
    ·refine ⟨bad0, Ev.succ (fun k => impl_Patch.l0.eq_2 ..) (Ev.ite_pos (by omega) (Ev.ite_pos (by omega) (Ev.ite_pos (by omega) ?_))), Ev.succ (fun k => spec_Patch.l0.eq_2 ..) (Ev.ite_pos (by omega) (Ev.ite_pos (by omega) ?_)), bad0_size⟩
     ·rw [ht, implTokenOk, hok]
      refine Ev.some_bind (Ev.ite_pos rfl (Ev.ite_pos h0 ?_))
      rw [hf, hc]
      by_cases h8 : nBlk L.length size ≤ f
      ·exact Ev.ite_pos (by omega) (jb1 _ _ _ _)
      ·refine Ev.ite_neg (by omega) ?_
       rw [wrap64_id (by omega) (by omega), decide_eq_true (by omega)]
       exact jb1 _ _ _ _
     ·rw [ht, specTokenOk, hok]
      refine Ev.some_bind (Ev.ite_pos rfl (Ev.ite_pos h0 ?_))
      rw [hf, hc, blks_length]
      by_cases h8 : nBlk L.length size < f
      ·exact Ev.ite_pos (by omega) (jb2 _ _ _ _)
      ·refine Ev.ite_neg (by omega) ?_
       rw [wrap64_id (by omega) (by omega), decide_eq_true (by omega)]
       exact jb2 _ _ _ _
theorem patch_j0 (x : List Tk) (hx : x.length ≤ 20000) (L : List UInt8) (size : Nat) (hs : 1 ≤ size) (hs2 : size ≤ 256) (hL : L.length ≤ 20000) :
  ∃ r : ByteArray × Bool, Ev (fun k => impl_Patch.j0 k (B L) (size : Int) x false) r ∧ Ev (fun k => spec_Patch.j0 k (B L) (size : Int) x false) r ∧ r.1.size ≤ 20000 := by
 obtain ⟨r, h1, h2, h3⟩ := patch_l0 x hx L size hs hs2 hL x.length 0 [] (by omega) (by simp)
 have e : wrap64 (Int.tdiv (wrap64 ((wrap64 (((B L).size : Int) + (size : Int))) - 1)) (size : Int)) = (nBlk L.length size : Int) := by
  rw [B_size, wrap64_id (x := (L.length : Int) + (size : Int)) (by omega) (by omega), wrap64_id (x := (L.length : Int) + (size : Int) - 1) (by omega) (by omega)]
  have e1 : (L.length : Int) + (size : Int) - 1 = ((L.length + size - 1 : Nat) : Int) := by omega
  have hb : nBlk L.length size ≤ 20000 := Nat.le_trans (nBlk_le hs) hL
  rw [e1, Int.tdiv_eq_ediv_of_nonneg (by omega), ← Int.natCast_ediv]
  exact wrap64_id (x := ((nBlk L.length size : Nat) : Int)) (by omega) (by omega)
 refine ⟨r, Ev.succ (fun k => impl_Patch.j0.eq_2 ..) (Ev.ite_neg (by decide) (Ev.ite_neg (by omega) ?_)), Ev.succ (fun k => spec_Patch.j0.eq_2 ..) (Ev.ite_neg (by decide) (Ev.bind (a := blks L size) ?_ h2)), h3⟩
 ·rw [e]; exact h1
 ·refine Ev.congr (fun k => spec_l05Blocks.f.eq_1 ..) ?_
  have h4 := blocks_l0 size hs L.length L [] (Nat.le_refl _) (by simp; omega)
  rwa [List.nil_append] at h4
theorem patch_same (x : List Tk) (L : List UInt8) (size : Nat) (hs : 1 ≤ size) (hs2 : size ≤ 256) : ∃ r : ByteArray × Bool, Ev (fun k => impl_Patch.f k (B L) (size : Int) x) r ∧ Ev (fun k => spec_Patch.f k (B L) (size : Int) x) r ∧ r.1.size ≤ 20000 := by
 have hin : decide ((1 : Int) ≤ (size : Int) ∧ (size : Int) ≤ 256) = true := decide_eq_true (by omega)
 have b1 : Ev (fun k => impl_Patch.j0 k (B L) (size : Int) x true) bad0 := Ev.succ (fun k => impl_Patch.j0.eq_2 ..) (Ev.ite_pos rfl Ev.some)
 have b2 : Ev (fun k => spec_Patch.j0 k (B L) (size : Int) x true) bad0 := Ev.succ (fun k => spec_Patch.j0.eq_2 ..) (Ev.ite_pos rfl Ev.some)
 by_cases h1 : L.length ≤ 20000
 ·by_cases h2 : x.length ≤ 20000
  ·obtain ⟨r, r1, r2, r3⟩ := patch_j0 x h2 L size hs hs2 h1
   refine ⟨r, Ev.congr (fun k => impl_Patch.f.eq_1 ..) ?_, Ev.congr (fun k => spec_Patch.f.eq_1 ..) ?_, r3⟩
   ·rw [within_says, hin]
    refine Ev.some_bind (Ev.ite_pos rfl (Ev.ite_neg (by rw [B_size]; omega) ?_))
    rw [decide_eq_false (by omega)]; exact r1
   ·rw [in_says, hin]
    refine Ev.some_bind (Ev.ite_pos rfl (Ev.ite_neg (by rw [B_size]; omega) ?_))
    rw [decide_eq_false (by omega)]; exact r2
  ·refine ⟨bad0, Ev.congr (fun k => impl_Patch.f.eq_1 ..) ?_, Ev.congr (fun k => spec_Patch.f.eq_1 ..) ?_, bad0_size⟩
   ·rw [within_says, hin]
    refine Ev.some_bind (Ev.ite_pos rfl (Ev.ite_neg (by rw [B_size]; omega) ?_))
    rw [decide_eq_true (by omega)]; exact b1
   ·rw [in_says, hin]
    refine Ev.some_bind (Ev.ite_pos rfl (Ev.ite_neg (by rw [B_size]; omega) ?_))
    rw [decide_eq_true (by omega)]; exact b2
 ·refine ⟨bad0, Ev.congr (fun k => impl_Patch.f.eq_1 ..) ?_, Ev.congr (fun k => spec_Patch.f.eq_1 ..) ?_, bad0_size⟩
  ·rw [within_says, hin]
   exact Ev.some_bind (Ev.ite_pos rfl (Ev.ite_pos (by rw [B_size]; omega) b1))
  ·rw [in_says, hin]
   exact Ev.some_bind (Ev.ite_pos rfl (Ev.ite_pos (by rw [B_size]; omega) b2))
/-! ### The strong sums -/
theorem strong_same (p : ByteArray) (h : p.size ≤ 20000) : impl_strong.f p = some (strOfNums (Go.Proofs.YtjiaigjmihmdjaaDoor.Sum.strongS p)) := by
 unfold impl_strong.f
 rw [if_pos (by omega)]
 unfold Go.Proofs.YtjiaigjmihmdjaaDoor.Sum.strongS Go.Proofs.YtjiaigjmihmdjaaDoor.Sum.strongF Go.Proofs.YtjiaigjmihmdjaaDoor.Sum.out16
 rw [if_pos h, Go.Proofs.YtjiaigjmihmdjaaDoor.Sum.strOfNums_app, Go.Proofs.YtjiaigjmihmdjaaDoor.Sum.strOfNums_app, Go.Proofs.YtjiaigjmihmdjaaDoor.Sum.strOfNums_app]
 rfl
/-! ### TakeAnswer -/
theorem toList_inj {a b : ByteArray} : (a.toList = b.toList) ↔ a = b := by
 constructor
 ·intro h
  rw [ByteArray.toList_eq, ByteArray.toList_eq] at h
  exact ByteArray.ext (Array.toList_inj.1 h)
 ·intro h; rw [h]
theorem take_same (kd pl sz rs : Int) (w : List Int) (s : List ByteArray) (t : List Tk) (u : ByteArray) (old : ByteArray) (hw : w.length ≤ 1048576) (hs : s.length ≤ 1048576) :
  ∃ r : ByteArray × Bool, Ev (fun k => spec_TakeAnswer.f k kd pl sz rs w s t u old) r ∧ Ev (fun k => impl_TakeAnswer.f k kd pl sz rs w s t u old) r := by
 have hm1 := specMsgOk kd pl sz rs w s t u (by omega) (by omega)
 have hm2 := implMsgOk kd pl sz rs w s t u (by omega) (by omega)
 have no : Ev (fun k => impl_TakeAnswer.j0 k old true kd pl sz rs w s t u) bad0 := Ev.succ (fun k => impl_TakeAnswer.j0.eq_2 ..) (Ev.ite_pos rfl Ev.some)
 cases hg : msgGood kd pl sz rs w s t u with
 | false =>
  rw [hg] at hm1 hm2
  refine ⟨bad0, Ev.congr (fun k => spec_TakeAnswer.f.eq_1 ..) (Ev.bind hm1 (Ev.ite_neg (by simp) Ev.some)), Ev.congr (fun k => impl_TakeAnswer.f.eq_1 ..) (Ev.bind hm2 (Ev.ite_neg (by simp) no))⟩
 | true =>
  rw [hg] at hm1 hm2
  by_cases hk : kd = 1
  ·obtain ⟨bs, b1, b2, b3, b4⟩ := blockSize (old.size : Int)
   obtain ⟨n, rfl⟩ : ∃ n : Nat, bs = n := ⟨bs.toNat, by omega⟩
   obtain ⟨⟨p, ok⟩, p1, p2, p3⟩ := patch_same t old.data.toList n (by omega) (by omega)
   have p1' : Ev (fun k => impl_Patch.f k old (n : Int) t) (p, ok) := p1
   have p2' : Ev (fun k => spec_Patch.f k old (n : Int) t) (p, ok) := p2
   have hp : p.size ≤ 20000 := p3
   have hst := strong_same p hp
   cases ok with
   | false =>
    refine ⟨bad0, Ev.congr (fun k => spec_TakeAnswer.f.eq_1 ..) (Ev.bind hm1 (Ev.ite_pos ⟨rfl, hk⟩ (Ev.bind b2 (Ev.bind p2' (Ev.ite_pos (by show p.size ≤ 1000000000; omega) (Ev.ite_neg (by simp) Ev.some)))))), Ev.congr (fun k => impl_TakeAnswer.f.eq_1 ..) (Ev.bind hm2 (Ev.ite_pos rfl ?_))⟩
    rw [show (kd != 1) = false by rw [hk]; rfl]
    exact Ev.succ (fun k => impl_TakeAnswer.j0.eq_2 ..) (Ev.ite_neg (by decide) (Ev.bind b1 (Ev.bind p1' (Ev.ite_neg (by simp) Ev.some))))
   | true =>
    by_cases he : strOfNums (Go.Proofs.YtjiaigjmihmdjaaDoor.Sum.strongS p) = u
    ·refine ⟨(p, true), Ev.congr (fun k => spec_TakeAnswer.f.eq_1 ..) (Ev.bind hm1 (Ev.ite_pos ⟨rfl, hk⟩ (Ev.bind b2 (Ev.bind p2' (Ev.ite_pos (by show p.size ≤ 1000000000; omega) (Ev.ite_pos ⟨rfl, he⟩ Ev.some)))))), Ev.congr (fun k => impl_TakeAnswer.f.eq_1 ..) (Ev.bind hm2 (Ev.ite_pos rfl ?_))⟩
     rw [show (kd != 1) = false by rw [hk]; rfl]
     refine Ev.succ (fun k => impl_TakeAnswer.j0.eq_2 ..) (Ev.ite_neg (by decide) (Ev.bind b1 (Ev.bind p1' (Ev.ite_pos rfl ?_))))
     refine Ev.bind' hst (Ev.ite_pos ?_ Ev.some)
     rw [he]
    ·refine ⟨bad0, Ev.congr (fun k => spec_TakeAnswer.f.eq_1 ..) (Ev.bind hm1 (Ev.ite_pos ⟨rfl, hk⟩ (Ev.bind b2 (Ev.bind p2' (Ev.ite_pos (by show p.size ≤ 1000000000; omega) (Ev.ite_neg (fun h => he h.2) Ev.some)))))), Ev.congr (fun k => impl_TakeAnswer.f.eq_1 ..) (Ev.bind hm2 (Ev.ite_pos rfl ?_))⟩
     rw [show (kd != 1) = false by rw [hk]; rfl]
     refine Ev.succ (fun k => impl_TakeAnswer.j0.eq_2 ..) (Ev.ite_neg (by decide) (Ev.bind b1 (Ev.bind p1' (Ev.ite_pos rfl ?_))))
     exact Ev.bind' hst (Ev.ite_neg (fun h => he (toList_inj.1 h)) Ev.some)
  ·refine ⟨bad0, Ev.congr (fun k => spec_TakeAnswer.f.eq_1 ..) (Ev.bind hm1 (Ev.ite_neg (fun h => hk h.2) Ev.some)), Ev.congr (fun k => impl_TakeAnswer.f.eq_1 ..) (Ev.bind hm2 (Ev.ite_pos rfl ?_))⟩
   rw [show (kd != 1) = true by rw [bne_iff_ne]; exact hk]
   exact no
/-! ### What is small enough -/
def Sz (a : Nat) (r : Int) : Prop := r = -1 ∨ ∃ b : Nat, r = b ∧ b ≤ a
theorem szString_l0 (x : List ByteArray) (hx : x.length ≤ 1048576) (hs : ∀ s ∈ x, s.size ≤ 9223372036854775807) : ∀ (m i a : Nat), i + m = x.length → a ≤ 1048576 → ∃ r, Ev (fun k => laws_szStringS.l0 k x (a : Int) (i : Int)) r ∧ Sz a r := by
 intro m
 induction m with
 | zero => intro i a hi ha; exact ⟨a, Ev.succ (fun k => laws_szStringS.l0.eq_2 ..) (Ev.ite_neg (by omega) Ev.some), .inr ⟨a, rfl, Nat.le_refl _⟩⟩
 | succ m ih =>
  intro i a hi ha
  have hsz : (rdOf ByteArray.empty x (i : Int)).size ≤ 9223372036854775807 := by
   unfold rdOf
   rw [show (i : Int).toNat = i by omega, List.getD_eq_getElem?_getD, List.getElem?_eq_getElem (by omega)]
   exact hs _ (List.getElem_mem (by omega))
  generalize hz : (rdOf ByteArray.empty x (i : Int)).size = z at hsz
  by_cases h : z ≤ a
  ·obtain ⟨r, h1, h2⟩ := ih (i + 1) (a - z) (by omega) (by omega)
   refine ⟨r, Ev.succ (fun k => laws_szStringS.l0.eq_2 ..) (Ev.ite_pos (by omega) (Ev.ite_pos (by omega) ?_)), ?_⟩
   ·rw [hz, wrap64_id (x := (a : Int) - (z : Int)) (by omega) (by omega), wrap64_id (x := (i : Int) + 1) (by omega) (by omega)]
    refine Ev.ite_neg (by omega) ?_
    rw [show (a : Int) - (z : Int) = ((a - z : Nat) : Int) by omega]
    exact h1
   ·rcases h2 with h2 | ⟨b, h2, h3⟩
    ·exact .inl h2
    ·exact .inr ⟨b, h2, by omega⟩
  ·refine ⟨-1, Ev.succ (fun k => laws_szStringS.l0.eq_2 ..) (Ev.ite_pos (by omega) (Ev.ite_pos (by omega) ?_)), .inl rfl⟩
   rw [hz, wrap64_id (x := (a : Int) - (z : Int)) (by omega) (by omega)]
   exact Ev.ite_pos (by omega) Ev.some
theorem szString (x : List ByteArray) (hl : x.length ≤ 9223372036854775807) (hs : ∀ s ∈ x, s.size ≤ 9223372036854775807) (a : Nat) (ha : a ≤ 1048576) : ∃ r, Ev (fun k => laws_szStringS.f k x (a : Int)) r ∧ (r = -1 ∨ ∃ b : Nat, r = b ∧ b ≤ a ∧ x.length ≤ a) := by
 by_cases h : x.length ≤ a
 ·obtain ⟨r, h1, h2⟩ := szString_l0 x (by omega) hs x.length 0 (a - x.length) (by omega) (by omega)
  refine ⟨r, Ev.congr (fun k => laws_szStringS.f.eq_1 ..) ?_, ?_⟩
  ·rw [wrap64_id (x := (a : Int) - (x.length : Int)) (by omega) (by omega)]
   refine Ev.ite_neg (by omega) ?_
   rw [show (a : Int) - (x.length : Int) = ((a - x.length : Nat) : Int) by omega]
   exact h1
  ·rcases h2 with h2 | ⟨b, h2, h3⟩
   ·exact .inl h2
   ·exact .inr ⟨b, h2, by omega, h⟩
 ·refine ⟨-1, Ev.congr (fun k => laws_szStringS.f.eq_1 ..) ?_, .inl rfl⟩
  rw [wrap64_id (x := (a : Int) - (x.length : Int)) (by omega) (by omega)]
  exact Ev.ite_pos (by omega) Ev.some
theorem szToken_l0 (x : List Tl) (hx : x.length ≤ 1048576) (hs : ∀ t ∈ x, t.f1.size ≤ 9223372036854775807) : ∀ (m i a : Nat), i + m = x.length → a ≤ 1048576 → ∃ r, Ev (fun k => laws_szTokenS.l0 k x (a : Int) (i : Int)) r ∧ Sz a r := by
 intro m
 induction m with
 | zero => intro i a hi ha; exact ⟨a, Ev.succ (fun k => laws_szTokenS.l0.eq_2 ..) (Ev.ite_neg (by omega) Ev.some), .inr ⟨a, rfl, Nat.le_refl _⟩⟩
 | succ m ih =>
  intro i a hi ha
  generalize ht : rd_T165 x (i : Int) = t
  have hsz : t.f1.size ≤ 9223372036854775807 := by
   rw [← ht]
   unfold rd_T165
   rw [show (i : Int).toNat = i by omega, List.getD_eq_getElem?_getD, List.getElem?_eq_getElem (by omega)]
   exact hs _ (List.getElem_mem (by omega))
  have htk : laws_szToken.f t.f0 t.f1 t.f2 t.f3 (a : Int) = some (if t.f1.size ≤ a then (a : Int) - (t.f1.size : Int) else -1) := by
   unfold laws_szToken.f
   rw [wrap64_id (x := (a : Int) - (t.f1.size : Int)) (by omega) (by omega)]
   by_cases h : t.f1.size ≤ a
   ·rw [if_neg (by omega), if_pos h]
   ·rw [if_pos (by omega), if_neg h]
  by_cases h : t.f1.size ≤ a
  ·rw [if_pos h] at htk
   obtain ⟨r, h1, h2⟩ := ih (i + 1) (a - t.f1.size) (by omega) (by omega)
   refine ⟨r, Ev.succ (fun k => laws_szTokenS.l0.eq_2 ..) (Ev.ite_pos (by omega) (Ev.ite_pos (by omega) ?_)), ?_⟩
   ·rw [ht]
    refine Ev.bind' htk (Ev.ite_neg (by omega) ?_)
    rw [wrap64_id (x := (i : Int) + 1) (by omega) (by omega), show (a : Int) - (t.f1.size : Int) = ((a - t.f1.size : Nat) : Int) by omega]
    exact h1
   ·rcases h2 with h2 | ⟨b, h2, h3⟩
    ·exact .inl h2
    ·exact .inr ⟨b, h2, by omega⟩
  ·rw [if_neg h] at htk
   refine ⟨-1, Ev.succ (fun k => laws_szTokenS.l0.eq_2 ..) (Ev.ite_pos (by omega) (Ev.ite_pos (by omega) ?_)), .inl rfl⟩
   rw [ht]
   exact Ev.bind' htk (Ev.ite_pos (by decide) Ev.some)
theorem szToken (x : List Tl) (hl : x.length ≤ 9223372036854775807) (hs : ∀ t ∈ x, t.f1.size ≤ 9223372036854775807) (a : Nat) (ha : a ≤ 1048576) : ∃ r, Ev (fun k => laws_szTokenS.f k x (a : Int)) r ∧ (r = -1 ∨ ∃ b : Nat, r = b ∧ b ≤ a ∧ x.length ≤ a) := by
 by_cases h : x.length ≤ a
 ·obtain ⟨r, h1, h2⟩ := szToken_l0 x (by omega) hs x.length 0 (a - x.length) (by omega) (by omega)
  refine ⟨r, Ev.congr (fun k => laws_szTokenS.f.eq_1 ..) ?_, ?_⟩
  ·rw [wrap64_id (x := (a : Int) - (x.length : Int)) (by omega) (by omega)]
   refine Ev.ite_neg (by omega) ?_
   rw [show (a : Int) - (x.length : Int) = ((a - x.length : Nat) : Int) by omega]
   exact h1
  ·rcases h2 with h2 | ⟨b, h2, h3⟩
   ·exact .inl h2
   ·exact .inr ⟨b, h2, by omega, h⟩
 ·refine ⟨-1, Ev.congr (fun k => laws_szTokenS.f.eq_1 ..) ?_, .inl rfl⟩
  rw [wrap64_id (x := (a : Int) - (x.length : Int)) (by omega) (by omega)]
  exact Ev.ite_pos (by omega) Ev.some
theorem szMsg (a b c d : Int) (w : List Int) (s : List ByteArray) (t : List Tl) (u : ByteArray) (hw : w.length ≤ 9223372036854775807) (hs : s.length ≤ 9223372036854775807) (ht : t.length ≤ 9223372036854775807) (hss : ∀ x ∈ s, x.size ≤ 9223372036854775807) (hts : ∀ x ∈ t, x.f1.size ≤ 9223372036854775807) (hu : u.size ≤ 9223372036854775807) :
  ∃ r, Ev (fun k => laws_szMsg.f k a b c d w s t u 1048576) r ∧ (r < 0 ∨ (w.length ≤ 1048576 ∧ s.length ≤ 1048576 ∧ t.length ≤ 1048576)) := by
 have e1 : ∀ p : Nat, p ≤ 1048576 → ∀ q : Nat, q ≤ 9223372036854775807 → wrap64 ((p : Int) - (q : Int)) = (p : Int) - (q : Int) := fun p hp q hq => wrap64_id (by omega) (by omega)
 have e0 : wrap64 ((1048576 : Int) - (w.length : Int)) = (1048576 : Int) - (w.length : Int) := wrap64_id (by omega) (by omega)
 by_cases hw2 : w.length ≤ 1048576
 ·have u1 : laws_szUint32S.f w 1048576 = some ((1048576 - w.length : Nat) : Int) := by
   unfold laws_szUint32S.f
   rw [e0, if_neg (by omega)]
   congr 1
   omega
  obtain ⟨r1, q1, q2⟩ := szString s hs hss (1048576 - w.length) (by omega)
  rcases q2 with q2 | ⟨n, q2, q3, q4⟩
  ·refine ⟨-1, Ev.congr (fun k => laws_szMsg.f.eq_1 ..) (Ev.bind (a := -1) (Ev.congr (fun k => laws_szSig.f.eq_1 ..) (Ev.bind' u1 (Ev.ite_neg (by omega) (Ev.bind q1 (Ev.ite_pos (by omega) Ev.some))))) (Ev.ite_pos (by decide) Ev.some)), .inl (by decide)⟩
  ·subst q2
   have sg : Ev (fun k => laws_szSig.f k c d w s 1048576) (n : Int) := Ev.congr (fun k => laws_szSig.f.eq_1 ..) (Ev.bind' u1 (Ev.ite_neg (by omega) (Ev.bind q1 (Ev.ite_neg (by omega) Ev.some))))
   obtain ⟨r2, p1, p2⟩ := szToken t ht hts n (by omega)
   rcases p2 with p2 | ⟨v, p2, p3, p4⟩
   ·exact ⟨-1, Ev.congr (fun k => laws_szMsg.f.eq_1 ..) (Ev.bind sg (Ev.ite_neg (by omega) (Ev.bind p1 (Ev.ite_pos (by omega) Ev.some)))), .inl (by decide)⟩
   ·subst p2
    by_cases hv : u.size ≤ v
    ·exact ⟨_, Ev.congr (fun k => laws_szMsg.f.eq_1 ..) (Ev.bind sg (Ev.ite_neg (by omega) (Ev.bind p1 (Ev.ite_neg (by omega) (Ev.ite_neg (by rw [e1 v (by omega) _ hu]; omega) Ev.some))))), .inr ⟨hw2, by omega, by omega⟩⟩
    ·exact ⟨-1, Ev.congr (fun k => laws_szMsg.f.eq_1 ..) (Ev.bind sg (Ev.ite_neg (by omega) (Ev.bind p1 (Ev.ite_neg (by omega) (Ev.ite_pos (by rw [e1 v (by omega) _ hu]; omega) Ev.some))))), .inl (by decide)⟩
 ·have u1 : laws_szUint32S.f w 1048576 = some (-1) := by
   unfold laws_szUint32S.f
   rw [e0, if_pos (by omega)]
  exact ⟨-1, Ev.congr (fun k => laws_szMsg.f.eq_1 ..) (Ev.bind (a := -1) (Ev.congr (fun k => laws_szSig.f.eq_1 ..) (Ev.bind' u1 (Ev.ite_pos (by decide) Ev.some))) (Ev.ite_pos (by decide) Ev.some)), .inl (by decide)⟩
/-! ### Copies -/
theorem rdB_ext {xs ys : List ByteArray} (hl : xs.length = ys.length) (h : ∀ j : Nat, j < xs.length → rdOf ByteArray.empty xs (j : Int) = rdOf ByteArray.empty ys (j : Int)) : xs = ys := by
 apply List.ext_getElem hl
 intro j h1 h2
 have := h j h1
 simpa [rdOf, List.getD_eq_getElem?_getD, List.getElem?_eq_getElem h1, List.getElem?_eq_getElem h2] using this
theorem rdT_ext {xs ys : List Tk} (hl : xs.length = ys.length) (h : ∀ j : Nat, j < xs.length → rd_T148 xs (j : Int) = rd_T148 ys (j : Int)) : xs = ys := by
 apply List.ext_getElem hl
 intro j h1 h2
 have := h j h1
 simpa [rd_T148, List.getD_eq_getElem?_getD, List.getElem?_eq_getElem h1, List.getElem?_eq_getElem h2] using this
theorem toUint32S_l0 (x0 : List Int) (hx : x0.length ≤ 1048576) : ∀ (m i : Nat) (y : List Int), i + m = x0.length → y.length = x0.length → (∀ j : Nat, j < i → rd y (j : Int) = rd x0 (j : Int)) → Ev (fun k => laws_toUint32S.l0 k x0 y (i : Int)) x0 := by
 intro m
 induction m with
 | zero =>
  intro i y hi hy h
  have e : y = x0 := rd_ext hy (fun j hj => h j (by omega))
  refine Ev.succ (fun k => laws_toUint32S.l0.eq_2 ..) (Ev.ite_neg (by omega) ?_)
  rw [e]; exact Ev.some
 | succ m ih =>
  intro i y hi hy h
  refine Ev.succ (fun k => laws_toUint32S.l0.eq_2 ..) (Ev.ite_pos (by omega) (Ev.ite_pos (by omega) (Ev.ite_pos (by omega) ?_)))
  rw [wrap64_id (by omega) (by omega), show ((i : Nat) : Int).toNat = i by omega]
  refine ih (i + 1) _ (by omega) (by rw [List.length_set]; exact hy) (fun j hj => ?_)
  rw [rd_set y i j _ (by omega)]
  by_cases e : i = j
  ·rw [if_pos e, e]
  ·rw [if_neg e]; exact h j (by omega)
theorem toUint32S_says (x0 : List Int) (hx : x0.length ≤ 1048576) : Ev (fun k => laws_toUint32S.f k x0) x0 :=
 Ev.congr (fun k => laws_toUint32S.f.eq_1 ..) (Ev.ite_pos (by omega) (Ev.ite_pos (by omega) (toUint32S_l0 x0 hx x0.length 0 _ (by omega) (by simp) (fun j hj => by omega))))
theorem toStringS_l0 (x0 : List ByteArray) (hx : x0.length ≤ 1048576) : ∀ (m i : Nat) (y : List ByteArray), i + m = x0.length → y.length = x0.length → (∀ j : Nat, j < i → rdOf ByteArray.empty y (j : Int) = rdOf ByteArray.empty x0 (j : Int)) → Ev (fun k => laws_toStringS.l0 k x0 y (i : Int)) x0 := by
 intro m
 induction m with
 | zero =>
  intro i y hi hy h
  have e : y = x0 := rdB_ext hy (fun j hj => h j (by omega))
  refine Ev.succ (fun k => laws_toStringS.l0.eq_2 ..) (Ev.ite_neg (by omega) ?_)
  rw [e]; exact Ev.some
 | succ m ih =>
  intro i y hi hy h
  refine Ev.succ (fun k => laws_toStringS.l0.eq_2 ..) (Ev.ite_pos (by omega) (Ev.ite_pos (by omega) (Ev.ite_pos (by omega) ?_)))
  rw [wrap64_id (by omega) (by omega), show ((i : Nat) : Int).toNat = i by omega]
  refine ih (i + 1) _ (by omega) (by rw [List.length_set]; exact hy) (fun j hj => ?_)
  rw [rdB_set y i j _ (by omega)]
  by_cases e : i = j
  ·rw [if_pos e, e]
  ·rw [if_neg e]; exact h j (by omega)
theorem toStringS_says (x0 : List ByteArray) (hx : x0.length ≤ 1048576) : Ev (fun k => laws_toStringS.f k x0) x0 :=
 Ev.congr (fun k => laws_toStringS.f.eq_1 ..) (Ev.ite_pos (by omega) (Ev.ite_pos (by omega) (toStringS_l0 x0 hx x0.length 0 _ (by omega) (by simp) (fun j hj => by omega))))
def conv (t : Tl) : Tk := ⟨t.f0, t.f1, t.f2, t.f3⟩
theorem rd_conv (x0 : List Tl) (j : Nat) (h : j < x0.length) : rd_T148 (x0.map conv) (j : Int) = conv (rd_T165 x0 (j : Int)) := by
 unfold rd_T148 rd_T165
 rw [show (j : Int).toNat = j by omega, List.getD_eq_getElem?_getD, List.getD_eq_getElem?_getD, List.getElem?_map, List.getElem?_eq_getElem h]
 rfl
theorem toTokenS_l0 (x0 : List Tl) (hx : x0.length ≤ 1048576) : ∀ (m i : Nat) (y : List Tk), i + m = x0.length → y.length = x0.length → (∀ j : Nat, j < i → rd_T148 y (j : Int) = rd_T148 (x0.map conv) (j : Int)) → Ev (fun k => laws_toTokenS.l0 k x0 y (i : Int)) (x0.map conv) := by
 intro m
 induction m with
 | zero =>
  intro i y hi hy h
  have e : y = x0.map conv := rdT_ext (by rw [hy, List.length_map]) (fun j hj => h j (by omega))
  refine Ev.succ (fun k => laws_toTokenS.l0.eq_2 ..) (Ev.ite_neg (by omega) ?_)
  rw [e]; exact Ev.some
 | succ m ih =>
  intro i y hi hy h
  refine Ev.succ (fun k => laws_toTokenS.l0.eq_2 ..) (Ev.ite_pos (by omega) (Ev.ite_pos (by omega) ?_))
  refine Ev.bind' rfl (Ev.ite_pos (by omega) ?_)
  rw [wrap64_id (by omega) (by omega), show ((i : Nat) : Int).toNat = i by omega]
  refine ih (i + 1) _ (by omega) (by rw [List.length_set]; exact hy) (fun j hj => ?_)
  rw [rdT_set y i j _ (by omega)]
  by_cases e : i = j
  ·rw [if_pos e, ← e, rd_conv x0 i (by omega)]; rfl
  ·rw [if_neg e]; exact h j (by omega)
theorem toTokenS_says (x0 : List Tl) (hx : x0.length ≤ 1048576) : Ev (fun k => laws_toTokenS.f k x0) (x0.map conv) :=
 Ev.congr (fun k => laws_toTokenS.f.eq_1 ..) (Ev.ite_pos (by omega) (Ev.ite_pos (by omega) (toTokenS_l0 x0 hx x0.length 0 _ (by omega) (by simp) (fun j hj => by omega))))
theorem toMsg_says (a b c d : Int) (w : List Int) (s : List ByteArray) (t : List Tl) (u : ByteArray) (hw : w.length ≤ 1048576) (hs : s.length ≤ 1048576) (ht : t.length ≤ 1048576) : Ev (fun k => laws_toMsg.f k a b c d w s t u) (a, b, c, d, w, s, t.map conv, u) :=
 Ev.congr (fun k => laws_toMsg.f.eq_1 ..) (Ev.bind (a := (c, d, w, s)) (Ev.congr (fun k => laws_toSig.f.eq_1 ..) (Ev.bind (toUint32S_says w hw) (Ev.bind (toStringS_says s hs) Ev.some))) (Ev.bind (toTokenS_says t ht) Ev.some))
/-! ### The law -/
theorem law (a b c d : Int) (w : List Int) (s : List ByteArray) (t : List Tl) (u old : ByteArray) (hw : w.length ≤ 9223372036854775807) (hs : s.length ≤ 9223372036854775807) (ht : t.length ≤ 9223372036854775807) (hss : ∀ x ∈ s, x.size ≤ 9223372036854775807) (hts : ∀ x ∈ t, x.f1.size ≤ 9223372036854775807) (hu : u.size ≤ 9223372036854775807) :
  ∃ k, laws_FnExactTakeAnswer.f k a b c d w s t u old = some true := by
 apply Ev.get
 refine Ev.congr (fun k => laws_FnExactTakeAnswer.f.eq_1 ..) ?_
 by_cases ho : old.size ≤ 1048576
 ·refine Ev.ite_neg (by omega) ?_
  obtain ⟨r, r1, r2⟩ := szMsg a b c d w s t u hw hs ht hss hts hu
  refine Ev.bind r1 ?_
  by_cases hr : r < 0
  ·exact Ev.ite_pos hr Ev.some
  ·refine Ev.ite_neg hr ?_
   obtain ⟨w2, s2, t2⟩ := r2.resolve_left hr
   have hto := toMsg_says a b c d w s t u w2 s2 t2
   obtain ⟨⟨p, ok⟩, h1, h2⟩ := take_same a b c d w s (t.map conv) u old w2 s2
   have hq := eqMsg_says a b c d w s (t.map conv) u w2 s2 (by rw [List.length_map]; exact t2)
   have hself : (ok != ok) = false := by cases ok <;> rfl
   refine Ev.bind hto (Ev.bind h1 (Ev.bind hto (Ev.bind h2 (Ev.ite_pos rfl ?_))))
   show Ev (fun k => laws_FnExactTakeAnswer.j0 k (ok != ok) a b c d w s t u a b c d w s (t.map conv) u) true
   rw [hself]
   exact Ev.succ (fun k => laws_FnExactTakeAnswer.j0.eq_2 ..) (Ev.ite_neg (by decide) (Ev.bind hto (Ev.bind hq (Ev.ite_pos rfl Ev.some))))
 ·exact Ev.ite_pos (by omega) Ev.some
end Go.Proofs.YtjiaigjmihmdjaaDoor.Pure
