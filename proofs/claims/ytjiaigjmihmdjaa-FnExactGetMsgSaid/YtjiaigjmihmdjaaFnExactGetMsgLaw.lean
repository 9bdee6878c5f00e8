
/- The law's own loops: copies, comparisons, marks; and the law. Plain Lean. -/
import Derived.Test.YtjiaigjmihmdjaaPFnExactGetMsgx19
import Derived.Test.YtjiaigjmihmdjaaFnExactGetMsgMsg
namespace Go.Proofs.Ytjiaigjmihmdjaa.Pure
open Go.RowKit Go.Proofs.Ytjiaigjmihmdjaa.PFnExactGetMsg Go.Proofs.YtjiaigjmihmdjaaW.PrintWords Go.Proofs.YtjiaigjmihmdjaaW.PrintLast Go.Proofs.YtjiaigjmihmdjaaW.PrintMore
set_option linter.unusedVariables false
set_option linter.unusedSimpArgs false
theorem rd_set (xs : List Int) (i j : Nat) (v : Int) (hi : i < xs.length) : rd (xs.set i v) (j : Int) = if i = j then v else rd xs (j : Int) := by
 unfold rd
 have e : ((j : Nat) : Int).toNat = j := by omega
 rw [e, List.getD_eq_getElem?_getD, List.getD_eq_getElem?_getD, List.getElem?_set]
 by_cases h : i = j
 ·subst h; simp [hi]
 ·simp [h]
theorem rdB_set (xs : List ByteArray) (i j : Nat) (v : ByteArray) (hi : i < xs.length) : rdOf ByteArray.empty (xs.set i v) (j : Int) = if i = j then v else rdOf ByteArray.empty xs (j : Int) := by
 unfold rdOf
 have e : ((j : Nat) : Int).toNat = j := by omega
 rw [e, List.getD_eq_getElem?_getD, List.getD_eq_getElem?_getD, List.getElem?_set]
 by_cases h : i = j
 ·subst h; simp [hi]
 ·simp [h]
theorem rdT_set (xs : List S72) (i j : Nat) (v : S72) (hi : i < xs.length) : rd_T72 (xs.set i v) (j : Int) = if i = j then v else rd_T72 xs (j : Int) := by
 unfold rd_T72
 have e : ((j : Nat) : Int).toNat = j := by omega
 rw [e, List.getD_eq_getElem?_getD, List.getD_eq_getElem?_getD, List.getElem?_set]
 by_cases h : i = j
 ·subst h; simp [hi]
 ·simp [h]
theorem rd_ext {xs ys : List Int} (hl : xs.length = ys.length) (h : ∀ j : Nat, j < xs.length → rd xs (j : Int) = rd ys (j : Int)) : xs = ys := by
 apply List.ext_getElem hl
 intro j h1 h2
 have := h j h1
 simpa [rd, List.getD_eq_getElem?_getD, List.getElem?_eq_getElem h1, List.getElem?_eq_getElem h2] using this
theorem toByteS_l0 (x0 : List Int) (hx : x0.length ≤ 1048576) : ∀ (m i : Nat) (y : List Int), i + m = x0.length → y.length = x0.length → (∀ j : Nat, j < i → rd y (j : Int) = rd x0 (j : Int)) → Ev (fun k => laws_toByteS.l0 k x0 y (i : Int)) x0 := by
 intro m
 induction m with
 | zero =>
  intro i y hi hy h
  have e : y = x0 := rd_ext hy (fun j hj => h j (by omega))
  refine Ev.succ (fun k => laws_toByteS.l0.eq_2 ..) (Ev.ite_neg (by omega) ?_)
  rw [e]; exact Ev.some
 | succ m ih =>
  intro i y hi hy h
  refine Ev.succ (fun k => laws_toByteS.l0.eq_2 ..) (Ev.ite_pos (by omega) (Ev.ite_pos (by omega) (Ev.ite_pos (by omega) ?_)))
  rw [wrap64_id (by omega) (by omega), show ((i : Nat) : Int).toNat = i by omega]
  refine ih (i + 1) _ (by omega) (by rw [List.length_set]; exact hy) (fun j hj => ?_)
  rw [rd_set y i j _ (by omega)]
  by_cases e : i = j
  ·rw [if_pos e, e]
  ·rw [if_neg e]; exact h j (by omega)
theorem toByteS_says (x0 : List Int) (hx : x0.length ≤ 1048576) : Ev (fun k => laws_toByteS.f k x0) x0 :=
 Ev.congr (fun k => laws_toByteS.f.eq_1 ..) (Ev.ite_pos (by omega) (Ev.ite_pos (by omega) (toByteS_l0 x0 hx x0.length 0 _ (by omega) (by simp) (fun j hj => by omega))))
theorem eqByteS_l0 (x : List Int) (hx : x.length ≤ 1048576) : ∀ (m i : Nat), i + m = x.length → Ev (fun k => laws_eqByteS.l0 k x x (i : Int)) true := by
 intro m
 induction m with
 | zero => intro i hi; exact Ev.succ (fun k => laws_eqByteS.l0.eq_2 ..) (Ev.ite_neg (by omega) Ev.some)
 | succ m ih =>
  intro i hi
  refine Ev.succ (fun k => laws_eqByteS.l0.eq_2 ..) (Ev.ite_pos (by omega) (Ev.ite_pos (by omega) (Ev.ite_pos (by omega) (Ev.ite_pos rfl ?_))))
  rw [wrap64_id (by omega) (by omega)]
  exact ih (i + 1) (by omega)
theorem eqByteS_says (x : List Int) (hx : x.length ≤ 1048576) : Ev (fun k => laws_eqByteS.f k x x) true := Ev.congr (fun k => laws_eqByteS.f.eq_1 ..) (Ev.ite_pos rfl (eqByteS_l0 x hx x.length 0 (by omega)))
theorem eqUint32S_l0 (x : List Int) (hx : x.length ≤ 1048576) : ∀ (m i : Nat), i + m = x.length → Ev (fun k => laws_eqUint32S.l0 k x x (i : Int)) true := by
 intro m
 induction m with
 | zero => intro i hi; exact Ev.succ (fun k => laws_eqUint32S.l0.eq_2 ..) (Ev.ite_neg (by omega) Ev.some)
 | succ m ih =>
  intro i hi
  refine Ev.succ (fun k => laws_eqUint32S.l0.eq_2 ..) (Ev.ite_pos (by omega) (Ev.ite_pos (by omega) (Ev.ite_pos (by omega) (Ev.ite_pos rfl ?_))))
  rw [wrap64_id (by omega) (by omega)]
  exact ih (i + 1) (by omega)
theorem eqUint32S_says (x : List Int) (hx : x.length ≤ 1048576) : Ev (fun k => laws_eqUint32S.f k x x) true := Ev.congr (fun k => laws_eqUint32S.f.eq_1 ..) (Ev.ite_pos rfl (eqUint32S_l0 x hx x.length 0 (by omega)))
theorem eqStringS_l0 (x : List ByteArray) (hx : x.length ≤ 1048576) : ∀ (m i : Nat), i + m = x.length → Ev (fun k => laws_eqStringS.l0 k x x (i : Int)) true := by
 intro m
 induction m with
 | zero => intro i hi; exact Ev.succ (fun k => laws_eqStringS.l0.eq_2 ..) (Ev.ite_neg (by omega) Ev.some)
 | succ m ih =>
  intro i hi
  refine Ev.succ (fun k => laws_eqStringS.l0.eq_2 ..) (Ev.ite_pos (by omega) (Ev.ite_pos (by omega) (Ev.ite_pos (by omega) (Ev.ite_pos rfl ?_))))
  rw [wrap64_id (by omega) (by omega)]
  exact ih (i + 1) (by omega)
theorem eqStringS_says (x : List ByteArray) (hx : x.length ≤ 1048576) : Ev (fun k => laws_eqStringS.f k x x) true := Ev.congr (fun k => laws_eqStringS.f.eq_1 ..) (Ev.ite_pos rfl (eqStringS_l0 x hx x.length 0 (by omega)))
theorem eqToken_says (a b : Int) (s : ByteArray) (c : Int) : laws_eqToken.f a s b c a s b c = some true := by simp [laws_eqToken.f]
theorem eqTokenS_l0 (x : List S72) (hx : x.length ≤ 1048576) : ∀ (m i : Nat), i + m = x.length → Ev (fun k => laws_eqTokenS.l0 k x x (i : Int)) true := by
 intro m
 induction m with
 | zero => intro i hi; exact Ev.succ (fun k => laws_eqTokenS.l0.eq_2 ..) (Ev.ite_neg (by omega) Ev.some)
 | succ m ih =>
  intro i hi
  refine Ev.succ (fun k => laws_eqTokenS.l0.eq_2 ..) (Ev.ite_pos (by omega) (Ev.ite_pos (by omega) (Ev.ite_pos (by omega) (Ev.bind' (eqToken_says ..) (Ev.ite_pos rfl ?_)))))
  rw [wrap64_id (by omega) (by omega)]
  exact ih (i + 1) (by omega)
theorem eqTokenS_says (x : List S72) (hx : x.length ≤ 1048576) : Ev (fun k => laws_eqTokenS.f k x x) true := Ev.congr (fun k => laws_eqTokenS.f.eq_1 ..) (Ev.ite_pos rfl (eqTokenS_l0 x hx x.length 0 (by omega)))
theorem eqMsg_says (a b c d : Int) (w : List Int) (s : List ByteArray) (t : List S72) (u : ByteArray) (hw : w.length ≤ 1048576) (hs : s.length ≤ 1048576) (ht : t.length ≤ 1048576) : Ev (fun k => laws_eqMsg.f k a b c d w s t u a b c d w s t u) true := by
 refine Ev.congr (fun k => laws_eqMsg.f.eq_1 ..) (Ev.ite_pos rfl (Ev.ite_pos rfl (Ev.bind (a := true) ?_ (Ev.ite_pos rfl (Ev.bind (eqTokenS_says t ht) (Ev.ite_pos rfl (Ev.ite_pos rfl Ev.some)))))))
 exact Ev.congr (fun k => laws_eqSig.f.eq_1 ..) (Ev.ite_pos rfl (Ev.ite_pos rfl (Ev.bind (eqUint32S_says w hw) (Ev.ite_pos rfl (Ev.bind (eqStringS_says s hs) (Ev.ite_pos rfl Ev.some))))))
/-! ### Marks -/
theorem markByteS_l0 : ∀ (m : Nat) (xs : List Int) (c i : Nat), i + m = xs.length → c + m ≤ 10000000 → xs.length ≤ 1048576 → ∃ ys, Ev (fun k => laws_markByteS.l0 k xs (c : Int) (i : Int)) (((c + m : Nat) : Int), ys) := by
 intro m
 induction m with
 | zero => intro xs c i hi hc hx; exact ⟨xs, Ev.succ (fun k => laws_markByteS.l0.eq_2 ..) (Ev.ite_neg (by omega) Ev.some)⟩
 | succ m ih =>
  intro xs c i hi hc hx
  obtain ⟨ys, h⟩ := ih (xs.set ((i : Nat) : Int).toNat ((c : Int) % 256)) (c + 1) (i + 1) (by rw [List.length_set]; omega) (by omega) (by rw [List.length_set]; omega)
  refine ⟨ys, Ev.succ (fun k => laws_markByteS.l0.eq_2 ..) (Ev.ite_pos (by omega) (Ev.ite_pos (by omega) ?_))⟩
  rw [wrap64_id (x := (c : Int) + 1) (by omega) (by omega), wrap64_id (x := (i : Int) + 1) (by omega) (by omega), show c + (m + 1) = c + 1 + m by omega]
  exact h
theorem markUint32S_l0 (c0 : Nat) : ∀ (m : Nat) (xs : List Int) (i : Nat), i + m = xs.length → c0 + xs.length ≤ 10000000 → (∀ j : Nat, j < i → rd xs (j : Int) = ((c0 + j : Nat) : Int) % 4294967296) →
  ∃ ys, Ev (fun k => laws_markUint32S.l0 k xs ((c0 + i : Nat) : Int) (i : Int)) (((c0 + xs.length : Nat) : Int), ys) ∧ ys.length = xs.length ∧ ∀ j : Nat, j < xs.length → rd ys (j : Int) = ((c0 + j : Nat) : Int) % 4294967296 := by
 intro m
 induction m with
 | zero =>
  intro xs i hi hc h
  refine ⟨xs, Ev.succ (fun k => laws_markUint32S.l0.eq_2 ..) (Ev.ite_neg (by omega) ?_), rfl, fun j hj => h j (by omega)⟩
  rw [show c0 + i = c0 + xs.length by omega]; exact Ev.some
 | succ m ih =>
  intro xs i hi hc h
  obtain ⟨ys, h1, h2, h3⟩ := ih (xs.set i (((c0 + i : Nat) : Int) % 4294967296)) (i + 1) (by rw [List.length_set]; omega) (by rw [List.length_set]; omega) (fun j hj => by
   rw [rd_set _ _ _ _ (by omega)]
   by_cases e : i = j
   ·rw [if_pos e, e]
   ·rw [if_neg e]; exact h j (by omega))
  rw [List.length_set] at h1 h2 h3
  refine ⟨ys, Ev.succ (fun k => laws_markUint32S.l0.eq_2 ..) (Ev.ite_pos (by omega) (Ev.ite_pos (by omega) ?_)), h2, h3⟩
  rw [wrap64_id (x := ((c0 + i : Nat) : Int) + 1) (by omega) (by omega), wrap64_id (x := (i : Int) + 1) (by omega) (by omega), show ((i : Nat) : Int).toNat = i by omega]
  exact h1
theorem heldUint32S_l0 (c0 : Nat) (ys : List Int) (hc : c0 + ys.length ≤ 10000000) (h : ∀ j : Nat, j < ys.length → rd ys (j : Int) = ((c0 + j : Nat) : Int) % 4294967296) : ∀ (m i : Nat), i + m = ys.length →
  Ev (fun k => laws_heldUint32S.l0 k ys ((c0 + i : Nat) : Int) (i : Int)) ((c0 + ys.length : Nat) : Int) := by
 intro m
 induction m with
 | zero =>
  intro i hi
  refine Ev.succ (fun k => laws_heldUint32S.l0.eq_2 ..) (Ev.ite_neg (by omega) ?_)
  rw [show c0 + i = c0 + ys.length by omega]; exact Ev.some
 | succ m ih =>
  intro i hi
  have := ih (i + 1) (by omega)
  refine Ev.succ (fun k => laws_heldUint32S.l0.eq_2 ..) (Ev.ite_pos (by omega) (Ev.ite_pos (by omega) (Ev.ite_pos (h i (by omega)) ?_)))
  rw [wrap64_id (x := ((c0 + i : Nat) : Int) + 1) (by omega) (by omega), wrap64_id (x := (i : Int) + 1) (by omega) (by omega)]
  exact this
theorem markText_l0 : ∀ (n x : Nat) (s : ByteArray), x ≤ n → s.size + x ≤ 100000000 → ∃ b, Ev (fun k => laws_markText.l0 k (x : Int) s) b := by
 intro n
 induction n with
 | zero =>
  intro x s hx hs
  exact ⟨_, Ev.succ (fun k => laws_markText.l0.eq_2 ..) (Ev.ite_neg (by omega) (Ev.ite_pos (by omega) Ev.some))⟩
 | succ n ih =>
  intro x s hx hs
  by_cases h : 0 < x
  ·have e : wrap64 (Int.tdiv (x : Int) 10) = ((x / 10 : Nat) : Int) := by
    rw [Int.tdiv_eq_ediv_of_nonneg (by omega), wrap64_id (by omega) (by omega)]; omega
   have hz : (strOfNums [(wrap64 (48 + (Int.tmod (x : Int) 10))) % 256]).size = 1 := strOfNums_size _
   have hz2 : ((strOfNums [(wrap64 (48 + (Int.tmod (x : Int) 10))) % 256]) ++ s).size = 1 + s.size := by rw [ByteArray.size_append, hz]
   obtain ⟨b, hb⟩ := ih (x / 10) ((strOfNums [(wrap64 (48 + (Int.tmod (x : Int) 10))) % 256]) ++ s) (by omega) (by rw [hz2]; omega)
   refine ⟨b, Ev.succ (fun k => laws_markText.l0.eq_2 ..) (Ev.ite_pos (by omega) (Ev.some_bind (Ev.ite_pos (by omega) ?_)))⟩
   rw [e]; exact hb
  ·exact ⟨_, Ev.succ (fun k => laws_markText.l0.eq_2 ..) (Ev.ite_neg (by omega) (Ev.ite_pos (by omega) Ev.some))⟩
theorem markText_ex (c : Nat) (hc : c ≤ 10000000) : ∃ b, Ev (fun k => laws_markText.f k (c : Int)) b := by
 by_cases h : 0 < c
 ·obtain ⟨b, hb⟩ := markText_l0 c c ⟨#[]⟩ (Nat.le_refl _) (by rw [zero_size]; omega)
  exact ⟨b, Ev.congr (fun k => laws_markText.f.eq_1 ..) (Ev.ite_neg (by omega) hb)⟩
 ·exact ⟨_, Ev.congr (fun k => laws_markText.f.eq_1 ..) (Ev.ite_pos (by omega) Ev.some)⟩
/-- The mark's text. -/
noncomputable def mtx (c : Nat) : ByteArray := if h : c ≤ 10000000 then Classical.choose (markText_ex c h) else ⟨#[]⟩
theorem mtx_says (c : Nat) (hc : c ≤ 10000000) : Ev (fun k => laws_markText.f k (c : Int)) (mtx c) := by
 unfold mtx
 rw [dif_pos hc]
 exact Classical.choose_spec (markText_ex c hc)
theorem markStringS_l0 (c0 : Nat) : ∀ (m : Nat) (xs : List ByteArray) (i : Nat), i + m = xs.length → c0 + xs.length ≤ 1000000 → (∀ j : Nat, j < i → rdOf ByteArray.empty xs (j : Int) = mtx (c0 + j)) →
  ∃ ys, Ev (fun k => laws_markStringS.l0 k xs ((c0 + i : Nat) : Int) (i : Int)) (((c0 + xs.length : Nat) : Int), ys) ∧ ys.length = xs.length ∧ ∀ j : Nat, j < xs.length → rdOf ByteArray.empty ys (j : Int) = mtx (c0 + j) := by
 intro m
 induction m with
 | zero =>
  intro xs i hi hc h
  refine ⟨xs, Ev.succ (fun k => laws_markStringS.l0.eq_2 ..) (Ev.ite_neg (by omega) ?_), rfl, fun j hj => h j (by omega)⟩
  rw [show c0 + i = c0 + xs.length by omega]; exact Ev.some
 | succ m ih =>
  intro xs i hi hc h
  obtain ⟨ys, h1, h2, h3⟩ := ih (xs.set i (mtx (c0 + i))) (i + 1) (by rw [List.length_set]; omega) (by rw [List.length_set]; omega) (fun j hj => by
   rw [rdB_set _ _ _ _ (by omega)]
   by_cases e : i = j
   ·rw [if_pos e, e]
   ·rw [if_neg e]; exact h j (by omega))
  rw [List.length_set] at h1 h2 h3
  refine ⟨ys, Ev.succ (fun k => laws_markStringS.l0.eq_2 ..) (Ev.ite_pos (by omega) (Ev.bind (mtx_says (c0 + i) (by omega)) (Ev.ite_pos (by omega) ?_))), h2, h3⟩
  rw [wrap64_id (x := ((c0 + i : Nat) : Int) + 1) (by omega) (by omega), wrap64_id (x := (i : Int) + 1) (by omega) (by omega), show ((i : Nat) : Int).toNat = i by omega]
  exact h1
theorem heldStringS_l0 (c0 : Nat) (ys : List ByteArray) (hc : c0 + ys.length ≤ 1000000) (h : ∀ j : Nat, j < ys.length → rdOf ByteArray.empty ys (j : Int) = mtx (c0 + j)) : ∀ (m i : Nat), i + m = ys.length →
  Ev (fun k => laws_heldStringS.l0 k ys ((c0 + i : Nat) : Int) (i : Int)) ((c0 + ys.length : Nat) : Int) := by
 intro m
 induction m with
 | zero =>
  intro i hi
  refine Ev.succ (fun k => laws_heldStringS.l0.eq_2 ..) (Ev.ite_neg (by omega) ?_)
  rw [show c0 + i = c0 + ys.length by omega]; exact Ev.some
 | succ m ih =>
  intro i hi
  have := ih (i + 1) (by omega)
  refine Ev.succ (fun k => laws_heldStringS.l0.eq_2 ..) (Ev.ite_pos (by omega) (Ev.ite_pos (by omega) (Ev.bind (mtx_says (c0 + i) (by omega)) (Ev.ite_pos (by rw [h i (by omega)]) ?_))))
  rw [wrap64_id (x := ((c0 + i : Nat) : Int) + 1) (by omega) (by omega), wrap64_id (x := (i : Int) + 1) (by omega) (by omega)]
  exact this
/-- A token's mark. -/
noncomputable def tmk (c : Nat) : S72 := ⟨(c : Int), mtx (c + 1), ((c + 2 : Nat) : Int), ((c + 3 : Nat) : Int)⟩
theorem rdT_self (xs : List S72) (i : Nat) (v : S72) (hi : i < xs.length) : rd_T72 (xs.set i v) (i : Int) = v := by rw [rdT_set _ _ _ _ hi, if_pos rfl]
theorem markTokenS_l0 (c0 : Nat) : ∀ (m : Nat) (xs : List S72) (i : Nat), i + m = xs.length → c0 + 4 * xs.length ≤ 1000000 → (∀ j : Nat, j < i → rd_T72 xs (j : Int) = tmk (c0 + 4 * j)) →
  ∃ ys, Ev (fun k => laws_markTokenS.l0 k xs ((c0 + 4 * i : Nat) : Int) (i : Int)) (((c0 + 4 * xs.length : Nat) : Int), ys) ∧ ys.length = xs.length ∧ ∀ j : Nat, j < xs.length → rd_T72 ys (j : Int) = tmk (c0 + 4 * j) := by
 intro m
 induction m with
 | zero =>
  intro xs i hi hc h
  refine ⟨xs, Ev.succ (fun k => laws_markTokenS.l0.eq_2 ..) (Ev.ite_neg (by omega) ?_), rfl, fun j hj => h j (by omega)⟩
  rw [show i = xs.length by omega]; exact Ev.some
 | succ m ih =>
  intro xs i hi hc h
  have hlt : i < xs.length := by omega
  obtain ⟨ys, h1, h2, h3⟩ := ih (xs.set i (tmk (c0 + 4 * i))) (i + 1) (by rw [List.length_set]; omega) (by rw [List.length_set]; omega) (fun j hj => by
   rw [rdT_set _ _ _ _ (by omega)]
   by_cases e : i = j
   ·rw [if_pos e, e]
   ·rw [if_neg e]; exact h j (by omega))
  rw [List.length_set] at h1 h2 h3
  have e1 : wrap64 (((c0 + 4 * i : Nat) : Int) + 1) = ((c0 + 4 * i + 1 : Nat) : Int) := by rw [wrap64_id (by omega) (by omega)]; omega
  have e2 : wrap64 (((c0 + 4 * i + 1 : Nat) : Int) + 1) = ((c0 + 4 * i + 2 : Nat) : Int) := by rw [wrap64_id (by omega) (by omega)]; omega
  have e3 : wrap64 (((c0 + 4 * i + 2 : Nat) : Int) + 1) = ((c0 + 4 * i + 3 : Nat) : Int) := by rw [wrap64_id (by omega) (by omega)]; omega
  have e4 : wrap64 (((c0 + 4 * i + 3 : Nat) : Int) + 1) = ((c0 + 4 * (i + 1) : Nat) : Int) := by rw [wrap64_id (by omega) (by omega)]; omega
  have e5 : wrap64 ((i : Int) + 1) = ((i + 1 : Nat) : Int) := by rw [wrap64_id (by omega) (by omega)]; omega
  have ei : ((i : Nat) : Int).toNat = i := by omega
  refine ⟨ys, Ev.succ (fun k => laws_markTokenS.l0.eq_2 ..) (Ev.ite_pos (by omega) (Ev.ite_pos (by omega) ?_)), h2, h3⟩
  rw [e1, e2, e3, e4, e5, ei]
  refine Ev.some_bind ?_
  refine Ev.bind (mtx_says (c0 + 4 * i + 1) (by omega)) ?_
  refine Ev.some_bind ?_
  refine Ev.some_bind ?_
  simp only [List.set_set]
  rw [rdT_self _ _ _ hlt, rdT_self _ _ _ hlt, rdT_self _ _ _ hlt]
  exact h1
theorem heldTokenS_l0 (c0 : Nat) (ys : List S72) (hc : c0 + 4 * ys.length ≤ 1000000) (h : ∀ j : Nat, j < ys.length → rd_T72 ys (j : Int) = tmk (c0 + 4 * j)) : ∀ (m i : Nat), i + m = ys.length →
  Ev (fun k => laws_heldTokenS.l0 k ys ((c0 + 4 * i : Nat) : Int) (i : Int)) ((c0 + 4 * ys.length : Nat) : Int) := by
 intro m
 induction m with
 | zero =>
  intro i hi
  refine Ev.succ (fun k => laws_heldTokenS.l0.eq_2 ..) (Ev.ite_neg (by omega) ?_)
  rw [show i = ys.length by omega]; exact Ev.some
 | succ m ih =>
  intro i hi
  have := ih (i + 1) (by omega)
  have e1 : wrap64 (((c0 + 4 * i : Nat) : Int) + 1) = ((c0 + 4 * i + 1 : Nat) : Int) := by rw [wrap64_id (by omega) (by omega)]; omega
  have e2 : wrap64 (((c0 + 4 * i + 1 : Nat) : Int) + 1) = ((c0 + 4 * i + 2 : Nat) : Int) := by rw [wrap64_id (by omega) (by omega)]; omega
  have e3 : wrap64 (((c0 + 4 * i + 2 : Nat) : Int) + 1) = ((c0 + 4 * i + 3 : Nat) : Int) := by rw [wrap64_id (by omega) (by omega)]; omega
  have e4 : wrap64 (((c0 + 4 * i + 3 : Nat) : Int) + 1) = ((c0 + 4 * (i + 1) : Nat) : Int) := by rw [wrap64_id (by omega) (by omega)]; omega
  have e5 : wrap64 ((i : Int) + 1) = ((i + 1 : Nat) : Int) := by rw [wrap64_id (by omega) (by omega)]; omega
  refine Ev.succ (fun k => laws_heldTokenS.l0.eq_2 ..) (Ev.ite_pos (by omega) (Ev.ite_pos (by omega) ?_))
  rw [e1, e2, e3, e4, e5, h i (by omega)]
  exact Ev.ite_pos rfl (Ev.bind (mtx_says (c0 + 4 * i + 1) (by omega)) (Ev.ite_pos rfl (Ev.ite_pos rfl (Ev.ite_pos rfl this))))
theorem marks (a b c d : Int) (w : List Int) (s : List ByteArray) (t : List S72) (u : ByteArray) (hw : w.length ≤ 100000) (hs : s.length ≤ 100000) (ht : t.length ≤ 100000) :
  ∃ (n : Nat) (w' : List Int) (s' : List ByteArray) (t' : List S72), Ev (fun k => laws_markMsg.f k a b c d w s t u 1) ((n : Int), w', s', t') ∧ Ev (fun k => laws_heldMsg.f k a b c d w' s' t' u 1) (n : Int) := by
 obtain ⟨w', a1, a2, a3⟩ := markUint32S_l0 1 w.length w 0 (by omega) (by omega) (fun j hj => by omega)
 obtain ⟨s', b1, b2, b3⟩ := markStringS_l0 (1 + w.length) s.length s 0 (by omega) (by omega) (fun j hj => by omega)
 obtain ⟨t', c1, c2, c3⟩ := markTokenS_l0 (1 + w.length + s.length) t.length t 0 (by omega) (by omega) (fun j hj => by omega)
 have A := heldUint32S_l0 1 w' (by omega) (by rw [a2]; exact a3) w'.length 0 (by omega)
 have Bh := heldStringS_l0 (1 + w.length) s' (by omega) (by rw [b2]; exact b3) s'.length 0 (by omega)
 have C := heldTokenS_l0 (1 + w.length + s.length) t' (by omega) (by rw [c2]; exact c3) t'.length 0 (by omega)
 rw [a2] at A
 rw [b2] at Bh
 rw [c2] at C
 refine ⟨1 + w.length + s.length + 4 * t.length, w', s', t', ?_, ?_⟩
 ·refine Ev.congr (fun k => laws_markMsg.f.eq_1 ..) (Ev.bind (a := (((1 + w.length + s.length : Nat) : Int), w', s')) ?_ (Ev.bind (Ev.congr (fun k => laws_markTokenS.f.eq_1 ..) c1) Ev.some))
  exact Ev.congr (fun k => laws_markSig.f.eq_1 ..) (Ev.bind (Ev.congr (fun k => laws_markUint32S.f.eq_1 ..) a1) (Ev.bind (Ev.congr (fun k => laws_markStringS.f.eq_1 ..) b1) Ev.some))
 ·refine Ev.congr (fun k => laws_heldMsg.f.eq_1 ..) (Ev.bind (a := ((1 + w.length + s.length : Nat) : Int)) ?_ (Ev.ite_neg (by omega) (Ev.bind (Ev.congr (fun k => laws_heldTokenS.f.eq_1 ..) C) (Ev.ite_neg (by omega) Ev.some))))
  exact Ev.congr (fun k => laws_heldSig.f.eq_1 ..) (Ev.bind (Ev.congr (fun k => laws_heldUint32S.f.eq_1 ..) A) (Ev.ite_neg (by omega) (Ev.bind (Ev.congr (fun k => laws_heldStringS.f.eq_1 ..) Bh) (Ev.ite_neg (by omega) Ev.some))))
theorem nums_of (l : List Int) (h : ∀ x ∈ l, (Lit.int .u8 x).wf = true) : ∃ L : List UInt8, l = nums L := by
 refine ⟨l.map fun x => UInt8.ofNat x.toNat, ?_⟩
 unfold nums
 rw [List.map_map]
 conv => lhs; rw [← List.map_id l]
 apply List.map_congr_left
 intro x hx
 have := h x hx
 simp [Lit.wf, IntKind.min, IntKind.max, IntKind.signed, IntKind.bits] at this
 simp
 omega
theorem got_bounds {L : List UInt8} {a b c d : Int} {w : List Int} {s : List ByteArray} {t : List S72} {u : ByteArray} {o : Bool} (h : Got L (a, b, c, d, w, s, t, u, o)) : w.length ≤ 100000 ∧ s.length ≤ 100000 ∧ t.length ≤ 100000 := by
 rcases h with h | ⟨kd, pl, sz, rs, w', s', t', u', h, _, hg, _⟩
 ·simp only [zero9, Prod.mk.injEq] at h
  obtain ⟨_, _, _, _, rfl, rfl, rfl, _⟩ := h
  simp
 ·simp only [Prod.mk.injEq] at h
  obtain ⟨_, _, _, _, rfl, rfl, rfl, _⟩ := h
  obtain ⟨_, hc⟩ := msgGood_cases hg
  rcases hc with ⟨_, hsg, rfl, _⟩ | ⟨_, _, _, rfl, rfl, ht, _⟩ | ⟨_, _, _, rfl, rfl, rfl, _⟩
  ·obtain ⟨_, _, h3, h4, _⟩ := sigGood_parts hsg
   exact ⟨by omega, by omega, by simp⟩
  ·have := (toksOk_parts ht).1
   exact ⟨by simp, by simp, by omega⟩
  ·simp
theorem FnExactGetMsg : laws_FnExactGetMsg.Pure := by
 intro l0 _ _ hwf
 obtain ⟨L, rfl⟩ := nums_of l0 hwf
 apply Ev.get
 refine Ev.congr (fun k => laws_FnExactGetMsg.f.eq_1 ..) ?_
 by_cases hL : L.length ≤ 1048576
 ·refine Ev.ite_neg (by rw [nums_length]; omega) ?_
  have hn : (nums L).length ≤ 1048576 := by rw [nums_length]; exact hL
  obtain ⟨⟨a, b, c, d, w, s, t, u, o⟩, h1, h2, hg⟩ := both L hL
  obtain ⟨hw, hs, ht⟩ := got_bounds hg
  obtain ⟨n, w', s', t', m1, m2⟩ := marks a b c d w s t u hw hs ht
  obtain ⟨ys, hb⟩ := markByteS_l0 (nums L).length (nums L) 1 0 (by omega) (by omega) hn
  have hq := eqMsg_says a b c d w s t u (by omega) (by omega) (by omega)
  have hself : (o != o) = false := by cases o <;> rfl
  have j2 : Ev (fun k => laws_FnExactGetMsg.j2 k (n : Int) (o != o) a b c d w' s' t' u) true := by
   rw [hself]
   exact Ev.succ (fun k => laws_FnExactGetMsg.j2.eq_2 ..) (Ev.ite_neg (by decide) (Ev.bind m2 (Ev.ite_neg (by omega) (Ev.ite_pos rfl Ev.some))))
  have j1 : Ev (fun k => laws_FnExactGetMsg.j1 k (nums L) o (o != o) a b c d w s t u a b c d w s t u) true := by
   rw [hself]
   refine Ev.succ (fun k => laws_FnExactGetMsg.j1.eq_2 ..) (Ev.ite_neg (by decide) (Ev.bind m1 (Ev.bind m2 (Ev.ite_neg (by omega) (Ev.ite_pos rfl (Ev.bind (toByteS_says _ hn) (Ev.bind h2 (Ev.bind hq (Ev.ite_pos rfl ?_)))))))))
   exact j2
  have j0 : Ev (fun k => laws_FnExactGetMsg.j0 k (nums L) o (nums L) o (o != o) a b c d w s t u a b c d w s t u) true := by
   have hb' : Ev (fun k => laws_markByteS.f k (nums L) 1) (((1 + (nums L).length : Nat) : Int), ys) := Ev.congr (fun k => laws_markByteS.f.eq_1 ..) hb
   refine Ev.succ (fun k => laws_FnExactGetMsg.j0.eq_2 ..) (Ev.ite_neg (by rw [hself]; decide) (Ev.bind (toByteS_says _ hn) (Ev.bind (eqByteS_says _ hn) (Ev.ite_pos rfl (Ev.bind hb' (Ev.ite_neg (by omega) (Ev.bind hq (Ev.ite_pos rfl ?_))))))))
   exact j1
  exact Ev.bind (toByteS_says _ hn) (Ev.bind h1 (Ev.bind (toByteS_says _ hn) (Ev.bind h2 (Ev.bind hq (Ev.ite_pos rfl j0)))))
 ·exact Ev.ite_pos (by rw [nums_length]; omega) Ev.some
end Go.Proofs.Ytjiaigjmihmdjaa.Pure
