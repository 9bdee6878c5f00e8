
/- FnExactShowNode's plain law: the reference's ShowNode and the program's tell the same. Plain Lean: no program's step stands here. -/
import Derived.Test.YtjiaigjmihmdjaaDoorPFnExactShowNodex1
import Derived.Test.YtjiaigjmihmdjaaDoorPFnExactShowNodex2
import Derived.Test.YtjiaigjmihmdjaaDoorPFnExactShowNodex3
import Derived.Test.YtjiaigjmihmdjaaDoorPFnExactShowNodex4
import Derived.Test.YtjiaigjmihmdjaaDoorPFnExactShowNodex5
import Derived.Test.YtjiaigjmihmdjaaDoorPFnExactShowNodex6
import Derived.Test.YtjiaigjmihmdjaaDoorPFnExactShowNodex7
import Derived.Test.YtjiaigjmihmdjaaDoorPFnExactShowNodex8
import Derived.Lib.SplitLaws
import Derived.Lib.IndexBytes
import Derived.Lib.ItoaNum
import Derived.Lib.Join
import Derived.Lib.IndexAny
namespace Go.Proofs.YtjiaigjmihmdjaaDoor.Pure
open Go.RowKit Go.Proofs.YtjiaigjmihmdjaaDoor.PFnExactShowNode Go.Proofs.YtjiaigjmihmdjaaDoorW.PrintWords Go.Proofs.YtjiaigjmihmdjaaDoorW.PrintLast Go.Proofs.YtjiaigjmihmdjaaDoorW.PrintMore
set_option linter.unusedVariables false
set_option linter.unusedSimpArgs false
/-- With enough rounds. -/
def Ev {α : Type} (f : Nat → Option α) (r : α) : Prop := ∃ K, ∀ k, K ≤ k → f k = some r
section
variable {α β : Type} {f g : Nat → Option α} {r a : α}
theorem Ev.pure (h : ∀ k, f k = some r) : Ev f r := ⟨0, fun k _ => h k⟩
theorem Ev.succ (h : ∀ k, f (k + 1) = g k) (hg : Ev g r) : Ev f r := by
 obtain ⟨K, hK⟩ := hg
 refine ⟨K + 1, fun k hk => ?_⟩
 obtain ⟨k, rfl⟩ : ∃ m, k = m + 1 := ⟨k - 1, by omega⟩
 rw [h]; exact hK k (by omega)
theorem Ev.congr (h : ∀ k, f k = g k) (hg : Ev g r) : Ev f r := by
 obtain ⟨K, hK⟩ := hg
 exact ⟨K, fun k hk => by rw [h]; exact hK k hk⟩
theorem Ev.bind {b : β} {g : Nat → α → Option β} (hf : Ev f a) (hg : Ev (fun k => g k a) b) : Ev (fun k => (f k).bind (g k)) b := by
 obtain ⟨K, hK⟩ := hf
 obtain ⟨M, hM⟩ := hg
 refine ⟨max K M, fun k hk => ?_⟩
 show (f k).bind (g k) = some b
 rw [hK k (by omega)]; exact hM k (by omega)
theorem Ev.bind' {b : β} {o : Option α} {g : Nat → α → Option β} (ho : o = some a) (hg : Ev (fun k => g k a) b) : Ev (fun k => o.bind (g k)) b := by
 subst ho; exact hg
theorem Ev.get (h : Ev f r) : ∃ k, f k = some r := by
 obtain ⟨K, hK⟩ := h
 exact ⟨K, hK K (Nat.le_refl _)⟩
theorem Ev.ite_pos {c : Prop} [Decidable c] (hc : c) (h : Ev f r) : Ev (fun k => if c then f k else g k) r := Ev.congr (fun k => if_pos hc) h
theorem Ev.ite_neg {c : Prop} [Decidable c] (hc : ¬ c) (h : Ev g r) : Ev (fun k => if c then f k else g k) r := Ev.congr (fun k => if_neg hc) h
theorem Ev.some : Ev (fun _ => some r) r := Ev.pure fun _ => rfl
end
def B (L : List UInt8) : ByteArray := ⟨L.toArray⟩
theorem B_size (L : List UInt8) : (B L).size = L.length := by simp [B, ByteArray.size]
theorem B_data (L : List UInt8) : (B L).data.toList = L := rfl
theorem B_toList (s : ByteArray) : B s.data.toList = s := rfl
theorem wrap64_id {x : Int} (h0 : -9223372036854775808 ≤ x) (h1 : x < 9223372036854775808) : wrap64 x = x := by unfold wrap64; omega
theorem in_says (x a b : Int) : spec_l01In.f x a b = some (decide (a ≤ x ∧ x ≤ b)) := by
 unfold spec_l01In.f
 by_cases h : a ≤ x <;> simp [h]
theorem within_says (x a b : Int) : impl_within.f x a b = some (decide (a ≤ x ∧ x ≤ b)) := by
 unfold impl_within.f
 by_cases h : a ≤ x <;> simp [h]

/-! ### A name -/
theorem bytes_drop (s : ByteArray) (i : Nat) (h : i < s.size) : (bytesOf s).drop i = bt s i :: (bytesOf s).drop (i + 1) := by
 have hl : i < (bytesOf s).length := by rw [bytesOf_length]; exact h
 rw [List.drop_eq_getElem_cons hl]
 congr 1
 rw [← rd_bytesOf]
 simp [rd, List.getD, hl]
theorem bytes_end (s : ByteArray) : (bytesOf s).drop s.size = [] := List.drop_eq_nil_of_le (by rw [bytesOf_length]; exact Nat.le_refl _)
def okI (x : Int) : Bool := decide (97 ≤ x ∧ x ≤ 122) || decide (65 ≤ x ∧ x ≤ 90) || decide (48 ≤ x ∧ x ≤ 57) || decide (x = 46) || decide (x = 95) || decide (x = 45)
theorem okI_spec {β : Type} (x : Int) (a b : β) : (if decide (97 ≤ x ∧ x ≤ 122) = true then a else if decide (65 ≤ x ∧ x ≤ 90) = true then a else if decide (48 ≤ x ∧ x ≤ 57) = true then a else if x = 46 then a else if x = 95 then a else if x = 45 then a else b) = if okI x = true then a else b := by
 unfold okI
 by_cases h1 : 97 ≤ x ∧ x ≤ 122
 ·simp [h1]
 ·by_cases h2 : 65 ≤ x ∧ x ≤ 90
  ·simp [h1, h2]
  ·by_cases h3 : 48 ≤ x ∧ x ≤ 57
   ·simp [h1, h2, h3]
   ·by_cases h4 : x = 46
    ·simp [h4]
    ·by_cases h5 : x = 95
     ·simp [h5]
     ·by_cases h6 : x = 45
      ·simp [h6]
      ·simp [h1, h2, h3, h4, h5, h6]
theorem specName_l0 (s : ByteArray) (hs : s.size ≤ 200) : ∀ n i : Nat, i + n = s.size → Ev (fun k => spec_NameOk.l0 k s (i : Int)) (((bytesOf s).drop i).all okI) := by
 intro n
 induction n with
 | zero =>
  intro i hi
  obtain rfl : i = s.size := by omega
  rw [bytes_end]
  refine Ev.succ (g := fun _ => some true) (fun k => ?_) Ev.some
  simp only [spec_NameOk.l0]
  rw [if_neg (by omega)]
 | succ n ih =>
  intro i hi
  have hr := bt_range s i
  have hstep : ∀ k, spec_NameOk.l0 (k + 1) s i = if okI (bt s i) = true then spec_NameOk.l0 k s ((i + 1 : Nat) : Int) else some false := by
   intro k
   simp only [spec_NameOk.l0]
   rw [if_pos (by omega), if_pos (by omega), wrap64_id (x := bt s i) (by omega) (by omega), wrap64_id (x := (i : Int) + 1) (by omega) (by omega)]
   simp only [in_says, Option.bind_some]
   rw [okI_spec]
   rfl
  refine Ev.succ hstep ?_
  rw [bytes_drop s i (by omega), List.all_cons]
  by_cases ho : okI (bt s i) = true
  ·rw [ho, Bool.true_and]
   exact Ev.ite_pos rfl (ih (i + 1) (by omega))
  ·rw [Bool.eq_false_iff.2 ho, Bool.false_and]
   exact Ev.ite_neg (by decide) Ev.some
theorem implName_step (x : Int) {β : Type} (a b : β) (h : okI x = true ∨ okI x = false) : (if x ≥ 97 then (if x ≤ 122 then a else (if x ≥ 65 then (if x ≤ 90 then a else (if x ≥ 48 then (if x ≤ 57 then a else (if x = 46 then a else (if x = 95 then a else (if (x = 45) then a else b)))) else (if x = 46 then a else (if x = 95 then a else (if (x = 45) then a else b))))) else (if x ≥ 48 then (if x ≤ 57 then a else (if x = 46 then a else (if x = 95 then a else (if (x = 45) then a else b)))) else (if x = 46 then a else (if x = 95 then a else (if (x = 45) then a else b)))))) else (if x ≥ 65 then (if x ≤ 90 then a else (if x ≥ 48 then (if x ≤ 57 then a else (if x = 46 then a else (if x = 95 then a else (if (x = 45) then a else b)))) else (if x = 46 then a else (if x = 95 then a else (if (x = 45) then a else b))))) else (if x ≥ 48 then (if x ≤ 57 then a else (if x = 46 then a else (if x = 95 then a else (if (x = 45) then a else b)))) else (if x = 46 then a else (if x = 95 then a else (if (x = 45) then a else b)))))) = if okI x = true then a else b := by
 unfold okI at h ⊢
 simp only [Bool.or_eq_true, decide_eq_true_eq]
 repeat' split
 all_goals first | rfl | (exfalso; omega)
/-- A right name. -/
def nok (s : ByteArray) : Bool := decide (1 ≤ s.size ∧ s.size ≤ 20) && (s.toList != ([46] : List UInt8)) && (s.toList != ([46, 46] : List UInt8)) && (bytesOf s).all okI
theorem specName (s : ByteArray) (hs : s.size ≤ 200) : Ev (fun k => spec_NameOk.f k s) (nok s) := by
 have hl : Ev (fun k => spec_NameOk.l0 k s 0) ((bytesOf s).all okI) := specName_l0 s hs s.size 0 (by omega)
 have hj : ∀ b : Bool, Ev (fun k => spec_NameOk.j0 k s b) (!b && (bytesOf s).all okI) := by
  intro b
  cases b
  ·exact Ev.succ (fun k => by simp [spec_NameOk.j0]) hl
  ·exact Ev.succ (g := fun _ => some false) (fun k => by simp [spec_NameOk.j0]) Ev.some
 unfold spec_NameOk.f nok
 refine Ev.bind' (in_says _ _ _) ?_
 have e : decide ((1 : Int) ≤ (s.size : Int) ∧ (s.size : Int) ≤ 20) = decide (1 ≤ s.size ∧ s.size ≤ 20) := by
  apply decide_eq_decide.2; omega
 show Ev (fun k => if decide ((1 : Int) ≤ (s.size : Int) ∧ (s.size : Int) ≤ 20) = true then _ else _) _
 rw [e]
 by_cases h1 : 1 ≤ s.size ∧ s.size ≤ 20
 ·refine Ev.ite_pos (by simpa using h1) ?_
  by_cases h2 : s.toList = ([46] : List UInt8)
  ·refine Ev.ite_pos h2 ?_
   have := hj true
   simpa [h2] using this
  ·refine Ev.ite_neg h2 ?_
   have h2' : (s.toList != ([46] : List UInt8)) = true := bne_iff_ne.2 h2
   rw [h2', decide_eq_true h1, Bool.true_and, Bool.true_and]
   exact hj _
 ·refine Ev.ite_neg (by simpa using h1) ?_
  have := hj true
  rw [decide_eq_false h1]
  simpa using this
theorem implName_l0 (s : ByteArray) (hs : s.size ≤ 200) : ∀ n i : Nat, i + n = s.size → ((bytesOf s).take i).all okI = true → Ev (fun k => impl_NameOk.l0 k s (s.size : Int) (i : Int)) (nok s) := by
 intro n
 induction n with
 | zero =>
  intro i hi hall
  obtain rfl : i = s.size := by omega
  have ha : (bytesOf s).all okI = true := by
   rwa [List.take_of_length_le (by rw [bytesOf_length]; exact Nat.le_refl _)] at hall
  refine Ev.succ (g := fun _ => some (nok s)) (fun k => ?_) Ev.some
  simp only [impl_NameOk.l0]
  rw [if_neg (by omega), within_says]
  unfold nok
  have e : decide ((1 : Int) ≤ (s.size : Int) ∧ (s.size : Int) ≤ 20) = decide (1 ≤ s.size ∧ s.size ≤ 20) := by
   apply decide_eq_decide.2; omega
  rw [e, ha, Option.bind_some, Bool.and_true]
  by_cases h1 : 1 ≤ s.size ∧ s.size ≤ 20
  ·rw [if_pos (by simpa using h1), decide_eq_true h1, Bool.true_and]
   by_cases h2 : s.toList = ([46] : List UInt8)
   ·rw [if_pos h2]; simp [h2]
   ·rw [if_neg h2]
    have h2' : (s.toList != ([46] : List UInt8)) = true := bne_iff_ne.2 h2
    rw [h2', Bool.true_and]
  ·rw [if_neg (by simpa using h1), decide_eq_false h1]; rfl
 | succ n ih =>
  intro i hi hall
  have hr := bt_range s i
  have hl : i < (bytesOf s).length := by rw [bytesOf_length]; omega
  have hg : (bytesOf s)[i] = bt s i := by
   rw [← rd_bytesOf]; simp [rd, List.getD, hl]
  have hstep : ∀ k, impl_NameOk.l0 (k + 1) s (s.size : Int) i = if okI (bt s i) = true then impl_NameOk.l0 k s (s.size : Int) ((i + 1 : Nat) : Int) else some false := by
   intro k
   simp only [impl_NameOk.l0]
   rw [if_pos (by omega), if_pos (by omega), if_pos (by omega), wrap64_id (x := (i : Int) + 1) (by omega) (by omega)]
   exact implName_step (bt s i) _ _ (by cases okI (bt s i) <;> simp)
  refine Ev.succ hstep ?_
  by_cases ho : okI (bt s i) = true
  ·refine Ev.ite_pos ho (ih (i + 1) (by omega) ?_)
   rw [List.take_add_one, List.getElem?_eq_getElem hl, List.all_append, hall, hg]
   simp [ho]
  ·have hf : nok s = false := by
    unfold nok
    have : (bytesOf s).all okI = false := by
     rw [Bool.eq_false_iff]
     intro hh
     exact ho (by rw [← hg]; exact List.all_eq_true.1 hh _ (List.getElem_mem hl))
    rw [this, Bool.and_false]
   rw [hf]
   exact Ev.ite_neg ho Ev.some
theorem implName (s : ByteArray) (hs : s.size ≤ 200) : Ev (fun k => impl_NameOk.f k s) (nok s) := implName_l0 s hs s.size 0 (by omega) rfl

/-! ### The names of a path -/
def cut (cur : List UInt8) : List UInt8 → List (List UInt8)
 | [] => [cur]
 | b :: l => if b = 47 then cur :: cut [] l else cut (cur ++ [b]) l
theorem cut_miss : ∀ (l cur : List UInt8), (∀ b ∈ l, b ≠ 47) → cut cur l = [cur ++ l]
 | [], cur, _ => by simp [cut]
 | b :: l, cur, h => by
  have h1 : b ≠ 47 := h b (by simp)
  simp only [cut, if_neg h1]
  rw [cut_miss l _ (fun x hx => h x (by simp [hx]))]
  simp
theorem cut_hit : ∀ (p q cur : List UInt8), (∀ b ∈ p, b ≠ 47) → cut cur (p ++ 47 :: q) = (cur ++ p) :: cut [] q
 | [], q, cur, _ => by simp [cut]
 | b :: p, q, cur, h => by
  have h1 : b ≠ 47 := h b (by simp)
  rw [List.cons_append]
  simp only [cut, if_neg h1]
  rw [cut_hit p q _ (fun x hx => h x (by simp [hx]))]
  simp
theorem cut_ne (l cur : List UInt8) : 1 ≤ (cut cur l).length := by
 induction l generalizing cur with
 | nil => simp [cut]
 | cons b l ih =>
  simp only [cut]
  split
  ·simp
  ·exact ih _
theorem cut_sum : ∀ (l cur : List UInt8), ((cut cur l).map List.length).sum + (cut cur l).length = cur.length + l.length + 1
 | [], cur => by simp [cut]
 | b :: l, cur => by
  simp only [cut]
  split
  ·have := cut_sum l []
   simp at this ⊢
   omega
  ·have := cut_sum l (cur ++ [b])
   simp at this ⊢
   omega
theorem sum_le {l : List Nat} (h : ∀ x ∈ l, x ≤ 20) : l.sum ≤ 20 * l.length := by
 induction l with
 | nil => simp
 | cons a l ih =>
  have h1 := h a (by simp)
  have h2 := ih (fun x hx => h x (by simp [hx]))
  simp
  omega
theorem extract_data (s : ByteArray) (a b : Nat) : (s.extract a b).data.toList = (s.data.toList.take b).drop a := by
 rw [List.drop_take]
 simp [ByteArray.data_extract, Array.toList_extract, List.extract_eq_take_drop]
theorem extract_B (s : ByteArray) (a b : Nat) : s.extract a b = B ((s.data.toList.take b).drop a) := by
 rw [← extract_data]; rfl
theorem bt_L (s : ByteArray) (i : Nat) (h : i < s.data.toList.length) : bt s i = (((s.data.toList)[i]'h).toNat : Int) := by
 rw [← rd_bytesOf]
 have h' : i < (bytesOf s).length := by rw [bytesOf, List.length_map]; exact h
 show (bytesOf s).getD (i : Int).toNat 0 = _
 rw [Int.toNat_natCast, List.getD_eq_getElem?_getD, List.getElem?_eq_getElem h']
 simp [bytesOf]
theorem l02_l0 (s : ByteArray) (hs : s.size ≤ 200) : ∀ n i j : Nat, ∀ out : List ByteArray, i + n = s.size → j ≤ i → out.length ≤ i →
  Ev (fun k => spec_l02Names.l0 k s out (j : Int) (i : Int)) (out ++ (cut ((s.data.toList.take i).drop j) (s.data.toList.drop i)).map B) := by
 have hL : s.data.toList.length = s.size := data_length s
 intro n
 induction n with
 | zero =>
  intro i j out hi hj ho
  obtain rfl : i = s.size := by omega
  have e : s.data.toList.drop s.size = [] := List.drop_eq_nil_of_le (by omega)
  refine Ev.succ (g := fun _ => some (out ++ [s.extract j s.size])) (fun k => ?_) ?_
  ·simp only [spec_l02Names.l0]
   rw [if_neg (by omega), if_pos (by omega), if_pos (by omega), if_pos (by omega), Int.toNat_natCast]
  ·rw [e, cut, extract_B]
   exact Ev.some
 | succ n ih =>
  intro i j out hi hj ho
  have hil : i < s.data.toList.length := by omega
  have hd : s.data.toList.drop i = s.data.toList[i] :: s.data.toList.drop (i + 1) := List.drop_eq_getElem_cons hil
  have hb := bt_L s i hil
  by_cases h47 : s.data.toList[i] = 47
  ·have hbt : bt s i = 47 := by rw [hb, h47]; rfl
   have := ih (i + 1) (i + 1) (out ++ [B ((s.data.toList.take i).drop j)]) (by omega) (Nat.le_refl _) (by simp; omega)
   rw [show (s.data.toList.take (i + 1)).drop (i + 1) = [] from List.drop_eq_nil_of_le (by rw [List.length_take]; omega)] at this
   have e : out ++ [B ((s.data.toList.take i).drop j)] ++ (cut [] (s.data.toList.drop (i + 1))).map B = out ++ (cut ((s.data.toList.take i).drop j) (s.data.toList.drop i)).map B := by
    rw [hd, cut, if_pos h47]; simp
   rw [e] at this
   refine Ev.succ (fun k => ?_) this
   simp only [spec_l02Names.l0]
   rw [if_pos (by omega), if_pos (by omega), if_pos hbt, if_pos (by omega), if_pos (by omega), if_pos (by omega), if_pos (by omega), wrap64_id (x := (i : Int) + 1) (by omega) (by omega), Int.toNat_natCast, Int.toNat_natCast, extract_B]
   rfl
  ·have hbt : ¬ bt s i = 47 := by
    rw [hb]; intro h
    exact h47 (UInt8.toNat_inj.1 (by have : ((47 : UInt8).toNat : Int) = 47 := rfl; omega))
   have := ih (i + 1) j out (by omega) (by omega) (by omega)
   have e2 : (s.data.toList.take (i + 1)).drop j = (s.data.toList.take i).drop j ++ [s.data.toList[i]] := by
    rw [List.take_add_one, List.getElem?_eq_getElem hil, List.drop_append_of_le_length (by rw [List.length_take]; omega)]
    rfl
   have e : (cut ((s.data.toList.take (i + 1)).drop j) (s.data.toList.drop (i + 1))) = (cut ((s.data.toList.take i).drop j) (s.data.toList.drop i)) := by
    rw [hd, cut, if_neg h47, e2]
   rw [e] at this
   refine Ev.succ (fun k => ?_) this
   simp only [spec_l02Names.l0]
   rw [if_pos (by omega), if_pos (by omega), if_neg hbt, wrap64_id (x := (i : Int) + 1) (by omega) (by omega)]
   rfl
def names (s : ByteArray) : List ByteArray := (cut [] s.data.toList).map B
theorem l02_says (s : ByteArray) (hs : s.size ≤ 200) : Ev (fun k => spec_l02Names.f k s) (names s) := by
 have := l02_l0 s hs s.size 0 0 [] (by omega) (Nat.le_refl _) (Nat.le_refl _)
 exact this
theorem splitK_cut : ∀ (n : Nat) (l : List UInt8), l.length ≤ n → Lib.splitK [47] 0 (Lib.count l [47]) l = cut [] l := by
 intro n
 induction n with
 | zero =>
  intro l hl
  obtain rfl : l = [] := List.length_eq_zero_iff.1 (by omega)
  rfl
 | succ n ih =>
  intro l hl
  by_cases hm : Lib.index l [47] = -1
  ·rw [Lib.count_miss hm]
   rw [Lib.index_one] at hm
   have hno : ∀ b ∈ l, b ≠ 47 := by
    intro b hb e
    obtain ⟨i, hi, he⟩ := List.getElem_of_mem hb
    exact Lib.indexByte_none hm i (by rw [List.getElem?_eq_getElem hi, he, e])
   rw [cut_miss l [] hno]
   rfl
  ·have hge := Lib.index_ge l [47]
   obtain ⟨i, hi⟩ : ∃ i : Nat, Lib.index l [47] = i := ⟨(Lib.index l [47]).toNat, by omega⟩
   have hi1 := hi
   rw [Lib.index_one] at hi1
   obtain ⟨hat, hbef⟩ := Lib.indexByte_some hi1
   have hil := (List.getElem?_eq_some_iff.1 hat).1
   have hgi := (List.getElem?_eq_some_iff.1 hat).2
   rw [Lib.count_hit (by simp) hi, Nat.add_comm 1]
   simp only [Lib.splitK]
   rw [if_neg (by rw [hi]; simp), hi]
   simp only [Int.toNat_natCast, Nat.add_zero, List.length_singleton]
   rw [ih (l.drop (i + 1)) (by rw [List.length_drop]; omega)]
   have hsplit : l = l.take i ++ 47 :: l.drop (i + 1) := by
    conv => lhs; rw [← List.take_append_drop i l, List.drop_eq_getElem_cons hil, hgi]
   conv => rhs; rw [hsplit]
   rw [cut_hit _ _ _ (by
    intro b hb e
    obtain ⟨j, hj, he⟩ := List.getElem_of_mem hb
    rw [List.length_take] at hj
    refine hbef j (by omega) ?_
    rw [List.getElem_take] at he
    rw [List.getElem?_eq_getElem (by omega), he, e])]
   rfl
theorem split_says (s : ByteArray) (hs : s.size ≤ 200) : strings_Split.f s (⟨#[47]⟩ : ByteArray) = some (names s) := by
 unfold strings_Split.f
 rw [if_pos ⟨by omega, by decide⟩]
 congr 1
 have h := Lib.splitB_data (⟨#[47]⟩ : ByteArray) 0 (Lib.countB s ⟨#[47]⟩) s
 have h2 : Lib.splitK [47] 0 (Lib.countB s ⟨#[47]⟩) s.data.toList = cut [] s.data.toList := splitK_cut _ _ (Nat.le_refl _)
 rw [show (⟨#[47]⟩ : ByteArray).data.toList = [47] from rfl, h2] at h
 unfold names
 rw [← h, List.map_map]
 exact (List.map_id _).symm

/-! ### A path -/
theorem rdOf_nat {α : Type} (d : α) (l : List α) (i : Nat) (h : i < l.length) : rdOf d l (i : Int) = l[i] := by
 unfold rdOf
 rw [Int.toNat_natCast, List.getD_eq_getElem?_getD, List.getElem?_eq_getElem h]
 rfl
theorem specPath_l0 (xs : List ByteArray) (hx : ∀ x ∈ xs, x.size ≤ 200) (hn : xs.length ≤ 300) : ∀ n i : Nat, i + n = xs.length →
  Ev (fun k => spec_PathOk.l0 k xs (i : Int)) ((xs.drop i).all nok && decide (xs.length ≤ 8)) := by
 intro n
 induction n with
 | zero =>
  intro i hi
  obtain rfl : i = xs.length := by omega
  rw [List.drop_length]
  refine Ev.succ (g := fun _ => some (decide ((xs.length : Int) ≤ 8))) (fun k => ?_) ?_
  ·simp only [spec_PathOk.l0]
   rw [if_neg (by omega)]
  ·have e : decide ((xs.length : Int) ≤ 8) = decide (xs.length ≤ 8) := by apply decide_eq_decide.2; omega
   rw [e]
   exact Ev.some
 | succ n ih =>
  intro i hi
  have hil : i < xs.length := by omega
  rw [List.drop_eq_getElem_cons hil, List.all_cons]
  refine Ev.succ (g := fun k => (spec_NameOk.f k xs[i]).bind fun t => if t = true then spec_PathOk.l0 k xs ((i + 1 : Nat) : Int) else some false) (fun k => ?_) ?_
  ·simp only [spec_PathOk.l0]
   rw [if_pos (by omega), if_pos (by omega), rdOf_nat _ _ _ hil, wrap64_id (x := (i : Int) + 1) (by omega) (by omega)]
   rfl
  ·refine Ev.bind (specName xs[i] (hx _ (List.getElem_mem hil))) ?_
   cases nok xs[i]
   ·exact Ev.ite_neg (by decide) Ev.some
   ·rw [Bool.true_and]
    exact Ev.ite_pos rfl (ih (i + 1) (by omega))
theorem implNames_l0 (xs : List ByteArray) (hx : ∀ x ∈ xs, x.size ≤ 200) (hn : xs.length ≤ 300) : ∀ n i : Nat, i + n = xs.length →
  Ev (fun k => impl_Names.l0 k xs xs (xs.length : Int) (i : Int)) (if (xs.drop i).all nok = true then xs else []) := by
 intro n
 induction n with
 | zero =>
  intro i hi
  obtain rfl : i = xs.length := by omega
  rw [List.drop_length]
  refine Ev.succ (g := fun _ => some xs) (fun k => ?_) Ev.some
  simp only [impl_Names.l0]
  rw [if_neg (by omega)]
 | succ n ih =>
  intro i hi
  have hil : i < xs.length := by omega
  rw [List.drop_eq_getElem_cons hil, List.all_cons]
  refine Ev.succ (g := fun k => (impl_NameOk.f k xs[i]).bind fun t => if t = true then impl_Names.l0 k xs xs (xs.length : Int) ((i + 1 : Nat) : Int) else some ([] : List ByteArray)) (fun k => ?_) ?_
  ·simp only [impl_Names.l0]
   rw [if_pos (by omega), if_pos (by omega), if_pos (by omega), rdOf_nat _ _ _ hil, wrap64_id (x := (i : Int) + 1) (by omega) (by omega)]
   rfl
  ·refine Ev.bind (implName xs[i] (hx _ (List.getElem_mem hil))) ?_
   cases nok xs[i]
   ·exact Ev.ite_neg (by decide) Ev.some
   ·rw [Bool.true_and]
    exact Ev.ite_pos rfl (ih (i + 1) (by omega))
/-- A right path. -/
def pok (s : ByteArray) : Bool := (names s).all nok && decide ((names s).length ≤ 8)
theorem names_sum (s : ByteArray) : ((names s).map ByteArray.size).sum + (names s).length = s.size + 1 := by
 have h := cut_sum s.data.toList []
 have e : (names s).map ByteArray.size = (cut [] s.data.toList).map List.length := by
  unfold names
  rw [List.map_map]
  exact List.map_congr_left fun x _ => B_size x
 have e2 : (names s).length = (cut [] s.data.toList).length := by unfold names; rw [List.length_map]
 rw [e, e2, h, data_length]
 simp
theorem mem_sum {l : List Nat} {x : Nat} (h : x ∈ l) : x ≤ l.sum := by
 induction l with
 | nil => simp at h
 | cons a l ih =>
  rcases List.mem_cons.1 h with rfl | h
  ·simp
  ·have := ih h
   simp; omega
theorem names_size (s : ByteArray) : ∀ x ∈ names s, x.size ≤ s.size := by
 intro x hx
 have h1 := names_sum s
 have h2 : x.size ≤ ((names s).map ByteArray.size).sum := mem_sum (List.mem_map.2 ⟨x, hx, rfl⟩)
 have h3 : 1 ≤ (names s).length := List.length_pos_of_mem hx
 omega
theorem names_pos (s : ByteArray) : 1 ≤ (names s).length := by
 unfold names
 rw [List.length_map]
 exact cut_ne _ _
theorem pok_size {s : ByteArray} (h : pok s = true) : s.size ≤ 167 := by
 unfold pok at h
 simp only [Bool.and_eq_true, decide_eq_true_eq] at h
 have h1 := names_sum s
 have h2 : ((names s).map ByteArray.size).sum ≤ 20 * ((names s).map ByteArray.size).length := sum_le (by
  intro x hx
  obtain ⟨y, hy, rfl⟩ := List.mem_map.1 hx
  have h3 := List.all_eq_true.1 h.1 y hy
  unfold nok at h3
  simp only [Bool.and_eq_true, decide_eq_true_eq] at h3
  exact h3.1.1.1.2)
 rw [List.length_map] at h2
 omega
theorem specPath (s : ByteArray) : Ev (fun k => spec_PathOk.f k s) (pok s) := by
 unfold spec_PathOk.f
 by_cases hs : s.size ≤ 200
 ·refine Ev.ite_neg (by omega) ?_
  refine Ev.bind (l02_says s hs) ?_
  have := specPath_l0 (names s) (fun x hx => Nat.le_trans (names_size s x hx) hs) (by have := names_sum s; omega) (names s).length 0 (by omega)
  exact this
 ·refine Ev.ite_pos (by omega) ?_
  have : pok s = false := by
   rw [Bool.eq_false_iff]
   intro h
   have := pok_size h
   omega
  rw [this]
  exact Ev.some
theorem implPath (s : ByteArray) : Ev (fun k => impl_PathOk.f k s) (pok s) := by
 have main : Ev (fun k => impl_Names.f k s) (if pok s = true then names s else []) := by
  unfold impl_Names.f
  by_cases hs : s.size ≤ 168
  ·refine Ev.ite_neg (by omega) ?_
   refine Ev.bind' (split_says s (by omega)) ?_
   by_cases h8 : (names s).length ≤ 8
   ·refine Ev.ite_neg (by omega) ?_
    have := implNames_l0 (names s) (fun x hx => by have := names_size s x hx; omega) (by omega) (names s).length 0 (by omega)
    have e : pok s = (names s).all nok := by unfold pok; rw [decide_eq_true h8, Bool.and_true]
    rw [e]
    exact this
   ·refine Ev.ite_pos (by omega) ?_
    have e : pok s = false := by unfold pok; rw [decide_eq_false h8, Bool.and_false]
    rw [e]
    exact Ev.some
  ·refine Ev.ite_pos (by omega) ?_
   have : pok s = false := by
    rw [Bool.eq_false_iff]
    intro h
    have := pok_size h
    omega
   rw [this]
   exact Ev.some
 unfold impl_PathOk.f
 refine Ev.bind main ?_
 refine Ev.congr (g := fun _ => some (pok s)) (fun k => ?_) Ev.some
 have := names_pos s
 cases pok s
 ·rfl
 ·show some (decide (((names s).length : Int) > 0)) = some true
  rw [decide_eq_true (by omega)]

/-! ### A node -/
theorem Ev.ite2 {α : Type} {f g : Nat → Option α} {r1 r2 : α} {c : Prop} [Decidable c] (h1 : c → Ev f r1) (h2 : ¬ c → Ev g r2) : Ev (fun k => if c then f k else g k) (if c then r1 else r2) := by
 by_cases hc : c
 ·rw [if_pos hc]; exact Ev.ite_pos hc (h1 hc)
 ·rw [if_neg hc]; exact Ev.ite_neg hc (h2 hc)
def lno (s : ByteArray) : Bool := (bytesOf s).all fun x => x != 10
theorem specNode_l0 (p : ByteArray) (kd md tm : Int) (d s : ByteArray) (g : Int) (hs : s.size ≤ 9223372036854775800) : ∀ n i : Nat, i + n = s.size →
  Ev (fun k => spec_NodeOk.l0 k (i : Int) p kd md tm d s g) (((bytesOf s).drop i).all fun x => x != 10) := by
 intro n
 induction n with
 | zero =>
  intro i hi
  obtain rfl : i = s.size := by omega
  rw [bytes_end]
  refine Ev.succ (g := fun _ => some true) (fun k => ?_) Ev.some
  simp only [spec_NodeOk.l0]
  rw [if_neg (by omega)]
 | succ n ih =>
  intro i hi
  rw [bytes_drop s i (by omega), List.all_cons]
  refine Ev.succ (g := fun k => if bt s i = 10 then some false else spec_NodeOk.l0 k ((i + 1 : Nat) : Int) p kd md tm d s g) (fun k => ?_) ?_
  ·simp only [spec_NodeOk.l0]
   rw [if_pos (by omega), if_pos (by omega), wrap64_id (x := (i : Int) + 1) (by omega) (by omega)]
   rfl
  ·by_cases h10 : bt s i = 10
   ·have : (bt s i != 10) = false := by simp [h10]
    rw [this, Bool.false_and]
    exact Ev.ite_pos h10 Ev.some
   ·have : (bt s i != 10) = true := by simp [h10]
    rw [this, Bool.true_and]
    exact Ev.ite_neg h10 (ih (i + 1) (by omega))
theorem specNode_j1 (p : ByteArray) (kd md tm : Int) (d s : ByteArray) (g : Int) (hs : s.size ≤ 9223372036854775800) (b : Bool) : Ev (fun k => spec_NodeOk.j1 k b p kd md tm d s g) (!b && lno s) := by
 cases b
 ·exact Ev.succ (fun k => by simp [spec_NodeOk.j1]) (specNode_l0 p kd md tm d s g hs s.size 0 (by omega))
 ·exact Ev.succ (g := fun _ => some false) (fun k => by simp [spec_NodeOk.j1]) Ev.some
theorem contains_says (s : ByteArray) : strings_Contains.f s (⟨#[10]⟩ : ByteArray) = some (!lno s) := by
 unfold strings_Contains.f
 rw [if_pos (by decide)]
 congr 1
 rw [show ((⟨#[10]⟩ : ByteArray).data.toList.headD 0) = (10 : UInt8) from rfl, ← Lib.contains_iff_indexByte]
 unfold lno bytesOf
 induction s.data.toList with
 | nil => rfl
 | cons b l ih =>
  rw [List.contains_cons, ih, List.map_cons, List.all_cons, Bool.not_and]
  congr 1
  by_cases h : b = 10
  ·subst h; rfl
  ·have h1 : (10 == b) = false := by simpa using fun e => h e.symm
   have h2 : ((b.toNat : Int) != 10) = true := by
    rw [bne_iff_ne]
    intro e
    exact h (UInt8.toNat_inj.1 (by have : ((10 : UInt8).toNat : Int) = 10 := rfl; omega))
   rw [h1, h2]; rfl
def rest (kd md : Int) (d s : ByteArray) (g : Int) : Bool :=
 if kd = 0 then (if d.toList = ([] : List UInt8) then (if s.toList = ([] : List UInt8) then g == 0 else false) else false)
 else if kd = 1 then (if (d.size : Int) ≤ 20000 then (if s.toList = ([] : List UInt8) then decide (0 ≤ g ∧ g ≤ 200) else false) else false)
 else if kd = 2 then (if d.toList = ([] : List UInt8) then (if md = 0 then (if g = 0 then (decide (1 ≤ (s.size : Int) ∧ (s.size : Int) ≤ 60) && lno s) else false) else false) else false)
 else false
theorem specNode_j0 (p : ByteArray) (kd md tm : Int) (d s : ByteArray) (g : Int) (hs : s.size ≤ 9223372036854775800) (b : Bool) : Ev (fun k => spec_NodeOk.j0 k b p kd md tm d s g) (!b && rest kd md d s g) := by
 cases b
 ·have h : Ev (fun k => if kd = 0 then (if d.toList = ([] : List UInt8) then (if s.toList = ([] : List UInt8) then (some (g == 0)) else (some false)) else (some false)) else (if kd = 1 then (if (d.size : Int) ≤ 20000 then (if s.toList = ([] : List UInt8) then ((spec_l01In.f g 0 200).bind fun t124 => (some t124)) else (some false)) else (some false)) else (if kd = 2 then (if d.toList = ([] : List UInt8) then (if md = 0 then (if g = 0 then ((spec_l01In.f (s.size : Int) 1 60).bind fun t125 => (spec_NodeOk.j1 k (!t125) p kd md tm d s g)) else (spec_NodeOk.j1 k true p kd md tm d s g)) else (spec_NodeOk.j1 k true p kd md tm d s g)) else (spec_NodeOk.j1 k true p kd md tm d s g)) else (some false)))) (rest kd md d s g) := by
   unfold rest
   refine Ev.ite2 (fun _ => Ev.ite2 (fun _ => Ev.ite2 (fun _ => Ev.some) (fun _ => Ev.some)) (fun _ => Ev.some)) (fun _ => Ev.ite2 (fun _ => Ev.ite2 (fun _ => Ev.ite2 (fun _ => ?_) (fun _ => Ev.some)) (fun _ => Ev.some)) (fun _ => Ev.ite2 (fun _ => Ev.ite2 (fun _ => Ev.ite2 (fun _ => Ev.ite2 (fun _ => ?_) (fun _ => ?_)) (fun _ => ?_)) (fun _ => ?_)) (fun _ => Ev.some)))
   ·exact Ev.bind' (in_says _ _ _) Ev.some
   ·refine Ev.bind' (in_says _ _ _) ?_
    have := specNode_j1 p kd md tm d s g hs (!decide (1 ≤ (s.size : Int) ∧ (s.size : Int) ≤ 60))
    rw [Bool.not_not] at this
    exact this
   ·exact specNode_j1 p kd md tm d s g hs true
   ·exact specNode_j1 p kd md tm d s g hs true
   ·exact specNode_j1 p kd md tm d s g hs true
  refine Ev.succ (fun k => ?_) h
  simp only [spec_NodeOk.j0]
  rw [if_neg (by decide)]
 ·exact Ev.succ (g := fun _ => some false) (fun k => by simp [spec_NodeOk.j0]) Ev.some
theorem implNode_j0 (p : ByteArray) (kd md tm : Int) (d s : ByteArray) (g : Int) (b : Bool) : Ev (fun k => impl_NodeOk.j0 k b p kd md tm d s g) (!b && rest kd md d s g) := by
 cases b
 ·have h : Ev (fun k => if kd = 0 then (if d.toList = ([] : List UInt8) then (if s.toList = ([] : List UInt8) then (some (g == 0)) else (some false)) else (some false)) else (if kd = 1 then (if (d.size : Int) ≤ 20000 then (if s.toList = ([] : List UInt8) then ((impl_within.f g 0 200).bind fun t167 => (some t167)) else (some false)) else (some false)) else (if kd = 2 then (if d.toList = ([] : List UInt8) then (if md = 0 then (if g = 0 then ((impl_within.f (s.size : Int) 1 60).bind fun t168 => (if t168 = true then ((strings_Contains.f s (⟨#[10]⟩ : ByteArray)).bind fun t169 => (some (!t169))) else (some false))) else (some false)) else (some false)) else (some false)) else (some false)))) (rest kd md d s g) := by
   unfold rest
   refine Ev.ite2 (fun _ => Ev.ite2 (fun _ => Ev.ite2 (fun _ => Ev.some) (fun _ => Ev.some)) (fun _ => Ev.some)) (fun _ => Ev.ite2 (fun _ => Ev.ite2 (fun _ => Ev.ite2 (fun _ => ?_) (fun _ => Ev.some)) (fun _ => Ev.some)) (fun _ => Ev.ite2 (fun _ => Ev.ite2 (fun _ => Ev.ite2 (fun _ => Ev.ite2 (fun _ => ?_) (fun _ => Ev.some)) (fun _ => Ev.some)) (fun _ => Ev.some)) (fun _ => Ev.some)))
   ·exact Ev.bind' (within_says _ _ _) Ev.some
   ·refine Ev.bind' (within_says _ _ _) ?_
    cases decide (1 ≤ (s.size : Int) ∧ (s.size : Int) ≤ 60)
    ·exact Ev.ite_neg (by decide) Ev.some
    ·refine Ev.ite_pos rfl (Ev.bind' (contains_says s) ?_)
     rw [Bool.not_not, Bool.true_and]
     exact Ev.some
  refine Ev.succ (fun k => ?_) h
  simp only [impl_NodeOk.j0]
  rw [if_neg (by decide)]
 ·exact Ev.succ (g := fun _ => some false) (fun k => by simp [impl_NodeOk.j0]) Ev.some
def node (p : ByteArray) (kd md tm : Int) (d s : ByteArray) (g : Int) : Bool := pok p && (decide (0 ≤ md ∧ md ≤ 511) && (decide (0 ≤ tm ∧ tm ≤ 1000000000) && rest kd md d s g))
theorem specNode (p : ByteArray) (kd md tm : Int) (d s : ByteArray) (g : Int) (hs : s.size ≤ 9223372036854775800) : Ev (fun k => spec_NodeOk.f k p kd md tm d s g) (node p kd md tm d s g) := by
 unfold spec_NodeOk.f node
 refine Ev.bind (specPath p) ?_
 cases pok p
 ·exact Ev.ite_neg (by decide) (specNode_j0 p kd md tm d s g hs true)
 ·refine Ev.ite_pos rfl (Ev.bind' (in_says _ _ _) ?_)
  cases decide (0 ≤ md ∧ md ≤ 511)
  ·exact Ev.ite_neg (by decide) (specNode_j0 p kd md tm d s g hs true)
  ·refine Ev.ite_pos rfl (Ev.bind' (in_says _ _ _) ?_)
   have := specNode_j0 p kd md tm d s g hs (!decide (0 ≤ tm ∧ tm ≤ 1000000000))
   rw [Bool.not_not] at this
   exact this
theorem implNode (p : ByteArray) (kd md tm : Int) (d s : ByteArray) (g : Int) : Ev (fun k => impl_NodeOk.f k p kd md tm d s g) (node p kd md tm d s g) := by
 unfold impl_NodeOk.f node
 refine Ev.bind (implPath p) ?_
 cases pok p
 ·exact Ev.ite_neg (by decide) (implNode_j0 p kd md tm d s g true)
 ·refine Ev.ite_pos rfl (Ev.bind' (within_says _ _ _) ?_)
  cases decide (0 ≤ md ∧ md ≤ 511)
  ·exact Ev.ite_neg (by decide) (implNode_j0 p kd md tm d s g true)
  ·refine Ev.ite_pos rfl (Ev.bind' (within_says _ _ _) ?_)
   have := implNode_j0 p kd md tm d s g (!decide (0 ≤ tm ∧ tm ≤ 1000000000))
   rw [Bool.not_not] at this
   exact this

/-! ### Numbers -/
theorem B_append (a b : List UInt8) : B a ++ B b = B (a ++ b) := by
 apply ByteArray.ext
 simp [B]
def dd (m : Nat) : List UInt8 := if m = 0 then [] else Lib.decDigits m
theorem dd_step {m : Nat} (h : m ≠ 0) : dd m = dd (m / 10) ++ [UInt8.ofNat (48 + m % 10)] := by
 unfold dd
 rw [if_neg h, Lib.decDigits]
 by_cases h10 : m < 10
 ·rw [dif_pos h10, if_pos (by omega), Nat.mod_eq_of_lt h10]; rfl
 ·rw [dif_neg h10, if_neg (by omega)]
theorem digit (d : Fin 10) : (⟨#[48, 49, 50, 51, 52, 53, 54, 55, 56, 57]⟩ : ByteArray).extract d.val (d.val + 1) = B [UInt8.ofNat (48 + d.val)] := by
 revert d
 decide +kernel
theorem specDec_l0 (n : Int) (hn : 0 ≤ n) : ∀ (f m : Nat) (acc : ByteArray), m < 10 ^ f → m ≤ 9223372036854775806 → acc.size + f ≤ 1000 →
  Ev (fun k => spec_DecText.l0 k n acc (m : Int)) (B (dd m) ++ acc) := by
 intro f
 induction f with
 | zero =>
  intro m acc hm hb ha
  obtain rfl : m = 0 := by omega
  have e : B (dd 0) ++ acc = acc := by apply ByteArray.ext; simp [dd, B]
  rw [e]
  refine Ev.succ (g := fun _ => some acc) (fun k => ?_) Ev.some
  simp only [spec_DecText.l0]
  rw [if_pos (by omega), if_neg (by omega)]
 | succ f ih =>
  intro m acc hm hb ha
  by_cases h0 : m = 0
  ·subst h0
   have e : B (dd 0) ++ acc = acc := by apply ByteArray.ext; simp [dd, B]
   rw [e]
   refine Ev.succ (g := fun _ => some acc) (fun k => ?_) Ev.some
   simp only [spec_DecText.l0]
   rw [if_pos (by omega), if_neg (by omega)]
  ·have hd := digit ⟨m % 10, Nat.mod_lt _ (by decide)⟩
   simp only at hd
   have := ih (m / 10) (B [UInt8.ofNat (48 + m % 10)] ++ acc) (by rw [Nat.pow_succ] at hm; omega) (by omega) (by rw [ByteArray.size_append, B_size]; simp only [List.length_singleton]; omega)
   have e : B (dd (m / 10)) ++ (B [UInt8.ofNat (48 + m % 10)] ++ acc) = B (dd m) ++ acc := by
    rw [dd_step h0, ← B_append]
    apply ByteArray.ext
    simp
   rw [e] at this
   refine Ev.succ (fun k => ?_) this
   simp only [spec_DecText.l0]
   have e1 : Int.tmod (m : Int) 10 = ((m % 10 : Nat) : Int) := by rw [Int.tmod_eq_emod_of_nonneg (by omega)]; omega
   have e2 : wrap64 (Int.tdiv (m : Int) 10) = ((m / 10 : Nat) : Int) := by
    rw [Int.tdiv_eq_ediv_of_nonneg (by omega), wrap64_id (by omega) (by omega)]; omega
   have e3 : wrap64 (((m % 10 : Nat) : Int) + 1) = ((m % 10 + 1 : Nat) : Int) := by rw [wrap64_id (by omega) (by omega)]; omega
   rw [if_neg (by omega), e1, e2, e3, if_neg (by omega), if_pos (by omega), if_pos (by omega), if_pos (by omega), Int.toNat_natCast, Int.toNat_natCast, hd, if_pos (by rw [B_size]; simp only [List.length_singleton]; omega)]
def num (n : Int) : ByteArray := ⟨(Lib.itoa n).toArray⟩
theorem specDec (n : Int) (h0 : 0 ≤ n) (h1 : n ≤ 1000000000) : Ev (fun k => spec_DecText.f k n) (num n) := by
 obtain ⟨m, rfl⟩ := Int.eq_ofNat_of_zero_le h0
 unfold spec_DecText.f
 have en : num (m : Int) = B (Lib.decDigits m) := by
  unfold num Lib.itoa
  rw [if_neg (by omega), Int.toNat_natCast]; rfl
 rw [en]
 by_cases hm : m = 0
 ·subst hm
  refine Ev.ite_pos rfl ?_
  have e : B (Lib.decDigits 0) = (⟨#[48]⟩ : ByteArray) := by rw [Lib.decDigits]; rfl
  rw [e]
  exact Ev.some
 ·refine Ev.ite_neg (by omega) ?_
  have := specDec_l0 (m : Int) h0 10 m ⟨#[]⟩ (by omega) (by omega) (by decide)
  have e : B (dd m) ++ (⟨#[]⟩ : ByteArray) = B (Lib.decDigits m) := by
   unfold dd
   rw [if_neg hm]
   apply ByteArray.ext; simp
  rw [e] at this
  exact this
theorem implDec (n : Int) (h0 : 0 ≤ n) (h1 : n ≤ 1000000000) : impl_DecText.f n = some (num n) := by
 unfold impl_DecText.f strconv_Itoa.f
 rw [if_pos ⟨by omega, by omega⟩]; rfl
theorem digits_le : ∀ (f m : Nat), m < 10 ^ f → 1 ≤ f → (Lib.decDigits m).length ≤ f := by
 intro f
 induction f with
 | zero => intro m _ h; omega
 | succ f ih =>
  intro m hm _
  rw [Lib.decDigits]
  by_cases h10 : m < 10
  ·rw [dif_pos h10]; simp
  ·rw [dif_neg h10, List.length_append, List.length_singleton]
   have hf : 1 ≤ f := by
    rcases Nat.eq_zero_or_pos f with rfl | h
    ·simp at hm; omega
    ·exact h
   have := ih (m / 10) (by rw [Nat.pow_succ] at hm; omega) hf
   omega
theorem num_size (n : Int) (h0 : 0 ≤ n) (h1 : n ≤ 1000000000) : (num n).size ≤ 10 := by
 obtain ⟨m, rfl⟩ := Int.eq_ofNat_of_zero_le h0
 have en : num (m : Int) = B (Lib.decDigits m) := by
  unfold num Lib.itoa
  rw [if_neg (by omega), Int.toNat_natCast]; rfl
 rw [en, B_size]
 exact digits_le 10 m (by omega) (by decide)

/-! ### Hexadecimal -/
def dig : ByteArray := ⟨#[48, 49, 50, 51, 52, 53, 54, 55, 56, 57, 97, 98, 99, 100, 101, 102]⟩
def hx (b : Int) : List Int := [bt dig ((Int.tdiv b 16) % 256), bt dig (Int.tmod b 16)]
def hexS (s : ByteArray) : ByteArray := if s.toList = ([] : List UInt8) then (⟨#[45]⟩ : ByteArray) else strOfNums ((bytesOf s).flatMap hx)
theorem hx_facts {b : Int} (h : 0 ≤ b ∧ b ≤ 255) : (0 ≤ (Int.tdiv b 16) % 256 ∧ (Int.tdiv b 16) % 256 < 16) ∧ (0 ≤ Int.tmod b 16 ∧ Int.tmod b 16 < 16) := by
 rw [Int.tdiv_eq_ediv_of_nonneg h.1, Int.tmod_eq_emod_of_nonneg h.1]
 omega
theorem specHex_l0 (s : ByteArray) (hs : s.size ≤ 20000) : ∀ n i : Nat, ∀ acc : List Int, i + n = s.size → acc.length ≤ 2 * i →
  Ev (fun k => spec_HexText.l0 k (bytesOf s) acc (i : Int)) (strOfNums (acc ++ ((bytesOf s).drop i).flatMap hx)) := by
 have hl := bytesOf_length s
 intro n
 induction n with
 | zero =>
  intro i acc hi ha
  obtain rfl : i = s.size := by omega
  rw [bytes_end, List.flatMap_nil, List.append_nil]
  refine Ev.succ (g := fun _ => some (strOfNums acc)) (fun k => ?_) Ev.some
  simp only [spec_HexText.l0]
  rw [if_neg (by omega)]
 | succ n ih =>
  intro i acc hi ha
  have hf := hx_facts (bt_range s i)
  have := ih (i + 1) (acc ++ hx (bt s i)) (by omega) (by rw [List.length_append]; simp only [hx, List.length_cons, List.length_nil]; omega)
  have e : acc ++ hx (bt s i) ++ ((bytesOf s).drop (i + 1)).flatMap hx = acc ++ ((bytesOf s).drop i).flatMap hx := by
   rw [bytes_drop s i (by omega), List.flatMap_cons, List.append_assoc]
  rw [e] at this
  refine Ev.succ (fun k => ?_) this
  simp only [spec_HexText.l0, rd_bytesOf]
  rw [if_pos (by omega), if_pos (by omega), if_pos hf.1.1, if_pos hf.1.2, if_pos hf.2.1, if_pos hf.2.2, Option.bind_some, if_pos (by simp only [List.length_cons, List.length_nil]; omega), wrap64_id (x := (i : Int) + 1) (by omega) (by omega)]
  rfl
theorem implHex_l0 (s : ByteArray) (hs : s.size ≤ 20000) : ∀ n i : Nat, ∀ acc : List Int, i + n = s.size → acc.length ≤ 2 * i →
  Ev (fun k => impl_hexText.l0 k s acc (s.size : Int) (i : Int)) (strOfNums (acc ++ ((bytesOf s).drop i).flatMap hx)) := by
 intro n
 induction n with
 | zero =>
  intro i acc hi ha
  obtain rfl : i = s.size := by omega
  rw [bytes_end, List.flatMap_nil, List.append_nil]
  refine Ev.succ (g := fun _ => some (strOfNums acc)) (fun k => ?_) Ev.some
  simp only [impl_hexText.l0]
  rw [if_neg (by omega)]
 | succ n ih =>
  intro i acc hi ha
  have hf := hx_facts (bt_range s i)
  have := ih (i + 1) (acc ++ hx (bt s i)) (by omega) (by rw [List.length_append]; simp only [hx, List.length_cons, List.length_nil]; omega)
  have e : acc ++ hx (bt s i) ++ ((bytesOf s).drop (i + 1)).flatMap hx = acc ++ ((bytesOf s).drop i).flatMap hx := by
   rw [bytes_drop s i (by omega), List.flatMap_cons, List.append_assoc]
  rw [e] at this
  refine Ev.succ (fun k => ?_) this
  simp only [impl_hexText.l0]
  rw [if_pos (by omega), if_pos (by omega), if_pos (by omega), if_pos hf.1.1, if_pos hf.1.2, if_pos hf.2.1, if_pos hf.2.2, Option.bind_some, if_pos (by simp only [List.length_cons, List.length_nil]; omega), wrap64_id (x := (i : Int) + 1) (by omega) (by omega)]
  rfl
theorem specHex (s : ByteArray) (hs : s.size ≤ 20000) : Ev (fun k => spec_l20Hex.f k s) (hexS s) := by
 unfold spec_l20Hex.f hexS
 refine Ev.ite2 (fun _ => Ev.some) (fun _ => Ev.ite_pos (by omega) ?_)
 refine Ev.bind ?_ Ev.some
 unfold spec_HexText.f
 refine Ev.ite_neg (by rw [bytesOf_length]; omega) ?_
 have := specHex_l0 s hs s.size 0 [] (by omega) (Nat.le_refl _)
 exact this
theorem implHex (s : ByteArray) (hs : s.size ≤ 20000) : Ev (fun k => impl_hexOf.f k s) (hexS s) := by
 unfold impl_hexOf.f hexS
 refine Ev.ite2 (fun _ => Ev.some) (fun _ => ?_)
 refine Ev.bind ?_ Ev.some
 unfold impl_hexText.f
 rw [wrap64_id (x := 2 * (s.size : Int)) (by omega) (by omega)]
 refine Ev.ite_pos (by omega) (Ev.ite_pos (by omega) ?_)
 have := implHex_l0 s hs s.size 0 [] (by omega) (Nat.le_refl _)
 exact this
theorem hexS_size (s : ByteArray) (hs : s.size ≤ 20000) : (hexS s).size ≤ 40001 := by
 unfold hexS
 split
 ·decide
 ·rw [strOfNums_size]
  have : ∀ l : List Int, (l.flatMap hx).length = 2 * l.length := by
   intro l
   induction l with
   | nil => rfl
   | cons a l ih => rw [List.flatMap_cons, List.length_append, ih]; simp only [hx, List.length_cons, List.length_nil]; omega
  rw [this, bytesOf_length]
  omega

/-! ### The line of a node -/
theorem sd : (⟨#[100, 32]⟩ : ByteArray).size = 2 := rfl
theorem sf : (⟨#[102, 32]⟩ : ByteArray).size = 2 := rfl
theorem sl : (⟨#[108, 32]⟩ : ByteArray).size = 2 := rfl
theorem s1 : (⟨#[32]⟩ : ByteArray).size = 1 := rfl
def lineD (p a b : ByteArray) : ByteArray := (((((⟨#[100, 32]⟩ : ByteArray) ++ p) ++ (⟨#[32]⟩ : ByteArray)) ++ a) ++ (⟨#[32]⟩ : ByteArray)) ++ b
def lineF (p a b c d : ByteArray) : ByteArray := (((((((((⟨#[102, 32]⟩ : ByteArray) ++ p) ++ (⟨#[32]⟩ : ByteArray)) ++ a) ++ (⟨#[32]⟩ : ByteArray)) ++ b) ++ (⟨#[32]⟩ : ByteArray)) ++ c) ++ (⟨#[32]⟩ : ByteArray)) ++ d
def lineL (p a b : ByteArray) : ByteArray := (((((⟨#[108, 32]⟩ : ByteArray) ++ p) ++ (⟨#[32]⟩ : ByteArray)) ++ a) ++ (⟨#[32]⟩ : ByteArray)) ++ b
theorem join_says (xs : List ByteArray) (r : ByteArray) (h1 : 1 ≤ xs.length) (h2 : xs.length ≤ 100) (hr : Lib.join (xs.map (·.data.toList)) [32] = r.data.toList) (hz : r.size ≤ 140737488355328) :
  strings_Join.f xs (⟨#[32]⟩ : ByteArray) = some r := by
 unfold strings_Join.f
 have hr' : Lib.join (xs.map (·.data.toList)) (⟨#[32]⟩ : ByteArray).data.toList = r.data.toList := hr
 rw [hr', if_pos ⟨h1, by omega, by rw [data_length]; exact hz⟩]
theorem joinD (p a b : ByteArray) (hz : p.size + a.size + b.size ≤ 1000000) : strings_Join.f [(⟨#[100]⟩ : ByteArray), p, a, b] (⟨#[32]⟩ : ByteArray) = some (lineD p a b) :=
 join_says _ _ (by simp) (by simp) (by simp [Lib.join_cons, Lib.joinTail, lineD]) (by simp only [lineD, ByteArray.size_append, sd, s1]; omega)
theorem joinF (p a b c d : ByteArray) (hz : p.size + a.size + b.size + c.size + d.size ≤ 1000000) : strings_Join.f [(⟨#[102]⟩ : ByteArray), p, a, b, c, d] (⟨#[32]⟩ : ByteArray) = some (lineF p a b c d) :=
 join_says _ _ (by simp) (by simp) (by simp [Lib.join_cons, Lib.joinTail, lineF]) (by simp only [lineF, ByteArray.size_append, sf, s1]; omega)
theorem joinL (p a b : ByteArray) (hz : p.size + a.size + b.size ≤ 1000000) : strings_Join.f [(⟨#[108]⟩ : ByteArray), p, a, b] (⟨#[32]⟩ : ByteArray) = some (lineL p a b) :=
 join_says _ _ (by simp) (by simp) (by simp [Lib.join_cons, Lib.joinTail, lineL]) (by simp only [lineL, ByteArray.size_append, sl, s1]; omega)
def line (p : ByteArray) (kd md tm : Int) (d s : ByteArray) (g : Int) : ByteArray :=
 if kd = 0 then lineD p (num md) (num tm) else if kd = 1 then lineF p (num md) (num tm) (num g) (hexS d) else lineL p (num tm) (hexS s)
/-- What a right node gives. -/
theorem node_gives {p : ByteArray} {kd md tm : Int} {d s : ByteArray} {g : Int} (h : node p kd md tm d s g = true) :
  p.size ≤ 167 ∧ (0 ≤ md ∧ md ≤ 511) ∧ (0 ≤ tm ∧ tm ≤ 1000000000) ∧ (kd = 0 ∨ (kd = 1 ∧ d.size ≤ 20000 ∧ 0 ≤ g ∧ g ≤ 200) ∨ (kd ≠ 0 ∧ kd ≠ 1 ∧ s.size ≤ 60)) := by
 unfold node at h
 simp only [Bool.and_eq_true, decide_eq_true_eq] at h
 obtain ⟨hp, hm, ht, hr⟩ := h
 refine ⟨pok_size hp, hm, ht, ?_⟩
 unfold rest at hr
 by_cases h0 : kd = 0
 ·exact .inl h0
 ·rw [if_neg h0] at hr
  by_cases h1 : kd = 1
  ·rw [if_pos h1] at hr
   refine .inr (.inl ⟨h1, ?_⟩)
   split at hr
   ·rename_i hd
    split at hr
    ·simp only [decide_eq_true_eq] at hr
     omega
    ·cases hr
   ·cases hr
  ·rw [if_neg h1] at hr
   refine .inr (.inr ⟨h0, h1, ?_⟩)
   split at hr
   ·split at hr
    ·split at hr
     ·split at hr
      ·simp only [Bool.and_eq_true, decide_eq_true_eq] at hr
       omega
      ·cases hr
     ·cases hr
    ·cases hr
   ·cases hr
theorem specShow (p : ByteArray) (kd md tm : Int) (d s : ByteArray) (g : Int) (hs : s.size ≤ 9223372036854775800) : Ev (fun k => spec_ShowNode.f k p kd md tm d s g) (if node p kd md tm d s g = true then line p kd md tm d s g else ⟨#[]⟩) := by
 unfold spec_ShowNode.f
 refine Ev.bind (specNode p kd md tm d s g hs) ?_
 refine Ev.ite2 (fun hn => ?_) (fun _ => Ev.some)
 obtain ⟨hp, hm, ht, hk⟩ := node_gives hn
 have zm := num_size md hm.1 (by omega)
 have zt := num_size tm ht.1 ht.2
 unfold line
 refine Ev.ite2 (fun _ => ?_) (fun h0 => Ev.ite2 (fun h1 => ?_) (fun h1 => ?_))
 ·refine Ev.ite_pos (by omega) (Ev.ite_pos (by simp only [ByteArray.size_append, sd, s1]; omega) ?_)
  refine Ev.bind (specDec md hm.1 (by omega)) (Ev.ite_pos (by simp only [ByteArray.size_append, sd, s1]; omega) (Ev.ite_pos (by simp only [ByteArray.size_append, sd, s1]; omega) ?_))
  exact Ev.bind (specDec tm ht.1 ht.2) (Ev.ite_pos (by simp only [ByteArray.size_append, sd, s1]; omega) Ev.some)
 ·obtain ⟨_, hd, hg0, hg1⟩ : kd = 1 ∧ d.size ≤ 20000 ∧ 0 ≤ g ∧ g ≤ 200 := by omega
  have zg := num_size g hg0 (by omega)
  have zd := hexS_size d hd
  refine Ev.ite_pos (by omega) (Ev.ite_pos (by simp only [ByteArray.size_append, sf, s1]; omega) ?_)
  refine Ev.bind (specDec md hm.1 (by omega)) (Ev.ite_pos (by simp only [ByteArray.size_append, sf, s1]; omega) (Ev.ite_pos (by simp only [ByteArray.size_append, sf, s1]; omega) ?_))
  refine Ev.bind (specDec tm ht.1 ht.2) (Ev.ite_pos (by simp only [ByteArray.size_append, sf, s1]; omega) (Ev.ite_pos (by simp only [ByteArray.size_append, sf, s1]; omega) ?_))
  refine Ev.bind (specDec g hg0 (by omega)) (Ev.ite_pos (by simp only [ByteArray.size_append, sf, s1]; omega) (Ev.ite_pos (by simp only [ByteArray.size_append, sf, s1]; omega) ?_))
  exact Ev.bind (specHex d hd) (Ev.ite_pos (by simp only [ByteArray.size_append, sf, s1]; omega) Ev.some)
 ·have hs6 : s.size ≤ 60 := by omega
  have zs := hexS_size s (by omega)
  refine Ev.ite_pos (by omega) (Ev.ite_pos (by simp only [ByteArray.size_append, sl, s1]; omega) ?_)
  refine Ev.bind (specDec tm ht.1 ht.2) (Ev.ite_pos (by simp only [ByteArray.size_append, sl, s1]; omega) (Ev.ite_pos (by simp only [ByteArray.size_append, sl, s1]; omega) ?_))
  exact Ev.bind (specHex s (by omega)) (Ev.ite_pos (by simp only [ByteArray.size_append, sl, s1]; omega) Ev.some)
theorem implShow (p : ByteArray) (kd md tm : Int) (d s : ByteArray) (g : Int) : Ev (fun k => impl_ShowNode.f k p kd md tm d s g) (if node p kd md tm d s g = true then line p kd md tm d s g else ⟨#[]⟩) := by
 unfold impl_ShowNode.f
 refine Ev.bind (implNode p kd md tm d s g) ?_
 refine Ev.ite2 (fun hn => ?_) (fun _ => Ev.some)
 obtain ⟨hp, hm, ht, hk⟩ := node_gives hn
 have zm := num_size md hm.1 (by omega)
 have zt := num_size tm ht.1 ht.2
 refine Ev.bind ?_ Ev.some
 unfold impl_showNode.f line
 refine Ev.ite2 (fun _ => ?_) (fun h0 => Ev.ite2 (fun h1 => ?_) (fun h1 => ?_))
 ·refine Ev.bind' (implDec md hm.1 (by omega)) (Ev.bind' (implDec tm ht.1 ht.2) (Ev.bind' (joinD p _ _ (by omega)) Ev.some))
 ·obtain ⟨_, hd, hg0, hg1⟩ : kd = 1 ∧ d.size ≤ 20000 ∧ 0 ≤ g ∧ g ≤ 200 := by omega
  have zg := num_size g hg0 (by omega)
  have zd := hexS_size d hd
  exact Ev.bind' (implDec md hm.1 (by omega)) (Ev.bind' (implDec tm ht.1 ht.2) (Ev.bind' (implDec g hg0 (by omega)) (Ev.bind (implHex d hd) (Ev.bind' (joinF p _ _ _ _ (by omega)) Ev.some))))
 ·have hs6 : s.size ≤ 60 := by omega
  have zs := hexS_size s (by omega)
  exact Ev.bind' (implDec tm ht.1 ht.2) (Ev.bind (implHex s (by omega)) (Ev.bind' (joinL p _ _ (by omega)) Ev.some))
theorem szNode_says (p : ByteArray) (kd md tm : Int) (d s : ByteArray) (g : Int) (hp : p.size ≤ 9223372036854775807) (hd : d.size ≤ 9223372036854775807) (hs : s.size ≤ 9223372036854775807) :
  ∃ r, laws_szNode.f p kd md tm d s g 1048576 = some r ∧ (r < 0 ∨ s.size ≤ 1048576) := by
 unfold laws_szNode.f
 rw [wrap64_id (x := 1048576 - (p.size : Int)) (by omega) (by omega)]
 by_cases h1 : (1048576 : Int) - p.size < 0
 ·exact ⟨-1, if_pos h1, .inl (by decide)⟩
 ·rw [if_neg h1, wrap64_id (x := 1048576 - (p.size : Int) - d.size) (by omega) (by omega)]
  by_cases h2 : (1048576 : Int) - p.size - d.size < 0
  ·exact ⟨-1, if_pos h2, .inl (by decide)⟩
  ·rw [if_neg h2, wrap64_id (x := 1048576 - (p.size : Int) - d.size - s.size) (by omega) (by omega)]
   by_cases h3 : (1048576 : Int) - p.size - d.size - s.size < 0
   ·exact ⟨-1, if_pos h3, .inl (by decide)⟩
   ·exact ⟨_, if_neg h3, .inr (by omega)⟩
theorem law (p : ByteArray) (kd md tm : Int) (d s : ByteArray) (g : Int) (hp : p.size ≤ 9223372036854775807) (hd : d.size ≤ 9223372036854775807) (hs : s.size ≤ 9223372036854775807) :
  ∃ k, laws_FnExactShowNode.f k p kd md tm d s g = some true := by
 apply Ev.get
 unfold laws_FnExactShowNode.f
 obtain ⟨r, h1, h2⟩ := szNode_says p kd md tm d s g hp hd hs
 refine Ev.bind' h1 ?_
 by_cases hr : r < 0
 ·exact Ev.ite_pos hr Ev.some
 ·have hs2 : s.size ≤ 1048576 := h2.resolve_left hr
  refine Ev.ite_neg hr (Ev.bind' (a := (p, kd, md, tm, d, s, g)) rfl ?_)
  refine Ev.bind (specShow p kd md tm d s g (by omega)) ?_
  refine Ev.bind' (a := (p, kd, md, tm, d, s, g)) rfl ?_
  exact Ev.bind (implShow p kd md tm d s g) (Ev.ite_pos rfl Ev.some)
end Go.Proofs.YtjiaigjmihmdjaaDoor.Pure
