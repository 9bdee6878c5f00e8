
/- Numbers of varying length, as the reference and the program read them: both read what 'dv' tells. Plain Lean: no program's step stands here. -/
import Derived.Test.YtjiaigjmihmdjaaPFnExactGetMsgx1
import Derived.Test.YtjiaigjmihmdjaaPFnExactGetMsgx3
import Derived.Test.YtjiaigjmihmdjaaPFnExactGetMsgx7
import Derived.Test.YtjiaigjmihmdjaaPFnExactGetMsgx9
namespace Go.Proofs.Ytjiaigjmihmdjaa.Pure
open Go.RowKit Go.Proofs.Ytjiaigjmihmdjaa.PFnExactGetMsg Go.Proofs.YtjiaigjmihmdjaaW.PrintWords Go.Proofs.YtjiaigjmihmdjaaW.PrintLast Go.Proofs.YtjiaigjmihmdjaaW.PrintMore
set_option linter.unusedVariables false
set_option linter.unusedSimpArgs false

/-- With enough rounds. -/
def Ev {α : Type} (f : Nat → Option α) (r : α) : Prop := ∃ K, ∀ k, K ≤ k → f k = some r
section
variable {α β : Type} {f g : Nat → Option α} {r a : α}
theorem Ev.pure (h : ∀ k, f k = some r) : Ev f r := ⟨0, fun k _ => h k⟩
theorem Ev.succ (h : ∀ k, f (k + 1) = g k) (hg : Ev g r) : Ev f r := by
 obtain ⟨K, hK⟩ := hg
 refine ⟨K + 1, fun k hk => ?_⟩
 obtain ⟨k, rfl⟩ : ∃ m, k = m + 1 := ⟨k - 1, by omega⟩
 rw [h]; exact hK k (by omega)
theorem Ev.congr (h : ∀ k, f k = g k) (hg : Ev g r) : Ev f r := by
 obtain ⟨K, hK⟩ := hg
 exact ⟨K, fun k hk => by rw [h]; exact hK k hk⟩
theorem Ev.bind {b : β} {g : Nat → α → Option β} (hf : Ev f a) (hg : Ev (fun k => g k a) b) : Ev (fun k => (f k).bind (g k)) b := by
 obtain ⟨K, hK⟩ := hf
 obtain ⟨M, hM⟩ := hg
 refine ⟨max K M, fun k hk => ?_⟩
 show (f k).bind (g k) = some b
 rw [hK k (by omega)]; exact hM k (by omega)
theorem Ev.bind' {b : β} {o : Option α} {g : Nat → α → Option β} (ho : o = some a) (hg : Ev (fun k => g k a) b) : Ev (fun k => o.bind (g k)) b := by
 subst ho; exact hg
theorem Ev.get (h : Ev f r) : ∃ k, f k = some r := by
 obtain ⟨K, hK⟩ := h
 exact ⟨K, hK K (Nat.le_refl _)⟩
end

/-- The bytes of a list as a string, and as numbers. -/
def B (L : List UInt8) : ByteArray := ⟨L.toArray⟩
def nums (L : List UInt8) : List Int := L.map fun b => (b.toNat : Int)
theorem B_size (L : List UInt8) : (B L).size = L.length := by simp [B, ByteArray.size]
theorem B_inj {L M : List UInt8} (h : B L = B M) : L = M := by simpa [B] using h
theorem B_toList (s : ByteArray) : B s.data.toList = s := rfl
theorem nums_length (L : List UInt8) : (nums L).length = L.length := by simp [nums]
theorem bt_B (L : List UInt8) (i : Int) : bt (B L) i = ((L.getD i.toNat 0).toNat : Int) := by
 unfold bt
 split
 ·rename_i h
  have h' : i.toNat < L.length := by rwa [B_size] at h
  simp [B, List.getD_eq_getElem?_getD, List.getElem?_eq_getElem h']
  rfl
 ·rename_i h
  have h' : ¬ i.toNat < L.length := by rwa [B_size] at h
  simp [List.getD_eq_getElem?_getD, List.getElem?_eq_none (Nat.le_of_not_lt h')]
theorem rd_nums (L : List UInt8) (i : Int) : rd (nums L) i = ((L.getD i.toNat 0).toNat : Int) := by
 unfold rd nums
 by_cases h : i.toNat < L.length
 ·simp [List.getD_eq_getElem?_getD, List.getElem?_eq_getElem h]
 ·simp [List.getD_eq_getElem?_getD, List.getElem?_eq_none (Nat.le_of_not_lt h)]
theorem drop_nums (L : List UInt8) (n : Nat) : (nums L).drop n = nums (L.drop n) := by simp [nums, List.map_drop]
theorem take_nums (L : List UInt8) (n : Nat) : (nums L).take n = nums (L.take n) := by simp [nums, List.map_take]
theorem strOfNums_nums (L : List UInt8) : strOfNums (nums L) = B L := by
 unfold strOfNums nums B
 congr 2
 rw [List.map_map]
 conv => rhs; rw [← List.map_id L]
 apply List.map_congr_left
 intro b _
 simp
theorem byte_lt (b : UInt8) : b.toNat < 256 := by have := b.toNat_lt; omega

/-- What a number of varying length at the head of L tells: its value, and how many bytes it has (at most n). -/
def dv : Nat → List UInt8 → Option (Nat × Nat)
 | 0, _ => none
 | _ + 1, [] => none
 | n + 1, b :: r => if b.toNat < 128 then some (b.toNat, 1) else match dv n r with
  | none => none
  | some (v, c) => if v = 0 then none else some (b.toNat % 128 + 128 * v, c + 1)
theorem dv_cons {n : Nat} {b : UInt8} {r : List UInt8} (h : ¬ b.toNat < 128) : dv (n + 1) (b :: r) = match dv n r with
  | none => none
  | some (v, c) => if v = 0 then none else some (b.toNat % 128 + 128 * v, c + 1) := by rw [dv, if_neg h]
theorem dv_bound : ∀ (n : Nat) (L : List UInt8) (v c : Nat), dv n L = some (v, c) → 1 ≤ c ∧ c ≤ n ∧ c ≤ L.length ∧ v < 128 ^ c
 | 0, L, v, c, h => by simp [dv] at h
 | n + 1, [], v, c, h => by simp [dv] at h
 | n + 1, b :: r, v, c, h => by
  by_cases hb : b.toNat < 128
  ·rw [dv, if_pos hb] at h
   simp at h
   obtain ⟨rfl, rfl⟩ := h
   simp; omega
  ·rw [dv_cons hb] at h
   cases hd : dv n r with
   | none => simp [hd] at h
   | some p =>
    obtain ⟨v', c'⟩ := p
    simp only [hd] at h
    by_cases hv : v' = 0
    ·simp [hv] at h
    ·rw [if_neg hv] at h
     simp at h
     obtain ⟨rfl, rfl⟩ := h
     obtain ⟨h1, h2, h3, h4⟩ := dv_bound n r v' c' hd
     refine ⟨by omega, by omega, by simp; omega, ?_⟩
     rw [Nat.pow_succ]; omega
theorem dv_vtl : ∀ (n : Nat) (L : List UInt8) (v c : Nat), dv n L = some (v, c) → vtl v = L.take c
 | 0, L, v, c, h => by simp [dv] at h
 | n + 1, [], v, c, h => by simp [dv] at h
 | n + 1, b :: r, v, c, h => by
  by_cases hb : b.toNat < 128
  ·rw [dv, if_pos hb] at h
   simp at h
   obtain ⟨rfl, rfl⟩ := h
   rw [vtl, if_pos hb]
   simp
  ·rw [dv_cons hb] at h
   cases hd : dv n r with
   | none => simp [hd] at h
   | some p =>
    obtain ⟨v', c'⟩ := p
    simp only [hd] at h
    by_cases hv : v' = 0
    ·simp [hv] at h
    ·rw [if_neg hv] at h
     simp at h
     obtain ⟨rfl, rfl⟩ := h
     have hlt := byte_lt b
     rw [vtl, if_neg (by omega)]
     have e1 : (b.toNat % 128 + 128 * v') / 128 = v' := by omega
     have e2 : (b.toNat % 128 + 128 * v') % 128 + 128 = b.toNat := by omega
     rw [e1, e2, dv_vtl n r v' c' hd]
     simp
/-! ### The program's reading -/
theorem wrap64_id {x : Int} (h0 : -9223372036854775808 ≤ x) (h1 : x < 9223372036854775808) : wrap64 x = x := by unfold wrap64; omega
theorem wraps_i64 (n : Int) (h0 : 0 ≤ n) (h1 : n < 2 ^ 63) : IntKind.i64.wrap n = n := by rw [IntKind.wrap_i64]; omega
theorem pow128 (i : Nat) : (128 : Nat) ^ i = 2 ^ (7 * i) := by rw [Nat.pow_mul]
theorem join_step {A b i : Nat} (hA : A < 128 ^ i) (hi : i ≤ 8) (hb : b < 256) :
  Go.bits .or .i64 (A : Int) (shl .i64 (wrap64 (Go.bits .and .u8 (b : Int) 127)) (wrap64 (7 * (i : Int)))) = ((A + b % 128 * 128 ^ i : Nat) : Int) := by
 have hm : Go.bits .and .u8 (b : Int) 127 = ((b % 128 : Nat) : Int) := by
  have := bits_mask .u8 8 (by decide) wraps_u8 7 (by decide) (b : Int) (by omega) (by omega)
  simpa using this
 have hlt : b % 128 < 128 := Nat.mod_lt _ (by decide)
 have hp : 128 ^ i ≤ 128 ^ 8 := Nat.pow_le_pow_right (by decide) hi
 have hp8 : (128 : Nat) ^ 8 = 2 ^ 56 := by decide
 have hH : b % 128 * 128 ^ i < 2 ^ 63 := by
  have : b % 128 * 128 ^ i ≤ 127 * 128 ^ 8 := Nat.mul_le_mul (by omega) hp
  omega
 have hs : shl .i64 (wrap64 (Go.bits .and .u8 (b : Int) 127)) (wrap64 (7 * (i : Int))) = ((b % 128 * 128 ^ i : Nat) : Int) := by
  rw [hm, wrap64_id (by omega) (by omega), wrap64_id (by omega) (by omega)]
  unfold shl
  have e1 : min (7 * (i : Int)).toNat IntKind.i64.bits = 7 * i := by
   have : IntKind.i64.bits = 64 := rfl
   rw [this]; omega
  have e2 : ((b % 128 : Nat) : Int) * 2 ^ (7 * i) = ((b % 128 * 128 ^ i : Nat) : Int) := by rw [pow128]; simp
  rw [e1, e2, wraps_i64 _ (Int.natCast_nonneg _) (by exact_mod_cast hH)]
 rw [hs, (bits_nat .i64 63 (by decide) wraps_i64 A _ (by omega) hH).2, Nat.or_comm]
 congr 1
 rw [pow128, Nat.mul_comm, ← Nat.two_pow_add_eq_or_of_lt (by rw [← pow128]; exact hA), Nat.add_comm]
def vres (i A : Nat) : Option (Nat × Nat) → Int × Int
 | none => (0, 0)
 | some (v, c) => if 0 < i ∧ v = 0 then (0, 0) else (((A + v * 128 ^ i : Nat) : Int), ((i + c : Nat) : Int))
theorem readVar_l0 (L : List UInt8) (hL : L.length ≤ 140737488351232) : ∀ (n i A : Nat), n + i = 9 → A < 128 ^ i → Ev (fun k => impl_readVar.l0 k (B L) (A : Int) (i : Int)) (vres i A (dv n (L.drop i))) := by
 intro n
 induction n with
 | zero =>
  intro i A hi hA
  refine Ev.succ (g := fun _ => some (0, 0)) (fun k => ?_) (Ev.pure fun _ => rfl)
  obtain rfl : i = 9 := by omega
  simp [impl_readVar.l0]
 | succ n ih =>
  intro i A hi hA
  have h9 : (i : Int) < 9 := by omega
  by_cases hlt : i < L.length
  ·have hdrop : L.drop i = L[i] :: L.drop (i + 1) := List.drop_eq_getElem_cons hlt
   have hbt : bt (B L) (i : Int) = ((L[i].toNat : Nat) : Int) := by
    rw [bt_B]; simp [List.getD_eq_getElem?_getD, List.getElem?_eq_getElem hlt]
   have hb := byte_lt L[i]
   have hw7 : (0 : Int) ≤ wrap64 (7 * (i : Int)) := by rw [wrap64_id (by omega) (by omega)]; omega
   have hw1 : wrap64 ((i : Int) + 1) = ((i + 1 : Nat) : Int) := by rw [wrap64_id (by omega) (by omega)]; push_cast; rfl
   have hj := join_step hA (by omega : i ≤ 8) hb
   have hsz : (i : Int) < ((B L).size : Int) := by rw [B_size]; omega
   rw [hdrop]
   by_cases h128 : L[i].toNat < 128
   ·refine Ev.succ (g := fun _ => some (vres i A (dv (n + 1) (L[i] :: L.drop (i + 1))))) (fun k => ?_) (Ev.pure fun _ => rfl)
    simp only [impl_readVar.l0]
    rw [if_pos hsz, if_pos h9, if_pos (by omega), if_pos hw7, hbt, if_pos (by omega), hj, hw1]
    rw [dv, if_pos h128]
    simp only [vres]
    by_cases h0 : L[i].toNat = 0
    ·rw [if_pos (by omega)]
     by_cases hi0 : 0 < i
     ·rw [if_pos (by omega), if_pos ⟨hi0, h0⟩]
     ·rw [if_neg (by omega), if_neg (by omega)]
      simp [h0]
    ·rw [if_neg (by omega), if_neg (by omega), Nat.mod_eq_of_lt h128]
   ·have hA' : A + L[i].toNat % 128 * 128 ^ i < 128 ^ (i + 1) := by
     rw [Nat.pow_succ]
     have : L[i].toNat % 128 * 128 ^ i ≤ 127 * 128 ^ i := Nat.mul_le_mul_right _ (by omega)
     omega
    have := ih (i + 1) (A + L[i].toNat % 128 * 128 ^ i) (by omega) hA'
    refine Ev.succ (g := fun k => impl_readVar.l0 k (B L) ((A + L[i].toNat % 128 * 128 ^ i : Nat) : Int) ((i + 1 : Nat) : Int)) (fun k => ?_) ?_
    ·simp only [impl_readVar.l0]
     rw [if_pos hsz, if_pos h9, if_pos (by omega), if_pos hw7, hbt, if_neg (by omega), hj, hw1]
    ·have e : vres (i + 1) (A + L[i].toNat % 128 * 128 ^ i) (dv n (L.drop (i + 1))) = vres i A (dv (n + 1) (L[i] :: L.drop (i + 1))) := by
      rw [dv_cons h128]
      cases hd : dv n (L.drop (i + 1)) with
      | none => rfl
      | some p =>
       obtain ⟨v, c⟩ := p
       simp only [vres]
       by_cases hv : v = 0
       ·rw [if_pos ⟨by omega, hv⟩, if_pos hv]
       ·rw [if_neg (by omega), if_neg hv]
        simp only [vres]
        rw [if_neg (by omega)]
        congr 1
        ·congr 1
         rw [Nat.pow_succ, Nat.add_mul, Nat.add_assoc]
         congr 1
         rw [Nat.mul_comm 128 v, Nat.mul_assoc, Nat.mul_comm 128]
        ·congr 1; omega
     rw [← e]; exact this
  ·refine Ev.succ (g := fun _ => some (vres i A (dv (n + 1) (L.drop i)))) (fun k => ?_) (Ev.pure fun _ => rfl)
   rw [List.drop_eq_nil_of_le (by omega)]
   simp only [impl_readVar.l0]
   rw [if_neg (by rw [B_size]; omega)]
   rfl
/-- What a number's reading hands back. -/
def vout (o : Option (Nat × Nat)) : Int × Int := match o with | none => (0, 0) | some (v, c) => ((v : Int), (c : Int))
theorem readVar_says (L : List UInt8) (hL : L.length ≤ 140737488351232) : Ev (fun k => impl_readVar.f k (B L)) (vout (dv 9 L)) := by
 have h := readVar_l0 L hL 9 0 0 rfl (by decide)
 have e : vres 0 0 (dv 9 (L.drop 0)) = vout (dv 9 L) := by
  rw [List.drop_zero]
  cases dv 9 L with
  | none => rfl
  | some p => simp [vres, vout]
 rw [e] at h
 exact h
/-! ### The reference's reading -/
/-- The same without the test of its form. -/
def rv : Nat → List UInt8 → Option (Nat × Nat)
 | 0, _ => none
 | _ + 1, [] => none
 | n + 1, b :: r => if b.toNat < 128 then some (b.toNat, 1) else match rv n r with
  | none => none
  | some (v, c) => some (b.toNat % 128 + 128 * v, c + 1)
theorem rv_cons {n : Nat} {b : UInt8} {r : List UInt8} (h : ¬ b.toNat < 128) : rv (n + 1) (b :: r) = match rv n r with
  | none => none
  | some (v, c) => some (b.toNat % 128 + 128 * v, c + 1) := by rw [rv, if_neg h]
def val : List UInt8 → Nat
 | [] => 0
 | b :: r => b.toNat % 128 + 128 * val r
theorem val_snoc : ∀ (xs : List UInt8) (b : UInt8), val (xs ++ [b]) = val xs + b.toNat % 128 * 128 ^ xs.length
 | [], b => by simp [val]
 | a :: r, b => by
  rw [List.cons_append, val, val_snoc r b, val, List.length_cons, Nat.pow_succ, Nat.mul_add, Nat.add_assoc]
  congr 2
  rw [← Nat.mul_assoc, Nat.mul_comm 128, Nat.mul_assoc, Nat.mul_comm 128]
theorem val_lt : ∀ xs : List UInt8, val xs < 128 ^ xs.length
 | [] => by simp [val]
 | a :: r => by
  have := val_lt r
  rw [val, List.length_cons, Nat.pow_succ]; omega
theorem rv_val : ∀ (n : Nat) (L : List UInt8) (v c : Nat), rv n L = some (v, c) → v = val (L.take c) ∧ 1 ≤ c ∧ c ≤ n ∧ c ≤ L.length
 | 0, L, v, c, h => by simp [rv] at h
 | n + 1, [], v, c, h => by simp [rv] at h
 | n + 1, b :: r, v, c, h => by
  by_cases hb : b.toNat < 128
  ·rw [rv, if_pos hb] at h
   simp at h
   obtain ⟨rfl, rfl⟩ := h
   simp [val]; omega
  ·rw [rv_cons hb] at h
   cases hd : rv n r with
   | none => simp [hd] at h
   | some p =>
    obtain ⟨v', c'⟩ := p
    simp [hd] at h
    obtain ⟨rfl, rfl⟩ := h
    obtain ⟨h1, h2, h3, h4⟩ := rv_val n r v' c' hd
    refine ⟨?_, by omega, by omega, by simp; omega⟩
    rw [List.take_succ_cons, val, ← h1]
theorem vtl_pos (v : Nat) : 1 ≤ (vtl v).length := by
 rw [vtl]; split <;> simp
theorem dv_rv : ∀ (n : Nat) (L : List UInt8), dv n L = match rv n L with
  | none => none
  | some (v, c) => if (vtl v).length = c then some (v, c) else none
 | 0, L => rfl
 | n + 1, [] => rfl
 | n + 1, b :: r => by
  by_cases hb : b.toNat < 128
  ·rw [dv, rv, if_pos hb, if_pos hb]
   simp only
   rw [vtl, if_pos hb]; simp
  ·rw [dv_cons hb, rv_cons hb, dv_rv n r]
   cases hd : rv n r with
   | none => rfl
   | some p =>
    obtain ⟨v', c'⟩ := p
    obtain ⟨_, hc, _, _⟩ := rv_val n r v' c' hd
    simp only
    by_cases hv : v' = 0
    ·subst hv
     have e : ¬ (vtl (b.toNat % 128 + 128 * 0)).length = c' + 1 := by
      rw [vtl, if_pos (by omega)]; simp; omega
     rw [if_neg e]
     by_cases hz : (vtl 0).length = c'
     ·rw [if_pos hz]; simp
     ·rw [if_neg hz]
    ·have e : (vtl (b.toNat % 128 + 128 * v')).length = (vtl v').length + 1 := by
      rw [vtl, if_neg (by omega), show (b.toNat % 128 + 128 * v') / 128 = v' by omega]; simp
     rw [e]
     by_cases hz : (vtl v').length = c'
     ·rw [if_pos hz, if_pos (by omega)]; simp [hv]
     ·rw [if_neg hz, if_neg (by omega)]
theorem vtl_le9 {v : Nat} (h : v < 9223372036854775808) : (vtl v).length ≤ 9 := by
  have : ∀ n v : Nat, v < 128 ^ (n + 1) → (vtl v).length ≤ n + 1 := by
    intro n
    induction n with
    | zero => intro v hv; rw [vtl, if_pos (by simpa using hv)]; simp
    | succ n ih =>
      intro v hv
      rw [vtl]
      split
      · simp
      · have := ih (v / 128) (by rw [Nat.pow_succ] at hv; omega)
        simp; omega
  exact this 8 v (by have : (128 : Nat) ^ (8 + 1) = 9223372036854775808 := by decide
                     omega)
theorem putVar_l0 : ∀ (n : Nat) (v : Nat) (acc : List Int), v ≤ n → v < 9223372036854775808 → acc.length + (vtl v).length ≤ 140737488355328 →
  Ev (fun k => spec_PutVar.l0 k (v : Int) acc) (acc ++ nums (vtl v)) := by
 intro n
 induction n with
 | zero =>
  intro v acc hn hv hl
  obtain rfl : v = 0 := by omega
  have e : vtl 0 = [0] := by rw [vtl]; rfl
  rw [e] at hl ⊢
  simp at hl
  refine Ev.succ (g := fun _ => some (acc ++ [0])) (fun k => ?_) (Ev.pure fun _ => rfl)
  simp only [spec_PutVar.l0]
  rw [if_neg (by decide), if_pos (by omega)]; rfl
 | succ n ih =>
  intro v acc hn hv hl
  by_cases h : v < 128
  ·have e : vtl v = [v.toUInt8] := by rw [vtl, if_pos h]
   rw [e] at hl ⊢
   simp at hl
   refine Ev.succ (g := fun _ => some (acc ++ nums [v.toUInt8])) (fun k => ?_) (Ev.pure fun _ => rfl)
   simp only [spec_PutVar.l0]
   rw [if_neg (by omega), if_pos (by omega)]
   simp [nums]
  ·have e : vtl v = (v % 128 + 128).toUInt8 :: vtl (v / 128) := by rw [vtl, if_neg h]
   rw [e] at hl ⊢
   rw [List.length_cons] at hl
   have hp := vtl_pos (v / 128)
   have := ih (v / 128) (acc ++ nums [(v % 128 + 128).toUInt8]) (by omega) (by omega) (by simp [nums]; omega)
   have e2 : acc ++ nums [(v % 128 + 128).toUInt8] ++ nums (vtl (v / 128)) = acc ++ nums ((v % 128 + 128).toUInt8 :: vtl (v / 128)) := by simp [nums]
   rw [e2] at this
   refine Ev.succ (fun k => ?_) this
   simp only [spec_PutVar.l0]
   rw [if_pos (by omega), if_pos (by omega)]
   have h1 : wrap64 (Int.tdiv (v : Int) 128) = ((v / 128 : Nat) : Int) := by
    rw [Int.tdiv_eq_ediv_of_nonneg (by omega), wrap64_id (by omega) (by omega)]; omega
   have h2 : (wrap64 (128 + Int.tmod (v : Int) 128)) % 256 = (((v % 128 + 128).toUInt8).toNat : Int) := by
    rw [Int.tmod_eq_emod_of_nonneg (by omega), wrap64_id (by omega) (by omega)]; simp; omega
   rw [h1, h2]; simp [nums]
theorem putVar_says {v : Nat} (hv : v < 9223372036854775808) : Ev (fun k => spec_PutVar.f k (v : Int)) (nums (vtl v)) := by
 have h := putVar_l0 v v [] (Nat.le_refl _) hv (by have := vtl_le9 hv; simp; omega)
 refine Ev.congr (g := fun k => spec_PutVar.l0 k (v : Int) []) (fun k => ?_) h
 simp only [spec_PutVar.f, Option.bind_some]
 rw [if_neg (by omega)]
theorem getVar_l1 (L : List UInt8) (m : Nat) (hm : m < L.length) (h9 : m < 9) : ∀ (j : Nat) (acc : Nat), j ≤ m + 1 → acc < 128 ^ (m + 1 - j) →
  Ev (fun k => spec_GetVar.l1 k (nums L) (m : Int) (acc : Int) ((j : Int) - 1))
   (if (vtl (acc * 128 ^ j + val (L.take j))).length = m + 1 then (((acc * 128 ^ j + val (L.take j) : Nat) : Int), ((m + 1 : Nat) : Int)) else (0, 0)) := by
 have hp9 : (128 : Nat) ^ 9 = 9223372036854775808 := by decide
 intro j
 induction j with
 | zero =>
  intro acc hj ha
  have hlt : acc < 9223372036854775808 := by
   have : 128 ^ (m + 1 - 0) ≤ 128 ^ 9 := Nat.pow_le_pow_right (by decide) (by omega)
   omega
  simp only [List.take_zero, val, Nat.pow_zero, Nat.mul_one, Nat.add_zero]
  refine Ev.succ (g := fun k => (spec_PutVar.f k (acc : Int)).bind fun t168 => (if (t168.length : Int) = (wrap64 ((m : Int) + 1)) then (some ((acc : Int), wrap64 ((m : Int) + 1))) else (some (0, 0)))) (fun k => ?_) ?_
  ·simp only [spec_GetVar.l1]
   rw [if_neg (by omega)]
  ·refine Ev.bind (putVar_says hlt) (Ev.pure fun k => ?_)
   rw [wrap64_id (by omega) (by omega), nums_length]
   by_cases e : (vtl acc).length = m + 1
   ·rw [if_pos (by omega), if_pos e]; rfl
   ·rw [if_neg (by omega), if_neg e]
 | succ j ih =>
  intro acc hj ha
  have hjl : j < L.length := by omega
  have hb : L[j].toNat % 128 < 128 := Nat.mod_lt _ (by decide)
  have e1 : m + 1 - j = (m + 1 - (j + 1)) + 1 := by omega
  have ha' : acc * 128 + L[j].toNat % 128 < 128 ^ (m + 1 - j) := by
   rw [e1, Nat.pow_succ]; omega
  have hle : 128 ^ (m + 1 - j) ≤ 128 ^ 9 := Nat.pow_le_pow_right (by decide) (by omega)
  have := ih (acc * 128 + L[j].toNat % 128) (by omega) ha'
  have e2 : (acc * 128 + L[j].toNat % 128) * 128 ^ j + val (L.take j) = acc * 128 ^ (j + 1) + val (L.take (j + 1)) := by
   rw [List.take_succ_eq_append_getElem hjl, val_snoc, List.length_take, Nat.min_eq_left (by omega), Nat.add_mul, Nat.pow_succ]
   rw [show acc * (128 ^ j * 128) = acc * 128 * 128 ^ j by rw [Nat.mul_comm (128 ^ j), Nat.mul_assoc]]
   omega
  rw [e2] at this
  refine Ev.succ (fun k => ?_) this
  simp only [spec_GetVar.l1]
  have hrd : rd (nums L) (((j + 1 : Nat) : Int) - 1) = ((L[j].toNat : Nat) : Int) := by
   rw [rd_nums]
   have : (((j + 1 : Nat) : Int) - 1).toNat = j := by omega
   rw [this]; simp [List.getD_eq_getElem?_getD, List.getElem?_eq_getElem hjl]
  rw [if_pos (by omega), if_pos (by omega), if_pos (by rw [nums_length]; omega), hrd]
  have hby := byte_lt L[j]
  have h1 : wrap64 ((wrap64 ((acc : Int) * 128)) + (Int.tmod (wrap64 ((L[j].toNat : Nat) : Int)) 128)) = ((acc * 128 + L[j].toNat % 128 : Nat) : Int) := by
   rw [wrap64_id (x := ((L[j].toNat : Nat) : Int)) (by omega) (by omega), Int.tmod_eq_emod_of_nonneg (by omega), wrap64_id (x := (acc : Int) * 128) (by omega) (by omega), wrap64_id (by omega) (by omega)]
   omega
  have h2 : wrap64 ((((j + 1 : Nat) : Int) - 1) - 1) = (j : Int) - 1 := by rw [wrap64_id (by omega) (by omega)]; omega
  rw [h1, h2]
theorem getVar_l0 (L : List UInt8) : ∀ (n i : Nat), n + i = 9 → Ev (fun k => spec_GetVar.l0 k (nums L) (i : Int)) (match rv n (L.drop i) with
  | none => (0, 0)
  | some (_, c) => if (vtl (val (L.take (i + c)))).length = i + c then (((val (L.take (i + c)) : Nat) : Int), ((i + c : Nat) : Int)) else (0, 0)) := by
 intro n
 induction n with
 | zero =>
  intro i hi
  obtain rfl : i = 9 := by omega
  simp only [rv]
  refine Ev.succ (g := fun k => spec_GetVar.j1 k (nums L) 9) (fun k => ?_) ?_
  ·simp only [spec_GetVar.l0]
   split
   ·rw [if_neg (by decide)]; rfl
   ·rfl
  ·refine Ev.succ (g := fun k => spec_GetVar.j2 k (nums L) 9 true) (fun k => ?_) ?_
   ·simp only [spec_GetVar.j1]
    split
    ·rfl
    ·rfl
   ·exact Ev.succ (g := fun k => some (0, 0)) (fun k => by simp [spec_GetVar.j2]) (Ev.pure fun _ => rfl)
 | succ n ih =>
  intro i hi
  by_cases hlt : i < L.length
  ·have hdrop : L.drop i = L[i] :: L.drop (i + 1) := List.drop_eq_getElem_cons hlt
   have hrd : rd (nums L) (i : Int) = ((L[i].toNat : Nat) : Int) := by
    rw [rd_nums]; simp [List.getD_eq_getElem?_getD, List.getElem?_eq_getElem hlt]
   rw [hdrop]
   by_cases hb : L[i].toNat < 128
   ·rw [rv, if_pos hb]
    simp only
    have h := getVar_l1 L i hlt (by omega) (i + 1) 0 (by omega) (by simp)
    rw [Nat.zero_mul, Nat.zero_add] at h
    have e : ((i + 1 : Nat) : Int) - 1 = (i : Int) := by omega
    rw [e] at h
    refine Ev.succ (g := fun k => spec_GetVar.j1 k (nums L) (i : Int)) (fun k => ?_) (Ev.succ (g := fun k => spec_GetVar.j2 k (nums L) (i : Int) false) (fun k => ?_) (Ev.succ (fun k => ?_) h))
    ·simp only [spec_GetVar.l0]
     rw [if_pos (by rw [nums_length]; omega), if_pos (by omega), if_pos (by omega), hrd, if_neg (by omega)]
    ·simp only [spec_GetVar.j1]
     rw [if_neg (by rw [nums_length]; omega)]
     congr 1
     exact decide_eq_false (by omega)
    ·simp only [spec_GetVar.j2]
     rw [if_neg (by decide)]; rfl
   ·rw [rv_cons hb]
    have := ih (i + 1) (by omega)
    have hw1 : wrap64 ((i : Int) + 1) = ((i + 1 : Nat) : Int) := by rw [wrap64_id (by omega) (by omega)]; omega
    have hs : ∀ k, spec_GetVar.l0 (k + 1) (nums L) (i : Int) = spec_GetVar.l0 k (nums L) ((i + 1 : Nat) : Int) := by
     intro k
     simp only [spec_GetVar.l0]
     rw [if_pos (by rw [nums_length]; omega), if_pos (by omega), if_pos (by omega), hrd, if_pos (by omega), hw1]
    cases hd : rv n (L.drop (i + 1)) with
    | none => rw [hd] at this; exact Ev.succ hs this
    | some p =>
     obtain ⟨v, c⟩ := p
     rw [hd] at this
     simp only at this ⊢
     rw [show i + (c + 1) = i + 1 + c by omega]
     exact Ev.succ hs this
  ·rw [List.drop_eq_nil_of_le (by omega)]
   simp only [rv]
   refine Ev.succ (g := fun k => spec_GetVar.j1 k (nums L) (i : Int)) (fun k => ?_) (Ev.succ (g := fun k => spec_GetVar.j2 k (nums L) (i : Int) true) (fun k => ?_) (Ev.succ (g := fun k => some (0, 0)) (fun k => ?_) (Ev.pure fun _ => rfl)))
   ·simp only [spec_GetVar.l0]
    rw [if_neg (by rw [nums_length]; omega)]
   ·simp only [spec_GetVar.j1]
    rw [if_pos (by rw [nums_length]; omega)]
   ·simp [spec_GetVar.j2]
theorem getVar_says (L : List UInt8) : Ev (fun k => spec_GetVar.f k (nums L)) (vout (dv 9 L)) := by
 have h := getVar_l0 L 9 0 rfl
 rw [List.drop_zero] at h
 rw [dv_rv]
 cases hd : rv 9 L with
 | none => rw [hd] at h; exact h
 | some p =>
  obtain ⟨v, c⟩ := p
  rw [hd] at h
  obtain ⟨h1, _⟩ := rv_val 9 L v c hd
  simp only [Nat.zero_add] at h
  rw [← h1] at h
  simp only
  by_cases e : (vtl v).length = c
  ·rw [if_pos e] at h ⊢; exact h
  ·rw [if_neg e] at h ⊢; exact h
end Go.Proofs.Ytjiaigjmihmdjaa.Pure
