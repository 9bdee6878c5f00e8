
/- Signatures: what the reference's and the program's readers tell of a list of bytes. Plain Lean. -/
import Derived.Test.YtjiaigjmihmdjaaPFnExactGetMsgx1
import Derived.Test.YtjiaigjmihmdjaaPFnExactGetMsgx4
import Derived.Test.YtjiaigjmihmdjaaPFnExactGetMsgx7
import Derived.Test.YtjiaigjmihmdjaaPFnExactGetMsgx11
import Derived.Test.YtjiaigjmihmdjaaPFnExactGetMsgx12
import Derived.Test.YtjiaigjmihmdjaaPFnExactGetMsgx13
import Derived.Test.YtjiaigjmihmdjaaFnExactGetMsgTok
namespace Go.Proofs.Ytjiaigjmihmdjaa.Pure
open Go.RowKit Go.Proofs.Ytjiaigjmihmdjaa.PFnExactGetMsg Go.Proofs.YtjiaigjmihmdjaaW.PrintWords Go.Proofs.YtjiaigjmihmdjaaW.PrintLast Go.Proofs.YtjiaigjmihmdjaaW.PrintMore
set_option linter.unusedVariables false
set_option linter.unusedSimpArgs false
/-! ### A right signature -/
def sigLen (size rest : Int) (n : Nat) : Int := if 0 < rest ∧ 0 < n then size * n - size + rest else size * n
def sigGood (size rest : Int) (weak : List Int) (strong : List ByteArray) : Bool :=
 decide (1 ≤ size ∧ size ≤ 256) && decide (0 ≤ rest ∧ rest ≤ size - 1) && decide (weak.length ≤ 2500) && decide (weak.length = strong.length) && (strong.all fun s => decide (s.size = 4)) && (decide (rest = 0) || decide (0 < weak.length)) && decide (sigLen size rest weak.length ≤ 20000)
theorem in_says (x a b : Int) : spec_l01In.f x a b = some (decide (a ≤ x ∧ x ≤ b)) := by
 unfold spec_l01In.f
 by_cases h : a ≤ x
 ·rw [if_pos h]; simp [h]
 ·rw [if_neg h]; simp [h]
theorem within_says (x a b : Int) : impl_within.f x a b = some (decide (a ≤ x ∧ x ≤ b)) := by
 unfold impl_within.f
 by_cases h : a ≤ x
 ·rw [if_pos h]; simp [h]
 ·rw [if_neg h]; simp [h]
theorem prod_bound {size : Int} {weak : List Int} (h1 : 1 ≤ size ∧ size ≤ 256) (h3 : weak.length ≤ 2500) : 0 ≤ size * (weak.length : Int) ∧ size * (weak.length : Int) ≤ 640000 := by
 constructor
 ·exact Int.mul_nonneg (by omega) (by omega)
 ·have : size * (weak.length : Int) ≤ 256 * (weak.length : Int) := Int.mul_le_mul_of_nonneg_right h1.2 (by omega)
  omega
section
variable {size rest : Int} {weak : List Int} {strong : List ByteArray} (h1 : 1 ≤ size ∧ size ≤ 256) (h2 : 0 ≤ rest ∧ rest ≤ size - 1) (h3 : weak.length ≤ 2500)
include h1 h2 h3
theorem specSigLen : Ev (fun k => spec_SigLen.f k size rest weak strong) (sigLen size rest weak.length) := by
 obtain ⟨p1, p2⟩ := prod_bound (weak := weak) h1 h3
 refine Ev.congr (fun k => spec_SigLen.f.eq_1 ..) (Ev.bind' (in_says ..) (Ev.ite_pos (by simpa using h1) (Ev.bind' (in_says ..) (Ev.ite_pos ?_ ?_))))
 ·rw [wrap64_id (by omega) (by omega)]; simpa using h2
 ·rw [decide_eq_false (by omega : ¬ ((weak.length : Int) > 2500))]
  refine Ev.succ (fun k => spec_SigLen.j0.eq_2 ..) (Ev.ite_neg (by decide) ?_)
  have e : wrap64 (size * (weak.length : Int)) = size * (weak.length : Int) := wrap64_id (by omega) (by omega)
  rw [e]
  by_cases hr : 0 < rest
  ·refine Ev.ite_pos hr ?_
   by_cases hp : 0 < size * (weak.length : Int)
   ·refine Ev.ite_pos hp ?_
    have hw : 0 < weak.length := by
     rcases Nat.eq_zero_or_pos weak.length with h | h
     ·rw [h] at hp; simp at hp
     ·exact h
    rw [wrap64_id (x := size * (weak.length : Int) - size) (by omega) (by omega), wrap64_id (by omega) (by omega), sigLen, if_pos ⟨hr, hw⟩]
    exact Ev.some
   ·refine Ev.ite_neg hp ?_
    have hw : ¬ 0 < weak.length := by
     intro h
     have : 1 * 1 ≤ size * (weak.length : Int) := Int.mul_le_mul h1.1 (by omega) (by omega) (by omega)
     omega
    rw [sigLen, if_neg (by omega)]
    exact Ev.some
  ·refine Ev.ite_neg hr ?_
   rw [sigLen, if_neg (by omega)]
   exact Ev.some
theorem implCut : impl_Sig_isCut.f size rest weak strong = some true := by
 unfold impl_Sig_isCut.f
 rw [within_says, Option.bind_some, if_pos (by simpa using h1), within_says, Option.bind_some, wrap64_id (by omega) (by omega), if_pos (by simpa using h2), decide_eq_true (by omega)]
theorem implSigLen : Ev (fun k => impl_SigLen.f k size rest weak strong) (sigLen size rest weak.length) := by
 obtain ⟨p1, p2⟩ := prod_bound (weak := weak) h1 h3
 refine Ev.congr (fun k => impl_SigLen.f.eq_1 ..) (Ev.bind' (implCut h1 h2 h3) (Ev.ite_pos rfl (Ev.succ (fun k => impl_SigLen.j0.eq_2 ..) ?_)))
 have e : wrap64 (size * (weak.length : Int)) = size * (weak.length : Int) := wrap64_id (by omega) (by omega)
 by_cases hw : weak.length = 0
 ·refine Ev.ite_pos (by simp; exact List.eq_nil_of_length_eq_zero hw) ?_
  rw [sigLen, if_neg (by omega), hw]
  simp only [Int.natCast_zero, Int.mul_zero]
  exact Ev.some
 ·refine Ev.ite_neg (by simp; intro h; rw [h] at hw; exact hw rfl) ?_
  rw [e]
  by_cases hr : 0 < rest
  ·refine Ev.ite_pos hr ?_
   rw [wrap64_id (x := rest - size) (by omega) (by omega), wrap64_id (by omega) (by omega), sigLen, if_pos ⟨hr, by omega⟩, show size * (weak.length : Int) + (rest - size) = size * (weak.length : Int) - size + rest by omega]
   exact Ev.some
  ·refine Ev.ite_neg hr ?_
   rw [sigLen, if_neg (by omega)]
   exact Ev.some
end
theorem specSigOk_l0 {size rest : Int} {weak : List Int} {strong : List ByteArray} (h1 : 1 ≤ size ∧ size ≤ 256) (h2 : 0 ≤ rest ∧ rest ≤ size - 1) (h3 : weak.length ≤ 2500) (h4 : strong.length ≤ 2500) : ∀ (n i : Nat), strong.length - i = n → i ≤ strong.length →
  Ev (fun k => spec_SigOk.l0 k (i : Int) size rest weak strong) (((strong.drop i).all fun s => decide (s.size = 4)) && (decide (rest = 0) || decide (0 < weak.length)) && decide (sigLen size rest weak.length ≤ 20000)) := by
 intro n
 induction n with
 | zero =>
  intro i hn hi
  rw [List.drop_eq_nil_of_le (by omega)]
  refine Ev.succ (fun k => spec_SigOk.l0.eq_2 ..) (Ev.ite_neg (by omega) ?_)
  by_cases hr : rest = 0
  ·refine Ev.ite_pos hr (Ev.bind (specSigLen h1 h2 h3) ?_)
   simp [hr]
   exact Ev.some
  ·refine Ev.ite_neg hr ?_
   by_cases hw : 0 < weak.length
   ·refine Ev.ite_pos (by omega) (Ev.bind (specSigLen h1 h2 h3) ?_)
    simp [hr, hw]
    exact Ev.some
   ·refine Ev.ite_neg (by omega) ?_
    simp [hr, hw]
    exact Ev.some
 | succ n ih =>
  intro i hn hi
  have hlt : i < strong.length := by omega
  rw [List.drop_eq_getElem_cons hlt]
  have hrd : rdOf ByteArray.empty strong (i : Int) = strong[i] := by
   simp [rdOf, List.getD_eq_getElem?_getD, List.getElem?_eq_getElem hlt]
  refine Ev.succ (fun k => spec_SigOk.l0.eq_2 ..) (Ev.ite_pos (by omega) (Ev.ite_pos (by omega) ?_))
  rw [hrd]
  by_cases hs : strong[i].size = 4
  ·refine Ev.ite_pos (by omega) ?_
   have := ih (i + 1) (by omega) (by omega)
   rw [wrap64_id (by omega) (by omega)]
   simp only [List.all_cons, hs, decide_true, Bool.true_and]
   exact this
  ·refine Ev.ite_neg (by omega) ?_
   simp only [List.all_cons, hs, decide_false, Bool.false_and]
   exact Ev.some
theorem specSigOk (size rest : Int) (weak : List Int) (strong : List ByteArray) (hb : weak.length ≤ 140737488351232) (hs : strong.length ≤ 140737488351232) : Ev (fun k => spec_SigOk.f k size rest weak strong) (sigGood size rest weak strong) := by
 have bad : ∀ k, spec_SigOk.j0 (k + 1) true size rest weak strong = some false := fun k => by rw [spec_SigOk.j0, if_pos rfl]
 refine Ev.congr (fun k => spec_SigOk.f.eq_1 ..) (Ev.bind' (in_says ..) ?_)
 by_cases h1 : 1 ≤ size ∧ size ≤ 256
 ·refine Ev.ite_pos (by simpa using h1) (Ev.bind' (in_says ..) ?_)
  rw [wrap64_id (by omega) (by omega)]
  by_cases h2 : 0 ≤ rest ∧ rest ≤ size - 1
  ·refine Ev.ite_pos (by simpa using h2) ?_
   by_cases h3 : weak.length ≤ 2500
   ·refine Ev.ite_neg (by omega) ?_
    by_cases h4 : weak.length = strong.length
    ·have e : ((weak.length : Int) != (strong.length : Int)) = false := by simp [h4]
     rw [e]
     refine Ev.succ (fun k => spec_SigOk.j0.eq_2 ..) (Ev.ite_neg (by decide) ?_)
     have := specSigOk_l0 (strong := strong) h1 h2 h3 (by omega) strong.length 0 (by omega) (by omega)
     rw [List.drop_zero] at this
     have e2 : sigGood size rest weak strong = ((strong.all fun s => decide (s.size = 4)) && (decide (rest = 0) || decide (0 < weak.length)) && decide (sigLen size rest weak.length ≤ 20000)) := by
      simp only [sigGood, decide_eq_true h1, decide_eq_true h2, decide_eq_true h3, decide_eq_true h4, Bool.true_and]
     rw [e2]; exact this
    ·have e : ((weak.length : Int) != (strong.length : Int)) = true := by simp; omega
     rw [e]
     have e2 : sigGood size rest weak strong = false := by simp only [sigGood, decide_eq_false h4, Bool.and_false, Bool.false_and]
     rw [e2]
     exact Ev.succ bad Ev.some
   ·refine Ev.ite_pos (by omega) ?_
    have e2 : sigGood size rest weak strong = false := by simp only [sigGood, decide_eq_false h3, Bool.and_false, Bool.false_and]
    rw [e2]
    exact Ev.succ bad Ev.some
  ·refine Ev.ite_neg (by simpa using h2) ?_
   have e2 : sigGood size rest weak strong = false := by simp only [sigGood, decide_eq_false h2, Bool.and_false, Bool.false_and]
   rw [e2]
   exact Ev.succ bad Ev.some
 ·refine Ev.ite_neg (by simpa using h1) ?_
  have e2 : sigGood size rest weak strong = false := by simp only [sigGood, decide_eq_false h1, Bool.and_false, Bool.false_and]
  rw [e2]
  exact Ev.succ bad Ev.some
theorem implSigOk (size rest : Int) (weak : List Int) (strong : List ByteArray) (hb : weak.length ≤ 140737488351232) (hs : strong.length ≤ 140737488351232) : Ev (fun k => impl_SigOk.f k size rest weak strong) (sigGood size rest weak strong) := by
 have hany : (strong.any fun t => decide (t.size ≠ 4)) = !(strong.all fun s => decide (s.size = 4)) := by
  rw [List.not_all_eq_any_not]; congr 1; funext t; simp
 by_cases h1 : 1 ≤ size ∧ size ≤ 256
 ·by_cases h2 : 0 ≤ rest ∧ rest ≤ size - 1
  ·by_cases h3 : weak.length ≤ 2500
   ·refine Ev.congr (fun k => impl_SigOk.f.eq_1 ..) (Ev.bind' (implCut h1 h2 h3) (Ev.ite_pos rfl ?_))
    by_cases h4 : weak.length = strong.length
    ·refine Ev.ite_pos (by omega) ?_
     have e2 : sigGood size rest weak strong = ((strong.all fun s => decide (s.size = 4)) && (decide (rest = 0) || decide (0 < weak.length)) && decide (sigLen size rest weak.length ≤ 20000)) := by
      simp only [sigGood, decide_eq_true h1, decide_eq_true h2, decide_eq_true h3, decide_eq_true h4, Bool.true_and]
     rw [e2]
     by_cases hr : rest = 0
     ·refine Ev.ite_pos hr (Ev.bind' (slices_ContainsFunc_SigOk.f.eq_1 ..) ?_)
      rw [hany]
      cases ha : strong.all fun s => decide (s.size = 4) with
      | true =>
       refine Ev.ite_neg (by decide) (Ev.bind (implSigLen h1 h2 h3) ?_)
       simp [hr]; exact Ev.some
      | false =>
       refine Ev.ite_pos (by decide) ?_
       simp only [Bool.false_and]; exact Ev.some
     ·refine Ev.ite_neg hr ?_
      by_cases hw : 0 < weak.length
      ·refine Ev.ite_pos (by omega) (Ev.bind' (slices_ContainsFunc_SigOk.f.eq_1 ..) ?_)
       rw [hany]
       cases ha : strong.all fun s => decide (s.size = 4) with
       | true =>
        refine Ev.ite_neg (by decide) (Ev.bind (implSigLen h1 h2 h3) ?_)
        simp [hw]; exact Ev.some
       | false =>
        refine Ev.ite_pos (by decide) ?_
        simp only [Bool.false_and]; exact Ev.some
      ·refine Ev.ite_neg (by omega) ?_
       simp only [decide_eq_false hr, decide_eq_false hw, Bool.or_self, Bool.and_false, Bool.false_and]; exact Ev.some
    ·refine Ev.ite_neg (by omega) ?_
     have e2 : sigGood size rest weak strong = false := by simp only [sigGood, decide_eq_false h4, Bool.and_false, Bool.false_and]
     rw [e2]; exact Ev.some
   ·have e : impl_Sig_isCut.f size rest weak strong = some false := by
     unfold impl_Sig_isCut.f
     rw [within_says, Option.bind_some, if_pos (by simpa using h1), within_says, Option.bind_some, wrap64_id (by omega) (by omega), if_pos (by simpa using h2), decide_eq_false (by omega)]
    have e2 : sigGood size rest weak strong = false := by simp only [sigGood, decide_eq_false h3, Bool.and_false, Bool.false_and]
    rw [e2]
    exact Ev.congr (fun k => impl_SigOk.f.eq_1 ..) (Ev.bind' e (Ev.ite_neg (by decide) Ev.some))
  ·have e : impl_Sig_isCut.f size rest weak strong = some false := by
    unfold impl_Sig_isCut.f
    rw [within_says, Option.bind_some, if_pos (by simpa using h1), within_says, Option.bind_some, wrap64_id (by omega) (by omega), if_neg (by simpa using h2)]
   have e2 : sigGood size rest weak strong = false := by simp only [sigGood, decide_eq_false h2, Bool.and_false, Bool.false_and]
   rw [e2]
   exact Ev.congr (fun k => impl_SigOk.f.eq_1 ..) (Ev.bind' e (Ev.ite_neg (by decide) Ev.some))
 ·have e : impl_Sig_isCut.f size rest weak strong = some false := by
   unfold impl_Sig_isCut.f
   rw [within_says, Option.bind_some, if_neg (by simpa using h1)]
  have e2 : sigGood size rest weak strong = false := by simp only [sigGood, decide_eq_false h1, Bool.and_false, Bool.false_and]
  rw [e2]
  exact Ev.congr (fun k => impl_SigOk.f.eq_1 ..) (Ev.bind' e (Ev.ite_neg (by decide) Ev.some))
/-! ### Words -/
def w4 (l : List UInt8) : Nat := (l.getD 0 0).toNat + 256 * (l.getD 1 0).toNat + 65536 * (l.getD 2 0).toNat + 16777216 * (l.getD 3 0).toNat
theorem w4_lt (l : List UInt8) : w4 l < 4294967296 := by
 have h0 := byte_lt (l.getD 0 0)
 have h1 := byte_lt (l.getD 1 0)
 have h2 := byte_lt (l.getD 2 0)
 have h3 := byte_lt (l.getD 3 0)
 unfold w4; omega
/-- The four bytes of a word. -/
def wb (w : Int) : List UInt8 := [w % 256, (w / 256) % 256, (w / 65536) % 256, (w / 16777216) % 256].map fun n => UInt8.ofNat n.toNat
theorem wb_length (w : Int) : (wb w).length = 4 := rfl
theorem ofNat_byte (b : UInt8) (n : Nat) (h : n = b.toNat) : UInt8.ofNat n = b := by subst h; simp
theorem wb_w4 (a b c d : UInt8) (r : List UInt8) : wb ((w4 (a :: b :: c :: d :: r) : Nat) : Int) = [a, b, c, d] := by
 have h0 := byte_lt a
 have h1 := byte_lt b
 have h2 := byte_lt c
 have h3 := byte_lt d
 have e : w4 (a :: b :: c :: d :: r) = a.toNat + 256 * b.toNat + 65536 * c.toNat + 16777216 * d.toNat := rfl
 rw [e]
 simp only [wb, List.map_cons, List.map_nil]
 congr 1
 ·exact ofNat_byte _ _ (by omega)
 congr 1
 ·exact ofNat_byte _ _ (by omega)
 congr 1
 ·exact ofNat_byte _ _ (by omega)
 congr 1
 ·exact ofNat_byte _ _ (by omega)
theorem toNat_ofNat {n : Nat} (h : n < 256) : (UInt8.ofNat n).toNat = n := by simp; omega
theorem w4_wb (w : Int) (h0 : 0 ≤ w) (h1 : w < 4294967296) (r : List UInt8) : ((w4 (wb w ++ r) : Nat) : Int) = w := by
 have e : w4 (wb w ++ r) = (UInt8.ofNat (w % 256).toNat).toNat + 256 * (UInt8.ofNat ((w / 256) % 256).toNat).toNat + 65536 * (UInt8.ofNat ((w / 65536) % 256).toNat).toNat + 16777216 * (UInt8.ofNat ((w / 16777216) % 256).toNat).toNat := rfl
 rw [e, toNat_ofNat (by omega), toNat_ofNat (by omega), toNat_ofNat (by omega), toNat_ofNat (by omega)]
 omega
theorem specWord (l : List UInt8) (h : l.length = 4) : spec_GetWord.f (nums l) = some (((w4 l : Nat) : Int), true) := by
 have h0 := byte_lt (l.getD 0 0)
 have h1 := byte_lt (l.getD 1 0)
 have h2 := byte_lt (l.getD 2 0)
 have h3 := byte_lt (l.getD 3 0)
 unfold spec_GetWord.f
 rw [nums_length, h, if_pos (by decide : ((4 : Nat) : Int) = 4), if_pos (by decide), if_pos (by decide), if_pos (by decide), if_pos (by decide)]
 simp only [rd_nums]
 have e0 : (0 : Int).toNat = 0 := rfl
 have e1 : (1 : Int).toNat = 1 := rfl
 have e2 : (2 : Int).toNat = 2 := rfl
 have e3 : (3 : Int).toNat = 3 := rfl
 rw [e0, e1, e2, e3]
 unfold w4
 generalize (l.getD 0 0).toNat = a at *
 generalize (l.getD 1 0).toNat = b at *
 generalize (l.getD 2 0).toNat = c at *
 generalize (l.getD 3 0).toNat = d at *
 rw [wrap64_id (x := (a : Int)) (by omega) (by omega), wrap64_id (x := (b : Int)) (by omega) (by omega), wrap64_id (x := (c : Int)) (by omega) (by omega), wrap64_id (x := (d : Int)) (by omega) (by omega)]
 rw [wrap64_id (x := 256 * (b : Int)) (by omega) (by omega), wrap64_id (x := 65536 * (c : Int)) (by omega) (by omega), wrap64_id (x := 16777216 * (d : Int)) (by omega) (by omega)]
 rw [wrap64_id (x := (a : Int) + 256 * (b : Int)) (by omega) (by omega), wrap64_id (x := (a : Int) + 256 * (b : Int) + 65536 * (c : Int)) (by omega) (by omega), wrap64_id (x := (a : Int) + 256 * (b : Int) + 65536 * (c : Int) + 16777216 * (d : Int)) (by omega) (by omega)]
 rw [Int.emod_eq_of_lt (by omega) (by omega)]
 congr 2
theorem wraps_u32 (n : Int) (h₀ : 0 ≤ n) (h₁ : n < 2 ^ 32) : IntKind.u32.wrap n = n := by rw [IntKind.wrap_u32]; omega
theorem or_join (x y i : Nat) (hx : x < 2 ^ i) (hi : i ≤ 32) (hy : y * 2 ^ i < 2 ^ 32) : Go.bits .or .u32 (x : Int) ((y * 2 ^ i : Nat) : Int) = ((x + y * 2 ^ i : Nat) : Int) := by
 have hx' : x < 2 ^ 32 := Nat.lt_of_lt_of_le hx (Nat.pow_le_pow_right (by decide) hi)
 rw [(bits_nat .u32 32 (by decide) wraps_u32 x _ hx' hy).2, Nat.or_comm]
 congr 1
 rw [Nat.mul_comm, ← Nat.two_pow_add_eq_or_of_lt hx, Nat.add_comm]
theorem implWord (l : List UInt8) (h : 4 ≤ l.length) : impl_readWord.f (B l) = some ((w4 l : Nat) : Int) := by
 have h0 := byte_lt (l.getD 0 0)
 have h1 := byte_lt (l.getD 1 0)
 have h2 := byte_lt (l.getD 2 0)
 have h3 := byte_lt (l.getD 3 0)
 unfold impl_readWord.f
 rw [B_size, if_pos (by omega), if_pos (by omega), if_pos (by omega), if_pos (by omega)]
 simp only [bt_B]
 have e0 : (0 : Int).toNat = 0 := rfl
 have e1 : (1 : Int).toNat = 1 := rfl
 have e2 : (2 : Int).toNat = 2 := rfl
 have e3 : (3 : Int).toNat = 3 := rfl
 rw [e0, e1, e2, e3]
 unfold w4
 generalize (l.getD 0 0).toNat = a at *
 generalize (l.getD 1 0).toNat = b at *
 generalize (l.getD 2 0).toNat = c at *
 generalize (l.getD 3 0).toNat = d at *
 have ea : (a : Int) % 4294967296 = (a : Int) := by omega
 have eb : ((b : Int) % 4294967296 * 256) % 4294967296 = ((b * 2 ^ 8 : Nat) : Int) := by omega
 have ec : ((c : Int) % 4294967296 * 65536) % 4294967296 = ((c * 2 ^ 16 : Nat) : Int) := by omega
 have ed : ((d : Int) % 4294967296 * 16777216) % 4294967296 = ((d * 2 ^ 24 : Nat) : Int) := by omega
 rw [ea, eb, ec, ed, or_join a b 8 (by omega) (by decide) (by omega), or_join _ c 16 (by omega) (by decide) (by omega), or_join _ d 24 (by omega) (by decide) (by omega)]
 congr 2
 omega
theorem word_says (L : List UInt8) (bad : Bool) : impl_reader_word.f (B L) bad = some (if bad = true then (0, B L, true) else if L.length < 4 then (0, B L, true) else (((w4 (L.take 4) : Nat) : Int), B (L.drop 4), false)) := by
 have e4 : (4 : Int) = ((4 : Nat) : Int) := rfl
 unfold impl_reader_word.f
 rw [e4, take_says, Option.bind_some]
 cases bad with
 | true => rfl
 | false =>
  by_cases h : L.length < 4
  ·simp [h]
  ·have hw := implWord (L.take 4) (by rw [List.length_take]; omega)
   simp [h, hw]
/-! ### The pieces of a signature -/
def wk : Nat → List UInt8 → List Int
 | 0, _ => []
 | n + 1, M => ((w4 (M.take 4) : Nat) : Int) :: wk n (M.drop 8)
def st : Nat → List UInt8 → List ByteArray
 | 0, _ => []
 | n + 1, M => B ((M.drop 4).take 4) :: st n (M.drop 8)
def pieces : List Int → List ByteArray → List UInt8
 | w :: ws, s :: ss => wb w ++ s.data.toList ++ pieces ws ss
 | _, _ => []
theorem wk_length : ∀ n M, (wk n M).length = n
 | 0, _ => rfl
 | n + 1, M => by rw [wk, List.length_cons, wk_length]
theorem st_length : ∀ n M, (st n M).length = n
 | 0, _ => rfl
 | n + 1, M => by rw [st, List.length_cons, st_length]
theorem wk_range : ∀ n M, ∀ x ∈ wk n M, 0 ≤ x ∧ x < 4294967296
 | 0, _ => by simp [wk]
 | n + 1, M => by
  intro x hx
  rw [wk] at hx
  rcases List.mem_cons.1 hx with rfl | hx
  ·have := w4_lt (M.take 4); omega
  ·exact wk_range n _ x hx
theorem four {l : List UInt8} (h : l.length = 4) : ∃ a b c d, l = [a, b, c, d] := by
 match l, h with
 | [a, b, c, d], _ => exact ⟨a, b, c, d, rfl⟩
theorem pieces_back : ∀ n M, M.length = 8 * n → pieces (wk n M) (st n M) = M
 | 0, M, h => by rw [List.eq_nil_of_length_eq_zero (l := M) (by omega)]; rfl
 | n + 1, M, h => by
  rw [wk, st, pieces, pieces_back n (M.drop 8) (by rw [List.length_drop]; omega)]
  obtain ⟨a, b, c, d, he⟩ := four (l := M.take 4) (by rw [List.length_take]; omega)
  rw [he, wb_w4, ← he]
  show M.take 4 ++ (M.drop 4).take 4 ++ M.drop 8 = M
  rw [List.append_assoc, show M.drop 8 = (M.drop 4).drop 4 by rw [List.drop_drop], List.take_append_drop, List.take_append_drop]
theorem pieces_length : ∀ (w : List Int) (s : List ByteArray), w.length = s.length → (∀ x ∈ s, x.size = 4) → (pieces w s).length = 8 * w.length
 | [], [], _, _ => rfl
 | a :: w, b :: s, h, h4 => by
  have hb : b.data.toList.length = b.size := data_length b
  have := h4 b (List.mem_cons_self ..)
  rw [pieces, List.length_append, List.length_append, wb_length, pieces_length w s (by simpa using h) (fun x hx => h4 x (List.mem_cons_of_mem _ hx)), List.length_cons]
  omega
 | [], _ :: _, h, _ => by simp at h
 | _ :: _, [], h, _ => by simp at h
theorem pieces_parts {a : Int} {b : ByteArray} (w : List Int) (s : List ByteArray) (hb : b.size = 4) :
  (pieces (a :: w) (b :: s)).take 4 = wb a ∧ (pieces (a :: w) (b :: s)).drop 4 = b.data.toList ++ pieces w s ∧ ((pieces (a :: w) (b :: s)).drop 4).take 4 = b.data.toList ∧ (pieces (a :: w) (b :: s)).drop 8 = pieces w s := by
 have hl : b.data.toList.length = 4 := by rw [data_length]; exact hb
 have e : pieces (a :: w) (b :: s) = wb a ++ (b.data.toList ++ pieces w s) := by rw [pieces, List.append_assoc]
 have e4 : (pieces (a :: w) (b :: s)).drop 4 = b.data.toList ++ pieces w s := by rw [e]; exact List.drop_left' (wb_length a)
 refine ⟨by rw [e]; exact List.take_left' (wb_length a), e4, by rw [e4]; exact List.take_left' hl, ?_⟩
 rw [show (8 : Nat) = 4 + 4 from rfl, ← List.drop_drop, e4]
 exact List.drop_left' hl
theorem wk_pieces : ∀ (w : List Int) (s : List ByteArray), w.length = s.length → (∀ x ∈ s, x.size = 4) → (∀ x ∈ w, 0 ≤ x ∧ x < 4294967296) → wk w.length (pieces w s) = w ∧ st w.length (pieces w s) = s
 | [], [], _, _, _ => ⟨rfl, rfl⟩
 | a :: w, b :: s, h, h4, hr => by
  obtain ⟨p1, p2, p3, p4⟩ := pieces_parts (a := a) w s (h4 b (List.mem_cons_self ..))
  obtain ⟨i1, i2⟩ := wk_pieces w s (by simpa using h) (fun x hx => h4 x (List.mem_cons_of_mem _ hx)) (fun x hx => hr x (List.mem_cons_of_mem _ hx))
  obtain ⟨r1, r2⟩ := hr a (List.mem_cons_self ..)
  rw [List.length_cons, wk, st, p1, p3, p4, i1, i2]
  have := w4_wb a r1 r2 []
  rw [List.append_nil] at this
  rw [this]
  exact ⟨rfl, rfl⟩
 | [], _ :: _, h, _, _ => by simp at h
 | _ :: _, [], h, _, _ => by simp at h
def sigBytes (size rest : Int) (weak : List Int) (strong : List ByteArray) : List UInt8 := vti size ++ (vti rest ++ (vti (weak.length : Int) ++ pieces weak strong))
def SigR := Int × Int × List Int × List ByteArray × Bool
theorem sigGood_parts {size rest : Int} {weak : List Int} {strong : List ByteArray} (h : sigGood size rest weak strong = true) : (1 ≤ size ∧ size ≤ 256) ∧ (0 ≤ rest ∧ rest ≤ size - 1) ∧ weak.length ≤ 2500 ∧ weak.length = strong.length ∧ (∀ x ∈ strong, x.size = 4) := by
 simp only [sigGood, Bool.and_eq_true, decide_eq_true_eq, List.all_eq_true] at h
 obtain ⟨⟨⟨⟨⟨⟨a, b⟩, c⟩, d⟩, e⟩, _⟩, _⟩ := h
 exact ⟨a, b, c, d, e⟩
/-! ### The reference's reader -/
theorem specSig_l1 (a b : Int) (n : Nat) (M : List UInt8) (hn : n ≤ 2500) (hM : M.length = 8 * n) : ∀ (m i : Nat) (W : List Int) (S : List ByteArray), i + m = n → W.length = i → S.length = i →
  Ev (fun k => spec_GetSig.l1 k (nums M) ((8 * i : Nat) : Int) a b W S)
   (if sigGood a b (W ++ wk m (M.drop (8 * i))) (S ++ st m (M.drop (8 * i))) = true then (a, b, W ++ wk m (M.drop (8 * i)), S ++ st m (M.drop (8 * i)), true) else (0, 0, [], [], false)) := by
 intro m
 induction m with
 | zero =>
  intro i W S hi hW hS
  rw [wk, st, List.append_nil, List.append_nil]
  refine Ev.succ (fun k => spec_GetSig.l1.eq_2 ..) (Ev.ite_neg (by rw [nums_length]; omega) (Ev.bind (specSigOk a b W S (by omega) (by omega)) ?_))
  cases hg : sigGood a b W S with
  | true => exact Ev.ite_pos rfl Ev.some
  | false => exact Ev.ite_neg (by decide) Ev.some
 | succ m ih =>
  intro i W S hi hW hS
  have w4' : wrap64 (((8 * i : Nat) : Int) + 4) = ((8 * i + 4 : Nat) : Int) := by rw [wrap64_id (by omega) (by omega)]; omega
  have w8' : wrap64 (((8 * i : Nat) : Int) + 8) = ((8 * (i + 1) : Nat) : Int) := by rw [wrap64_id (by omega) (by omega)]; omega
  have t0 : ((8 * i : Nat) : Int).toNat = 8 * i := by omega
  have t4 : ((8 * i + 4 : Nat) : Int).toNat = 8 * i + 4 := by omega
  have t8 : ((8 * (i + 1) : Nat) : Int).toNat = 8 * (i + 1) := by omega
  have c1 : ((nums M).take (8 * i + 4)).drop (8 * i) = nums ((M.drop (8 * i)).take 4) := by
   rw [take_nums, drop_nums, List.drop_take, show 8 * i + 4 - 8 * i = 4 by omega]
  have c2 : ((nums M).take (8 * (i + 1))).drop (8 * i + 4) = nums (((M.drop (8 * i)).drop 4).take 4) := by
   rw [take_nums, drop_nums, List.drop_drop, List.drop_take, show 8 * (i + 1) - (8 * i + 4) = 4 by omega]
  have d8 : (M.drop (8 * i)).drop 8 = M.drop (8 * (i + 1)) := by rw [List.drop_drop]; congr 1
  have := ih (i + 1) (W ++ [((w4 ((M.drop (8 * i)).take 4) : Nat) : Int)]) (S ++ [B (((M.drop (8 * i)).drop 4).take 4)]) (by omega) (by simp; omega) (by simp; omega)
  rw [← d8, List.append_assoc, List.append_assoc, List.singleton_append, List.singleton_append] at this
  rw [wk, st]
  refine Ev.succ (fun k => spec_GetSig.l1.eq_2 ..) ?_
  rw [w4', w8', t0, t4, t8, c1, c2, specWord _ (by rw [List.length_take, List.length_drop]; omega), strOfNums_nums]
  refine Ev.ite_pos (by rw [nums_length]; omega) (Ev.ite_pos (by omega) (Ev.ite_pos (by omega) (Ev.ite_pos (by rw [nums_length]; omega) (Ev.some_bind (Ev.ite_pos (by omega) (Ev.ite_pos (by omega) (Ev.ite_pos (by omega) (Ev.ite_pos (by rw [nums_length]; omega) (Ev.ite_pos (by omega) ?_)))))))))
  exact this
/-- What a reader of signatures may tell of L. -/
def SigRes (L : List UInt8) (r : Int × Int × List Int × List ByteArray × Bool) : Prop :=
 r = (0, 0, [], [], false) ∨ ∃ a b w s, r = (a, b, w, s, true) ∧ L = sigBytes a b w s ∧ sigGood a b w s = true ∧ ∀ x ∈ w, 0 ≤ x ∧ x < 4294967296
theorem specSig_var {L : List UInt8} {X : List Int} (hX : X.length < 3) {v c : Nat} (hd : dv 9 L = some (v, c)) {r : Int × Int × List Int × List ByteArray × Bool}
  (h : Ev (fun k => spec_GetSig.l0 k (nums (L.drop c)) (X ++ [(v : Int)])) r) : Ev (fun k => spec_GetSig.l0 k (nums L) X) r := by
 obtain ⟨h1, h2, h3, h4⟩ := dv_bound 9 L v c hd
 refine Ev.succ (fun k => spec_GetSig.l0.eq_2 ..) (Ev.ite_pos (by omega) (Ev.bind (getVar_says L) ?_))
 rw [hd]
 refine Ev.ite_neg (by simp only [vout]; omega) (Ev.ite_pos (by omega) (Ev.ite_pos (by simp only [vout]; omega) (Ev.ite_pos (by simp only [vout]; rw [nums_length]; omega) ?_)))
 simp only [vout]
 rw [show ((c : Nat) : Int).toNat = c by omega, drop_nums]
 exact h
theorem specSig_fail {L : List UInt8} {X : List Int} (hX : X.length < 3) (hd : dv 9 L = none) : Ev (fun k => spec_GetSig.l0 k (nums L) X) (0, 0, [], [], false) := by
 refine Ev.succ (fun k => spec_GetSig.l0.eq_2 ..) (Ev.ite_pos (by omega) (Ev.bind (getVar_says L) ?_))
 rw [hd]
 exact Ev.ite_pos rfl Ev.some
theorem specSig_end (M : List UInt8) (a b n : Nat) (h63 : n < 9223372036854775808) : Ev (fun k => spec_GetSig.l0 k (nums M) [(a : Int), (b : Int), (n : Int)])
  (if n ≤ 2500 ∧ M.length = 8 * n then (if sigGood a b (wk n M) (st n M) = true then ((a : Int), (b : Int), wk n M, st n M, true) else (0, 0, [], [], false)) else (0, 0, [], [], false)) := by
 refine Ev.succ (fun k => spec_GetSig.l0.eq_2 ..) (Ev.ite_neg (by simp) (Ev.ite_pos (by simp) ?_))
 have e2 : rd [(a : Int), (b : Int), (n : Int)] 2 = (n : Int) := rfl
 have e1 : rd [(a : Int), (b : Int), (n : Int)] 1 = (b : Int) := rfl
 have e0 : rd [(a : Int), (b : Int), (n : Int)] 0 = (a : Int) := rfl
 rw [e2]
 by_cases hn : n ≤ 2500
 ·refine Ev.ite_neg (by omega) ?_
  rw [nums_length, wrap64_id (by omega) (by omega)]
  by_cases hM : M.length = 8 * n
  ·have e : ((M.length : Int) != 8 * (n : Int)) = false := by simp; omega
   rw [e, if_pos ⟨hn, hM⟩]
   refine Ev.succ (fun k => spec_GetSig.j1.eq_2 ..) (Ev.ite_neg (by decide) (Ev.ite_pos (by simp) (Ev.ite_pos (by simp) ?_)))
   rw [e1, e0]
   exact specSig_l1 a b n M hn hM n 0 [] [] (by omega) rfl rfl
  ·have e : ((M.length : Int) != 8 * (n : Int)) = true := by simp; omega
   rw [e, if_neg (by omega)]
   exact Ev.succ (fun k => spec_GetSig.j1.eq_2 ..) (Ev.ite_pos rfl Ev.some)
 ·rw [if_neg (by omega)]
  exact Ev.ite_pos (by omega) (Ev.succ (fun k => spec_GetSig.j1.eq_2 ..) (Ev.ite_pos rfl Ev.some))
theorem vti_split {L : List UInt8} {v c : Nat} (h : dv 9 L = some (v, c)) : L = vti (v : Int) ++ L.drop c := by rw [vti_nat]; exact split_at h
theorem getSig_sound (L : List UInt8) : ∃ r, Ev (fun k => spec_GetSig.f k (nums L)) r ∧ SigRes L r := by
 cases hd : dv 9 L with
 | none => exact ⟨_, specSig_fail (by simp) hd, .inl rfl⟩
 | some p =>
  obtain ⟨a, c1⟩ := p
  cases hd2 : dv 9 (L.drop c1) with
  | none => exact ⟨_, specSig_var (by simp) hd (specSig_fail (by simp) hd2), .inl rfl⟩
  | some p =>
   obtain ⟨b, c2⟩ := p
   cases hd3 : dv 9 ((L.drop c1).drop c2) with
   | none => exact ⟨_, specSig_var (by simp) hd (specSig_var (by simp) hd2 (specSig_fail (by simp) hd3)), .inl rfl⟩
   | some p =>
    obtain ⟨n, c3⟩ := p
    obtain ⟨_, h2, _, h4⟩ := dv_bound 9 _ n c3 hd3
    refine ⟨_, specSig_var (by simp) hd (specSig_var (by simp) hd2 (specSig_var (by simp) hd3 (specSig_end _ a b n (pow_le63 h4 h2)))), ?_⟩
    generalize hM : ((L.drop c1).drop c2).drop c3 = M
    by_cases hc : n ≤ 2500 ∧ M.length = 8 * n
    ·rw [if_pos hc]
     by_cases hg : sigGood a b (wk n M) (st n M) = true
     ·rw [if_pos hg]
      refine .inr ⟨_, _, _, _, rfl, ?_, hg, wk_range n M⟩
      rw [sigBytes, wk_length, pieces_back n M hc.2, ← hM, ← vti_split hd3, ← vti_split hd2]
      exact vti_split hd
     ·rw [if_neg hg]; exact .inl rfl
    ·rw [if_neg hc]; exact .inl rfl
theorem dv_vti {a : Int} (h0 : 0 ≤ a) (h1 : a < 9223372036854775808) (r : List UInt8) : dv 9 (vti a ++ r) = some (a.toNat, (vtl a.toNat).length) ∧ (vti a ++ r).drop (vtl a.toNat).length = r := by
 have e : vti a = vtl a.toNat := by unfold vti; rw [if_pos h0]
 rw [e]
 exact ⟨dv_of_vtl 9 _ r (vtl_le9 (by omega)), List.drop_left⟩
theorem getSig_complete {a b : Int} {w : List Int} {s : List ByteArray} (hg : sigGood a b w s = true) (hr : ∀ x ∈ w, 0 ≤ x ∧ x < 4294967296) :
  Ev (fun k => spec_GetSig.f k (nums (sigBytes a b w s))) (a, b, w, s, true) := by
 obtain ⟨⟨a1, a2⟩, ⟨b1, b2⟩, h3, h4, h5⟩ := sigGood_parts hg
 obtain ⟨d1, e1⟩ := dv_vti (a := a) (by omega) (by omega) (vti b ++ (vti (w.length : Int) ++ pieces w s))
 obtain ⟨d2, e2⟩ := dv_vti (a := b) b1 (by omega) (vti (w.length : Int) ++ pieces w s)
 obtain ⟨d3, e3⟩ := dv_vti (a := (w.length : Int)) (by omega) (by omega) (pieces w s)
 have h := specSig_end (pieces w s) a.toNat b.toNat w.length (by omega)
 obtain ⟨q1, q2⟩ := wk_pieces w s h4 h5 hr
 rw [if_pos ⟨h3, pieces_length w s h4 h5⟩, q1, q2, Int.toNat_of_nonneg (by omega), Int.toNat_of_nonneg b1, if_pos hg] at h
 have h' : Ev (fun k => spec_GetSig.l0 k (nums ((vti (w.length : Int) ++ pieces w s).drop (vtl (w.length : Int).toNat).length)) ([(a.toNat : Int), (b.toNat : Int)] ++ [((w.length : Int).toNat : Int)])) (a, b, w, s, true) := by
  rw [e3, Int.toNat_of_nonneg (by omega), Int.toNat_of_nonneg b1, Int.toNat_of_nonneg (by omega)]
  exact h
 have h2 := specSig_var (by simp) d3 h'
 have h2' : Ev (fun k => spec_GetSig.l0 k (nums ((vti b ++ (vti (w.length : Int) ++ pieces w s)).drop (vtl b.toNat).length)) ([(a.toNat : Int)] ++ [(b.toNat : Int)])) (a, b, w, s, true) := by
  rw [e2]; exact h2
 have h1 := specSig_var (by simp) d2 h2'
 refine specSig_var (X := []) (by simp) d1 ?_
 rw [e1]; exact h1
/-! ### The program's reader -/
theorem readSig_over (n : Int) (i : Int) (s : ByteArray) (bad : Bool) (a b : Int) (W : List Int) (S : List ByteArray) (hW : W.length ≤ 140737488351232) (hS : S.length ≤ 140737488351232) : ∃ r, Ev (fun k => impl_readSig.j1 k n i false s bad a b W S) r ∧ (r = (0, 0, [], [], false) ∨ r = (a, b, W, S, true)) := by
 have fail : Ev (fun k => impl_readSig.j2 k true a b W S) (0, 0, [], [], false) := Ev.succ (fun k => impl_readSig.j2.eq_2 ..) (Ev.ite_pos rfl Ev.some)
 cases bad with
 | true => exact ⟨_, Ev.succ (fun k => impl_readSig.j1.eq_2 ..) (Ev.ite_neg (by decide) (Ev.ite_pos rfl fail)), .inl rfl⟩
 | false =>
  by_cases hs : s.toList = ([] : List UInt8)
  ·cases hg : sigGood a b W S with
   | false =>
    refine ⟨_, Ev.succ (fun k => impl_readSig.j1.eq_2 ..) (Ev.ite_neg (by decide) (Ev.ite_neg (by decide) (Ev.ite_pos hs (Ev.bind (implSigOk a b W S hW hS) ?_)))), .inl rfl⟩
    rw [hg]
    exact Ev.ite_neg (by decide) fail
   | true =>
    by_cases hn : (W.length : Int) = n
    ·refine ⟨_, Ev.succ (fun k => impl_readSig.j1.eq_2 ..) (Ev.ite_neg (by decide) (Ev.ite_neg (by decide) (Ev.ite_pos hs (Ev.bind (implSigOk a b W S hW hS) ?_)))), .inr rfl⟩
     rw [hg]
     refine Ev.ite_pos rfl ?_
     have e : ((W.length : Int) != n) = false := by simp [hn]
     rw [e]
     exact Ev.succ (fun k => impl_readSig.j2.eq_2 ..) (Ev.ite_neg (by decide) Ev.some)
    ·refine ⟨_, Ev.succ (fun k => impl_readSig.j1.eq_2 ..) (Ev.ite_neg (by decide) (Ev.ite_neg (by decide) (Ev.ite_pos hs (Ev.bind (implSigOk a b W S hW hS) ?_)))), .inl rfl⟩
     rw [hg]
     refine Ev.ite_pos rfl ?_
     have e : ((W.length : Int) != n) = true := by simp [hn]
     rw [e]
     exact fail
  ·exact ⟨_, Ev.succ (fun k => impl_readSig.j1.eq_2 ..) (Ev.ite_neg (by decide) (Ev.ite_neg (by decide) (Ev.ite_neg hs fail))), .inl rfl⟩
/-- What the program's reader of signatures may tell. -/
def SigIs (a b : Int) (r : Int × Int × List Int × List ByteArray × Bool) : Prop :=
 r = (0, 0, [], [], false) ∨ ∃ w s, r = (a, b, w, s, true) ∧ (∀ x ∈ w, 0 ≤ x ∧ x < 4294967296) ∧ w.length ≤ 2501 ∧ s.length ≤ 2501
theorem readSig_loop (n a b : Int) : ∀ (m i : Nat) (L : List UInt8) (bad : Bool) (W : List Int) (S : List ByteArray), m + i = 2501 → W.length = i → S.length = i → (∀ x ∈ W, 0 ≤ x ∧ x < 4294967296) →
  ∃ r, Ev (fun k => impl_readSig.l0 k n (i : Int) (B L) bad a b W S) r ∧ SigIs a b r := by
 have stop : ∀ (i : Nat) (L : List UInt8) (bad : Bool) (W : List Int) (S : List ByteArray), i ≤ 2501 → W.length = i → S.length = i → (∀ x ∈ W, 0 ≤ x ∧ x < 4294967296) → ∃ r, Ev (fun k => impl_readSig.j1 k n (i : Int) false (B L) bad a b W S) r ∧ SigIs a b r := by
  intro i L bad W S hi hW hS hr
  obtain ⟨r, h1, h2⟩ := readSig_over n i (B L) bad a b W S (by omega) (by omega)
  refine ⟨r, h1, ?_⟩
  rcases h2 with h | h
  ·exact .inl h
  ·exact .inr ⟨W, S, h, hr, by omega, by omega⟩
 intro m
 induction m with
 | zero =>
  intro i L bad W S hi hW hS hr
  obtain ⟨r, h1, h2⟩ := stop i L bad W S (by omega) hW hS hr
  refine ⟨r, Ev.succ (fun k => impl_readSig.l0.eq_2 ..) ?_, h2⟩
  by_cases h : (i : Int) < n
  ·exact Ev.ite_pos h (Ev.ite_neg (by omega) h1)
  ·exact Ev.ite_neg h h1
 | succ m ih =>
  intro i L bad W S hi hW hS hr
  by_cases h : (i : Int) < n
  ·cases bad with
   | true =>
    obtain ⟨r, h1, h2⟩ := stop i L true W S (by omega) hW hS hr
    exact ⟨r, Ev.succ (fun k => impl_readSig.l0.eq_2 ..) (Ev.ite_pos h (Ev.ite_pos (by omega) h1)), h2⟩
   | false =>
    have step : ∀ (x : Int) (L1 : List UInt8) (bad1 : Bool), impl_reader_word.f (B L) false = some (x, B L1, bad1) → 0 ≤ x ∧ x < 4294967296 → ∃ r, Ev (fun k => impl_readSig.l0 k n (i : Int) (B L) false a b W S) r ∧ SigIs a b r := by
     intro x L1 bad1 hw hx
     have h4 : (4 : Int) = ((4 : Nat) : Int) := rfl
     have tk : ∃ y L2 bad2, impl_reader_take.f (B L1) bad1 4 = some (y, B L2, bad2) := by
      rw [h4, take_says]
      cases bad1 with
      | true => exact ⟨_, L1, true, rfl⟩
      | false =>
       by_cases hl : L1.length < 4
       ·exact ⟨⟨#[]⟩, L1, true, by simp [hl]⟩
       ·exact ⟨B (L1.take 4), L1.drop 4, false, by simp [hl]⟩
     obtain ⟨y, L2, bad2, ht⟩ := tk
     obtain ⟨r, h1, h2⟩ := ih (i + 1) L2 bad2 (W ++ [x]) (S ++ [y]) (by omega) (by simp; omega) (by simp; omega) (by
      intro z hz
      rcases List.mem_append.1 hz with hz | hz
      ·exact hr z hz
      ·rw [List.mem_singleton.1 hz]; exact hx)
     refine ⟨r, Ev.succ (fun k => impl_readSig.l0.eq_2 ..) (Ev.ite_pos h (Ev.ite_pos (by omega) (Ev.succ (fun k => impl_readSig.j1.eq_2 ..) (Ev.ite_pos rfl (Ev.bind' hw (Ev.ite_pos (by omega) (Ev.bind' ht (Ev.ite_pos (by omega) ?_)))))))), h2⟩
     rw [wrap64_id (by omega) (by omega)]
     exact h1
    by_cases hl : L.length < 4
    ·exact step 0 L true (by rw [word_says]; simp [hl]) (by omega)
    ·exact step ((w4 (L.take 4) : Nat) : Int) (L.drop 4) false (by rw [word_says]; simp [hl]) (by have := w4_lt (L.take 4); omega)
  ·obtain ⟨r, h1, h2⟩ := stop i L bad W S (by omega) hW hS hr
   exact ⟨r, Ev.succ (fun k => impl_readSig.l0.eq_2 ..) (Ev.ite_neg h h1), h2⟩
theorem number_ex (L : List UInt8) (bad : Bool) (hL : L.length ≤ 140737488351232) : ∃ (v : Nat) (M : List UInt8) (bad1 : Bool), Ev (fun k => impl_reader_number.f k (B L) bad) ((v : Int), B M, bad1) ∧ M.length ≤ L.length ∧ v < 9223372036854775808 := by
 have h := number_says L bad hL
 cases hd : dv 9 L with
 | none => rw [hd] at h; exact ⟨0, L, true, h, Nat.le_refl _, by omega⟩
 | some p =>
  obtain ⟨v, c⟩ := p
  obtain ⟨_, h2, _, h4⟩ := dv_bound 9 L v c hd
  rw [hd] at h
  cases bad with
  | true => exact ⟨v, L, true, h, Nat.le_refl _, pow_le63 h4 h2⟩
  | false => exact ⟨v, L.drop c, false, h, by rw [List.length_drop]; omega, pow_le63 h4 h2⟩
theorem readSig_sound (L : List UInt8) (hL : L.length ≤ 140737488351232) : ∃ (a b : Nat) (r : _), a < 9223372036854775808 ∧ b < 9223372036854775808 ∧ Ev (fun k => impl_readSig.f k (B L)) r ∧ SigIs (a : Int) (b : Int) r := by
 obtain ⟨a, M1, bad1, e1, l1, v1⟩ := number_ex L false hL
 obtain ⟨b, M2, bad2, e2, l2, v2⟩ := number_ex M1 bad1 (by omega)
 obtain ⟨n, M3, bad3, e3, l3, v3⟩ := number_ex M2 bad2 (by omega)
 obtain ⟨r, h1, h2⟩ := readSig_loop (n : Int) (a : Int) (b : Int) 2501 0 M3 bad3 [] [] rfl rfl rfl (by simp)
 exact ⟨a, b, r, v1, v2, Ev.congr (fun k => impl_readSig.f.eq_1 ..) (Ev.bind e1 (Ev.bind e2 (Ev.bind e3 h1))), h2⟩
theorem readSig_rest (a b : Int) (n : Nat) : ∀ (w2 : List Int) (s2 : List ByteArray) (W : List Int) (S : List ByteArray), w2.length = s2.length → W.length + w2.length = n → S.length = W.length → n ≤ 2500 → (∀ x ∈ s2, x.size = 4) → (∀ x ∈ w2, 0 ≤ x ∧ x < 4294967296) → sigGood a b (W ++ w2) (S ++ s2) = true →
  Ev (fun k => impl_readSig.l0 k (n : Int) (W.length : Int) (B (pieces w2 s2)) false a b W S) (a, b, W ++ w2, S ++ s2, true) := by
 intro w2
 induction w2 with
 | nil =>
  intro s2 W S hl hn hS h25 h4 hr hg
  have e : s2 = [] := List.eq_nil_of_length_eq_zero hl.symm
  subst e
  rw [List.append_nil, List.append_nil] at *
  rw [List.length_nil] at hn
  refine Ev.succ (fun k => impl_readSig.l0.eq_2 ..) (Ev.ite_neg (by omega) (Ev.succ (fun k => impl_readSig.j1.eq_2 ..) (Ev.ite_neg (by decide) (Ev.ite_neg (by decide) (Ev.ite_pos empty_toList (Ev.bind (implSigOk a b W S (by omega) (by omega)) ?_))))))
  rw [hg]
  refine Ev.ite_pos rfl ?_
  have e : ((W.length : Int) != (n : Int)) = false := by simp; omega
  rw [e]
  exact Ev.succ (fun k => impl_readSig.j2.eq_2 ..) (Ev.ite_neg (by decide) Ev.some)
 | cons x w2 ih =>
  intro s2 W S hl hn hS h25 h4 hr hg
  match s2, hl with
  | y :: s2, hl =>
   obtain ⟨p1, p2, p3, p4⟩ := pieces_parts (a := x) w2 s2 (h4 y (List.mem_cons_self ..))
   obtain ⟨r1, r2⟩ := hr x (List.mem_cons_self ..)
   have hy : y.data.toList.length = 4 := by rw [data_length]; exact h4 y (List.mem_cons_self ..)
   have hlen : (pieces (x :: w2) (y :: s2)).length = 8 + (pieces w2 s2).length := by
    rw [pieces, List.length_append, List.length_append, wb_length, hy]
   rw [List.length_cons] at hn
   have := ih s2 (W ++ [x]) (S ++ [y]) (by simpa using hl) (by simp; omega) (by simp; omega) h25 (fun z hz => h4 z (List.mem_cons_of_mem _ hz)) (fun z hz => hr z (List.mem_cons_of_mem _ hz)) (by simpa using hg)
   rw [List.append_assoc, List.append_assoc, List.singleton_append, List.singleton_append, List.length_append] at this
   have hw : impl_reader_word.f (B (pieces (x :: w2) (y :: s2))) false = some (x, B (y.data.toList ++ pieces w2 s2), false) := by
    have e := w4_wb x r1 r2 []
    rw [List.append_nil] at e
    rw [word_says, if_neg (by decide), if_neg (by omega), p1, p2, e]
   have ht : impl_reader_take.f (B (y.data.toList ++ pieces w2 s2)) false 4 = some (y, B (pieces w2 s2), false) := by
    have e4 : (4 : Int) = ((4 : Nat) : Int) := rfl
    rw [e4, take_says, if_neg (by decide), if_neg (by rw [List.length_append]; omega), List.take_left' hy, List.drop_left' hy, B_toList]
   refine Ev.succ (fun k => impl_readSig.l0.eq_2 ..) (Ev.ite_pos (by omega) (Ev.ite_pos (by omega) (Ev.succ (fun k => impl_readSig.j1.eq_2 ..) (Ev.ite_pos rfl (Ev.bind' hw (Ev.ite_pos (by omega) (Ev.bind' ht (Ev.ite_pos (by omega) ?_))))))))
   rw [wrap64_id (by omega) (by omega)]
   exact this
theorem nres_vti {a : Int} (h0 : 0 ≤ a) (h1 : a < 9223372036854775808) (r : List UInt8) : nres (vti a ++ r) false (dv 9 (vti a ++ r)) = (a, B r, false) := by
 obtain ⟨d, e⟩ := dv_vti h0 h1 r
 rw [d]
 simp only [nres]
 rw [if_neg (by decide), e, Int.toNat_of_nonneg h0]
theorem readSig_complete {a b : Int} {w : List Int} {s : List ByteArray} (hg : sigGood a b w s = true) (hr : ∀ x ∈ w, 0 ≤ x ∧ x < 4294967296) (hL : (sigBytes a b w s).length ≤ 140737488351232) :
  Ev (fun k => impl_readSig.f k (B (sigBytes a b w s))) (a, b, w, s, true) := by
 obtain ⟨⟨a1, a2⟩, ⟨b1, b2⟩, h3, h4, h5⟩ := sigGood_parts hg
 have h := readSig_rest a b w.length w s [] [] h4 (by simp) rfl h3 h5 hr hg
 unfold sigBytes at hL ⊢
 have l1 : (vti b ++ (vti (w.length : Int) ++ pieces w s)).length ≤ 140737488351232 := by rw [List.length_append] at hL; omega
 have l2 : (vti (w.length : Int) ++ pieces w s).length ≤ 140737488351232 := by rw [List.length_append] at l1; omega
 refine Ev.congr (fun k => impl_readSig.f.eq_1 ..) (Ev.bind (number_says _ false hL) ?_)
 rw [nres_vti (by omega) (by omega)]
 refine Ev.bind (number_says _ false l1) ?_
 rw [nres_vti b1 (by omega)]
 refine Ev.bind (number_says _ false l2) ?_
 rw [nres_vti (by omega) (by omega)]
 exact h
/-! ### The program's bytes of a signature -/
theorem B_append (L M : List UInt8) : B L ++ B M = B (L ++ M) := by
 apply ByteArray.ext
 simp [B]
theorem wordText_says (w : Int) : impl_wordText.f w = some (B (wb w)) := rfl
theorem varText_says {a : Int} (h : a ≤ 9223372036854775807) : impl_varText.f a = some (B (vti a)) := by
 unfold impl_varText.f
 rw [if_pos h]; rfl
theorem sigText_l0 (a b : Int) (w0 : List Int) (s0 : List ByteArray) (hl : w0.length = s0.length) (h25 : w0.length ≤ 2500) (h4 : ∀ x ∈ s0, x.size = 4) : ∀ (m i : Nat) (acc : List UInt8), i + m = w0.length → acc.length + 8 * m ≤ 140737488351232 →
  Ev (fun k => impl_sigText.l0 k (B acc) w0 (w0.length : Int) (i : Int) a b w0 s0) (B (acc ++ pieces (w0.drop i) (s0.drop i))) := by
 intro m
 induction m with
 | zero =>
  intro i acc hi ha
  rw [List.drop_eq_nil_of_le (by omega), List.drop_eq_nil_of_le (by omega), pieces, List.append_nil]
  ·exact Ev.succ (fun k => impl_sigText.l0.eq_2 ..) (Ev.ite_neg (by omega) Ev.some)
  ·simp
 | succ m ih =>
  intro i acc hi ha
  have iw : i < w0.length := by omega
  have is : i < s0.length := by omega
  have hrw : rd w0 (i : Int) = w0[i] := by simp [rd, List.getD_eq_getElem?_getD, List.getElem?_eq_getElem iw]
  have hrs : rdOf ByteArray.empty s0 (i : Int) = s0[i] := by simp [rdOf, List.getD_eq_getElem?_getD, List.getElem?_eq_getElem is]
  have hs4 : s0[i].size = 4 := h4 _ (List.getElem_mem is)
  have hsl : s0[i].data.toList.length = 4 := by rw [data_length]; exact hs4
  have := ih (i + 1) (acc ++ (wb w0[i] ++ s0[i].data.toList)) (by omega) (by simp only [List.length_append, wb_length, hsl]; omega)
  rw [List.drop_eq_getElem_cons iw, List.drop_eq_getElem_cons is, pieces]
  rw [List.append_assoc, ] at this
  refine Ev.succ (fun k => impl_sigText.l0.eq_2 ..) (Ev.ite_pos (by omega) (Ev.ite_pos (by omega) (Ev.ite_pos (by omega) ?_)))
  rw [hrw, hrs, wordText_says]
  have eb : B (wb w0[i]) ++ s0[i] = B (wb w0[i] ++ s0[i].data.toList) := by rw [← B_append, B_toList]
  refine Ev.some_bind (Ev.ite_pos (by omega) (Ev.ite_pos (by rw [B_size, wb_length]; omega) ?_))
  rw [eb, B_append, wrap64_id (by omega) (by omega)]
  refine Ev.ite_pos (by rw [B_size, B_size, List.length_append, wb_length, hsl]; omega) ?_
  exact this
theorem sigText_says {a b : Int} {w : List Int} {s : List ByteArray} (hg : sigGood a b w s = true) : Ev (fun k => impl_sigText.f k a b w s) (B (sigBytes a b w s)) := by
 obtain ⟨⟨a1, a2⟩, ⟨b1, b2⟩, h3, h4, h5⟩ := sigGood_parts hg
 have l1 := vti_len (x := a) (by omega)
 have l2 := vti_len (x := b) (by omega)
 have l3 := vti_len (x := (w.length : Int)) (by omega)
 refine Ev.congr (fun k => impl_sigText.f.eq_1 ..) ?_
 refine Ev.bind' (varText_says (by omega)) (Ev.bind' (varText_says (by omega)) (Ev.ite_pos (by rw [B_size, B_size]; omega) (Ev.bind' (varText_says (by omega)) ?_)))
 rw [B_append, B_append]
 refine Ev.ite_pos (by rw [B_size, B_size, List.length_append]; omega) ?_
 have := sigText_l0 a b w s h4 h3 h5 w.length 0 (vti a ++ vti b ++ vti (w.length : Int)) (by omega) (by simp only [List.length_append]; omega)
 rw [List.drop_zero, List.drop_zero, List.append_assoc, List.append_assoc] at this
 have e : sigBytes a b w s = vti a ++ (vti b ++ vti (w.length : Int) ++ pieces w s) := by simp [sigBytes]
 rw [List.append_assoc, e]
 exact this
end Go.Proofs.Ytjiaigjmihmdjaa.Pure
